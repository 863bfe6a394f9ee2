/- Walks and plain laws: GoodLaws, ProgPE, ProgMem, ZMem, ZedW3. -/
import Derived.Test.YtknicmmigbhpcaaGreatDoorF14
import Derived.Laws.BitsAllLaws
set_option maxHeartbeats 16000000
set_option maxRecDepth 100000
set_option linter.unusedVariables false
set_option linter.unusedSimpArgs false
namespace Go.Proofs.YtknicmmigbhpcaaGreatDoor
theorem Ho {n:Nat}(h:n<100):(fK n).length≤2:=by
 rw[fK]
 split
 ·simp
 ·rw[fK,dif_pos (by omega)]
  simp
mutual
theorem Ck:∀ (t:PT) (b u:Nat),t.wf→∀ n∈t.em b u,(0≤n.kind∧n.kind<100)∧(n.kind=19→(u:Int)≤n.tok∧n.tok<((u+t.lv:Nat):Int))
 | .leaf,b,u,_,n,h=>by
  rw[PT.em,List.mem_singleton] at h;subst h;rw[PT.lv];simp only;omega
 | .node k l,b,u,hw,n,h=>by
  rw[PT.wf] at hw;rw[PT.em,List.mem_append,List.mem_singleton] at h
  rcases h with h|h
  ·exact Fz l b u hw.2.2 n h
  ·subst h
   simp only;omega
theorem Fz:∀ (l:List PT) (b u:Nat),kF l→∀ n∈wL b u l,(0≤n.kind∧n.kind<100)∧(n.kind=19→(u:Int)≤n.tok∧n.tok<((u+bB l:Nat):Int))
 | [],b,u,_,n,h=>by rw[wL] at h;cases h
 | t :: l,b,u,hw,n,h=>by
  rw[kF] at hw;rw[wL,List.mem_append] at h;rw[bB]
  rcases h with h|h
  ·have:=Ck t _ _ hw.1 n h
   exact⟨this.1,fun q=>by have:=this.2 q;omega⟩
  ·have:=Fz l _ _ hw.2 n h
   exact⟨this.1,fun q=>by have:=this.2 q;omega⟩
end
mutual
theorem qp {toks:List Tok}{M:Nat}(hM:∀ u,(aI toks u).length≤M):∀ (t:PT) (u:Nat),t.wf→(t.dump toks u).length+1≤t.nd * (M+16)
 | .leaf,u,_=>by
  rw[PT.dump,mI,PT.nd,bP];have:=hM u;unfold aI at this
  split<;>simp<;>omega
 | .node k l,u,hw=>by
  rw[PT.wf] at hw;have h1:=Cm hM l u hw.2.2;have h2:=Ho (n:=k) (by omega);rw[PT.dump,PT.nd,Nat.succ_mul];simp only[bP,dX,List.length_nil];omega
theorem Cm {toks:List Tok}{M:Nat}(hM:∀ u,(aI toks u).length≤M):∀ (l:List PT) (u:Nat),kF l→(zN toks u l).length≤dI l * (M+16)
 | [],u,_=>by simp[zN]
 | t :: l,u,hw=>by
  rw[kF] at hw;have h1:=qp hM t u hw.1;have h2:=Cm hM l (u+t.lv) hw.2;rw[zN,dI,Nat.add_mul];simp only[bP,dX,List.length_nil];omega
end
mutual
def PE.fits (M:Nat):PE→Prop
 | .mk op name module num txt _ kids _=>op<100∧name.length≤M∧module.length≤M∧txt.length≤M∧(iW num).length≤M∧num.natAbs<10 ^ 60∧iA M kids
def iA (M:Nat):List PE→Prop
 | []=>True
 | e :: l=>e.fits M∧iA M l
end
theorem M9 {toks:List Tok}(hN:∀ t∈toks,t.kind=3→qZ t.text)(h0:0<toks.length){u:Nat}(hk:gu toks u=3):iG (aI toks u)<10 ^ 60:=by
 have h:=hN _ (sW h0 u) hk;exact Nat.lt_of_lt_of_le (Ay _ h.1) (Nat.pow_le_pow_right (by omega) h.2.2.1)
mutual
theorem CE.fits {toks:List Tok}{M:Nat}(h0:0<toks.length)(hN:∀ t∈toks,t.kind=3→qZ t.text)(hM:∀ u,(aI toks u).length≤M)(h1:1≤M){cl:Bool}:∀ (e:CE) (u:Nat),e.ok toks cl u→(e.pe toks u).fits M
 | .num,u,h=>by
  rw[CE.ok] at h;rw[CE.pe,PE.fits,wT,show fK (iG (aI toks u))=aI toks u from (hN _ (sW h0 u) h).dec];have:=M9 hN h0 h;exact⟨by omega,by simp,by simp,hM u,hM u,by omega,by rw[iA];trivial⟩
 | .truth,u,h=>by rw[CE.pe,PE.fits,iA];exact⟨by omega,by simp,by simp,by simp,by simpa [iW,fK] using h1,by simp,trivial⟩
 | .res,u,h=>by rw[CE.pe,PE.fits,iA];exact⟨by omega,by simp,by simp,by simp,by simpa [iW,fK] using h1,by simp,trivial⟩
 | .Jj,u,h=>by rw[CE.pe,PE.fits,iA];exact⟨by omega,hM u,by simp,by simp,by simpa [iW,fK] using h1,by simp,trivial⟩
 | .group e,u,h=>by
  rw[CE.ok] at h;rw[CE.pe];exact CE.fits h0 hN hM h1 e _ h.2
 | .un e,u,h=>by
  rw[CE.ok] at h;rw[CE.pe,PE.fits,iA,iA];exact⟨by split<;>omega,by simp,by simp,by simp,by simpa [iW,fK] using h1,by simp,CE.fits h0 hN hM h1 e _ h.2,trivial⟩
 | .bin a b,u,h=>by
  rw[CE.ok] at h;rw[CE.pe,PE.fits,iA,iA,iA];have hi:nS.idxOf (aI toks (u+a.pt.lv))≤nS.length:=List.idxOf_le_length;have hl:nS.length=14:=rfl;exact⟨by omega,by simp,by simp,by simp,by simpa [iW,fK] using h1,by simp,CE.fits h0 hN hM h1 a _ h.2.1,CE.fits h0 hN hM h1 b _ h.2.2,trivial⟩
 | .iff a b c,u,h=>by
  rw[CE.ok] at h;rw[CE.pe,PE.fits,iA,iA,iA,iA];exact⟨by omega,by simp,by simp,by simp,by simpa [iW,fK] using h1,by simp,CE.fits h0 hN hM h1 a _ h.2.1,CE.fits h0 hN hM h1 b _ h.2.2.1,CE.fits h0 hN hM h1 c _ h.2.2.2,trivial⟩
 | .pF a b,u,h=>by
  rw[CE.ok] at h;rw[CE.pe,PE.fits,iA,iA,iA];exact⟨by omega,hM _,by simp,by simp,by simpa [iW,fK] using h1,by simp,CE.fits h0 hN hM h1 a _ h.2.2.1,CE.fits h0 hN hM h1 b _ h.2.2.2,trivial⟩
 | .pG a b,u,h=>by
  rw[CE.ok] at h;rw[CE.pe,PE.fits,iA,iA,iA];exact⟨by omega,by simp,by simp,by simp,by simpa [iW,fK] using h1,by simp,CE.fits h0 hN hM h1 a _ h.2.1,CE.fits h0 hN hM h1 b _ h.2.2,trivial⟩
 | .call q l,u,h=>by
  rw[CE.ok] at h;rw[CE.pe]
  cases q with
  | true =>
   rw[if_pos rfl,PE.fits];exact⟨by omega,hM _,hM _,by simp,by simpa [iW,fK] using h1,by simp,Cn h0 hN hM h1 l _ h.2.2.2.2.2⟩
  | false =>
   rw[if_neg (by decide),PE.fits];exact⟨by omega,hM _,by simp,by simp,by simpa [iW,fK] using h1,by simp,Cn h0 hN hM h1 l _ h.2.2.2.2⟩
theorem Cn {toks:List Tok}{M:Nat}(h0:0<toks.length)(hN:∀ t∈toks,t.kind=3→qZ t.text)(hM:∀ u,(aI toks u).length≤M)(h1:1≤M){cl:Bool}:∀ (l:List CE) (u:Nat),mU toks cl u l→iA M (iq toks u l)
 | [],u,_=>by rw[iq,iA];trivial
 | e :: l,u,h=>by
  rw[mU] at h;rw[iq,iA];exact⟨CE.fits h0 hN hM h1 e _ h.1,Cn h0 hN hM h1 l _ h.2⟩
end
theorem Pk (a b:List PT):dI (a++b)=dI a+dI b:=lI a b
mutual
def PE.iR:PE→Nat
 | .mk _ _ _ _ _ _ kids _=>1+eZ kids
def eZ:List PE→Nat
 | []=>0
 | e :: l=>e.iR+eZ l
end
mutual
theorem CE.gU (toks:List Tok):∀ (e:CE) (u:Nat),(e.pe toks u).iR≤e.pt.nd
 | .num,u=>by simp[CE.pe,PE.iR,eZ,CE.pt,PT.nd,dI]
 | .truth,u=>by simp[CE.pe,PE.iR,eZ,CE.pt,PT.nd,dI]
 | .res,u=>by simp[CE.pe,PE.iR,eZ,CE.pt,PT.nd,dI]
 | .Jj,u=>by simp[CE.pe,PE.iR,eZ,CE.pt,PT.nd,dI]
 | .group e,u=>by
  have:=CE.gU toks e (u+1);simp only[CE.pe,CE.pt,PT.nd,dI];omega
 | .un e,u=>by
  have:=CE.gU toks e (u+1);simp only[CE.pe,PE.iR,eZ,CE.pt,PT.nd,dI];omega
 | .bin a b,u=>by
  have h1:=CE.gU toks a u;have h2:=CE.gU toks b (u+a.pt.lv+1);simp only[CE.pe,PE.iR,eZ,CE.pt,PT.nd,dI];omega
 | .iff a b c,u=>by
  have h1:=CE.gU toks a (u+1);have h2:=CE.gU toks b (u+1+a.pt.lv+1);have h3:=CE.gU toks c (u+1+a.pt.lv+1+b.pt.lv+1);simp only[CE.pe,PE.iR,eZ,CE.pt,PT.nd,dI];omega
 | .pF a b,u=>by
  have h1:=CE.gU toks a (u+3);have h2:=CE.gU toks b (u+3+a.pt.lv+1);simp only[CE.pe,PE.iR,eZ,CE.pt,PT.nd,dI];omega
 | .pG a b,u=>by
  have h1:=CE.gU toks a (u+1);have h2:=CE.gU toks b (u+1+a.pt.lv+1);simp only[CE.pe,PE.iR,eZ,CE.pt,PT.nd,dI];omega
 | .call q l,u=>by
  have h:∀ u,eZ (iq toks u l)≤dI (dS l):=fun u=>xD toks l u
  cases q with
  | true =>
   have:=h (u+4);simp only[CE.pe,if_pos,PE.iR,CE.pt,PT.nd,Pk,dI];omega
  | false =>
   have:=h (u+2);simp only[CE.pe,PE.iR,CE.pt,PT.nd,Pk,dI,Bool.false_eq_true,if_false];omega
theorem xD (toks:List Tok):∀ (l:List CE) (u:Nat),eZ (iq toks u l)≤dI (dS l)
 | [],u=>by simp[iq,eZ]
 | [e],u=>by
  have:=CE.gU toks e u;simp only[iq,eZ,qQ,dI];omega
 | e :: f :: l,u=>by
  have h1:=CE.gU toks e u;have h2:=xD toks (f :: l) (u+e.pt.lv+1);rw[iq,eZ,lJ,dI,dI];simp only[PT.nd];omega
end
theorem UG {op:Nat}{nm md nu:List UInt8}{ys:Bool}{M:Nat}(h1:op<100)(h2:nm.length≤M)(h3:md.length≤M)(h4:nu.length≤M):(Jr op nm md nu ys).length≤3 * M+20:=by
 have:=Ho h1;unfold Jr;simp only[bP,dX,List.length_nil]
 split<;>split<;>split<;>(try split)<;>(try split)<;>simp<;>omega
mutual
theorem FB {M:Nat}:∀ (e:PE),e.fits M→e.oP.length+1≤e.iR * (3 * M+30)
 | .mk op name module num txt yes kids a,h=>by
  rw[PE.fits] at h;have h1:=Co kids h.2.2.2.2.2.2;have h2:=UG (ys:=yes) h.1 h.2.1 h.2.2.1 h.2.2.2.1;rw[PE.oP,PE.iR,Nat.add_mul];simp only[bP,dX,List.length_nil];omega
theorem Co {M:Nat}:∀ (l:List PE),iA M l→(sw l).length≤eZ l * (3 * M+30)
 | [],_=>by simp[sw]
 | e :: l,h=>by
  rw[iA] at h;have h1:=FB e h.1;have h2:=Co l h.2;rw[sw,eZ,Nat.add_mul];simp only[bP,dX,List.length_nil];omega
end
structure FF where
 name:List UInt8
 base:Nat
 clause:List PE
 at_:Nat
 bare:Int
structure DD where
 pub:Bool
 params:List FF
 res:FF
 body:PE
structure PP where
 imports:List (List UInt8 × Nat)
 defs:List DD
def fu.ff (toks:List Tok)(u:Nat)(name:List UInt8)(at_:Nat)(t:fu):FF where
 name:=name
 base:=if aI toks (u+1)=xB then 2 else 1
 clause:=match t.cl with|none=>[]|some e=>[e.pe toks (u+3)]
 at_:=at_
 bare:=match t.cl with|none=>((bZ toks (u+1)+(aI toks (u+1)).length:Nat):Int)|some _=>-1
def fu.sZ (toks:List Tok)(u:Nat)(t:fu):FF:=t.ff toks (u+1) (aI toks u) (bZ toks u)
def lX (toks:List Tok)(u:Nat):List fu→List FF
 | []=>[]
 | t :: l=>t.sZ toks u :: lX toks (u+t.par.lv+1) l
def cB.dd (toks:List Tok)(u:Nat)(d:cB):DD where
 pub:=d.pub
 params:=lX toks (d.Cj u+3) d.jS
 res:=d.ty.ff toks (d.at2 u) (aI toks (d.Cj u+1)) (bZ toks (d.Cj u+1))
 body:=d.body.pe toks (d.at3 u)
def kU (toks:List Tok)(u:Nat):List cB→List DD
 | []=>[]
 | d :: l=>d.dd toks u :: kU toks (u+d.pt.lv) l
def mW (toks:List Tok)(u:Nat):Nat→List (List UInt8 × Nat)
 | 0=>[]
 | n+1=>(aI toks (u+1),bZ toks (u+1)) :: mW toks (u+3) n
def kG.pp (toks:List Tok)(p:kG):PP:=⟨mW toks 0 p.imps,kU toks (3 * p.imps) p.defs⟩
def vO:List PE→List UInt8
 | []=>[]
 | e :: l=>e.dump++vO l
def AL:List PE→List UInt8
 | []=>[]
 | e :: l=>e.oP++AL l
def FF.FC (f:FF):List UInt8:=[58]++fK f.base++vO f.clause
def FF.Hq (f:FF):List UInt8:=[58]++fK f.base++AL f.clause
def nX:List FF→List UInt8
 | []=>[]
 | f :: l=>[32]++f.name++f.FC++nX l
def uH:List FF→List UInt8
 | []=>[]
 | f :: l=>[32]++f.name++f.Hq++uH l
def DD.dump (d:DD):List UInt8:=(if d.pub=true then [112,117,98,32] else [])++d.res.name++nX d.params++([32]++d.res.FC++[32,61,32]++d.body.dump++[10])
def DD.oP (d:DD):List UInt8:=(if d.pub=true then [112,117,98,32] else [])++d.res.name++uH d.params++([32]++d.res.Hq++[32,61,32]++d.body.oP++[10])
def nY:List DD→List UInt8
 | []=>[]
 | d :: l=>d.dump++nY l
def uI:List DD→List UInt8
 | []=>[]
 | d :: l=>d.oP++uI l
def qw:List (List UInt8 × Nat)→List UInt8
 | []=>[]
 | m :: l=>[105,109,112,111,114,116,32]++m.1++[10]++qw l
def PP.dump (p:PP):List UInt8:=qw p.imports++nY p.defs
def PP.oP (p:PP):List UInt8:=qw p.imports++uI p.defs
def FF.erase (f:FF):FF:={ f with clause:=[] }
def DD.erase (d:DD):DD:={ d with params:=d.params.map FF.erase,res:=d.res.erase }
def PP.erase (p:PP):PP:={ p with defs:=p.defs.map DD.erase }
def FF.J5 (f:FF):List Int:=if 0≤f.bare then [f.bare] else []
def DD.J5 (d:DD):List Int:=d.params.flatMap FF.J5++d.res.J5
def PP.J5 (p:PP):List Int:=p.defs.flatMap DD.J5
def FF.all (P:PE→Prop)(f:FF):Prop:=∀ e∈f.clause,P e
def DD.all (P:PE→Prop)(d:DD):Prop:=(∀ f∈d.params,f.all P)∧d.res.all P∧P d.body
def PP.all (P:PE→Prop)(p:PP):Prop:=∀ d∈p.defs,d.all P
theorem zS:∀ {l:List PE},(∀ e∈l,e.told)→AL l=vO l
 | [],_=>rfl
 | e :: l,h=>by
  rw[AL,vO,PE.jl (h e List.mem_cons_self),zS fun x hx=>h x (List.mem_cons_of_mem _ hx)]
theorem FF.jl {f:FF}(h:f.all PE.told):f.Hq=f.FC:=by rw[FF.Hq,FF.FC,zS h]
theorem uQ:∀ {l:List FF},(∀ f∈l,f.all PE.told)→uH l=nX l
 | [],_=>rfl
 | f :: l,h=>by
  rw[uH,nX,FF.jl (h f List.mem_cons_self),uQ fun x hx=>h x (List.mem_cons_of_mem _ hx)]
theorem DD.jl {d:DD}(h:d.all PE.told):d.oP=d.dump:=by
 rw[DD.oP,DD.dump,uQ h.1,FF.jl h.2.1,PE.jl h.2.2]
theorem uR:∀ {l:List DD},(∀ d∈l,d.all PE.told)→uI l=nY l
 | [],_=>rfl
 | d :: l,h=>by
  rw[uI,nY,DD.jl (h d List.mem_cons_self),uR fun x hx=>h x (List.mem_cons_of_mem _ hx)]
theorem PP.jl {p:PP}(h:p.all PE.told):p.oP=p.dump:=by rw[PP.oP,PP.dump,uR h]
theorem FF.qx {P:PE→Prop}(f:FF):f.erase.all P:=fun e he=>by cases he
theorem DD.qx {P:PE→Prop}{d:DD}(h:P d.body):d.erase.all P:=by
 refine⟨fun f hf=>?_,FF.qx _,h⟩;obtain⟨g,_,rfl⟩:=List.mem_map.1 hf;exact FF.qx g
theorem PP.qx {P:PE→Prop}{p:PP}(h:p.all P):p.erase.all P:=fun d hd=>by
 obtain⟨c,hc,rfl⟩:=List.mem_map.1 hd;exact DD.qx (h c hc).2.2
theorem UH:∀ l:List PT,dI l≤dI (jG l)
 | []=>by rw[jG];exact Nat.le_refl _
 | [t]=>by rw[uG];exact Nat.le_refl _
 | t :: s :: l=>by
  have:=UH (s :: l)
  have h2:dI (t :: .leaf :: jG (s :: l))=t.nd+(1+dI (jG (s :: l))):=by rw[dI,dI,PT.nd]
  rw[qm,h2,dI];omega
theorem cB.UJ (d:cB):dI (d.jS.map fu.par)≤d.pt.nd∧dI d.ty.pts≤d.pt.nd∧d.body.pt.nd≤d.pt.nd:=by
 have:=UH (d.jS.map fu.par);rw[cB.pt,PT.nd,cB.kids];simp only[lI,dI];omega
theorem kG.YD (p:kG):dI (p.defs.map cB.pt)≤p.pt.nd:=by
 rw[kG.pt,PT.nd,kG.kids];simp only[lI,dI];omega
def PeN (toks:List Tok)(N:Nat)(P:PE→Prop):Prop:=∀ (cl:Bool) (e:CE) (u:Nat),e.ok toks cl u→e.pt.nd≤N→P (e.pe toks u)
theorem fu.UK {toks:List Tok}{N:Nat}{P:PE→Prop}(h:PeN toks N P){t:fu}{u:Nat}{name:List UInt8}{a:Nat}(ho:t.ok toks u)(hn:dI t.pts≤N):(t.ff toks u name a).all P:=by
 intro x hx;obtain⟨_,ho⟩:=ho;unfold fu.ff at hx;unfold fu.pts at hn
 cases hc:t.cl with
 | none=>rw[hc] at hx;cases hx
 | some e =>
  rw[hc] at hx ho hn;simp only[List.mem_singleton] at hx;subst hx;simp only[dI,PT.nd,List.cons_append,List.nil_append] at hn;exact h true e _ ho (by omega)
theorem fu.aaT (t:fu):dI t.pts≤t.par.nd:=by
 have:t.par.nd=dI (.leaf :: t.pts)+1:=by rw[fu.par,PT.nd]
 rw[dI] at this;omega
theorem J6 {toks:List Tok}{N:Nat}{P:PE→Prop}(h:PeN toks N P):∀ (l:List fu) (u:Nat),vN toks u l→dI (l.map fu.par)≤N→∀ f∈lX toks u l,f.all P
 | [],_,_,_,f,hf=>by cases hf
 | t :: l,u,ho,hn,f,hf=>by
  have:=t.aaT;rw[List.map_cons,dI] at hn;rw[lX,List.mem_cons] at hf
  rcases hf with rfl|hf
  ·exact fu.UK h ho.1.2 (by omega)
  ·exact J6 h l _ ho.2 (by omega) f hf
theorem cB.aaU {toks:List Tok}{N:Nat}{P:PE→Prop}(h:PeN toks N P){d:cB}{u:Nat}(ho:d.ok toks u)(hn:d.pt.nd≤N):(d.dd toks u).all P:=by
 obtain⟨_,_,_,_,h5,h6,h7⟩:=ho;obtain⟨n1,n2,n3⟩:=d.UJ;exact⟨J6 h _ _ h5 (by omega),fu.UK h h6 (by omega),h _ _ _ h7 (by omega)⟩
theorem J7 {toks:List Tok}{N:Nat}{P:PE→Prop}(h:PeN toks N P):∀ (l:List cB) (u:Nat),yV toks u l→dI (l.map cB.pt)≤N→∀ d∈kU toks u l,d.all P
 | [],_,_,_,d,hd=>by cases hd
 | x :: l,u,ho,hn,d,hd=>by
  rw[List.map_cons,dI] at hn;rw[kU,List.mem_cons] at hd
  rcases hd with rfl|hd
  ·exact cB.aaU h ho.1 (by omega)
  ·exact J7 h l _ ho.2 (by omega) d hd
theorem kG.Na {toks:List Tok}{P:PE→Prop}{p:kG}(h:PeN toks p.pt.nd P)(ho:p.ok toks):(p.pp toks).all P:=J7 h _ _ ho.2.2.2 p.YD
theorem Cq (toks:List Tok):∀ (l:List fu) (u:Nat),(lX toks u l).length=l.length
 | [],_=>rfl
 | t :: l,u=>by rw[lX,dX,dX,Cq toks l]
theorem vP (toks:List Tok):∀ (l:List cB) (u:Nat),(kU toks u l).length=l.length
 | [],_=>rfl
 | t :: l,u=>by rw[kU,dX,dX,vP toks l]
theorem vQ (toks:List Tok):∀ (n u:Nat),(mW toks u n).length=n
 | 0,_=>rfl
 | n+1,u=>by rw[mW,dX,vQ toks n]
structure FF.small (M:Nat) (f:FF):Prop where
 name:f.name.length≤M
 base:f.base=1∨f.base=2
 clause:f.clause.length≤1
structure DD.small (M:Nat) (d:DD):Prop where
 params:∀ f∈d.params,f.small M
 few:d.params.length≤8
 res:d.res.small M
structure PP.small (M:Nat) (p:PP):Prop where
 imports:∀ m∈p.imports,m.1.length≤M
 Q9:p.imports.length≤16
 defs:∀ d∈p.defs,d.small M
 Nb:p.defs.length≤64
theorem FF.small.erase {M:Nat}{f:FF}(h:f.small M):f.erase.small M:=⟨h.name,h.base,Nat.zero_le _⟩
theorem DD.small.erase {M:Nat}{d:DD}(h:d.small M):d.erase.small M:=by
 refine⟨fun f hf=>?_,by simpa [DD.erase] using h.few,h.res.erase⟩;obtain⟨g,hg,rfl⟩:=List.mem_map.1 hf;exact(h.params g hg).erase
theorem PP.small.erase {M:Nat}{p:PP}(h:p.small M):p.erase.small M:=by
 refine⟨h.imports,h.Q9,fun d hd=>?_,by simpa [PP.erase] using h.Nb⟩;obtain⟨c,hc,rfl⟩:=List.mem_map.1 hd;exact(h.defs c hc).erase
theorem fu.J8 {toks:List Tok}{M:Nat}(hM:∀ u,(aI toks u).length≤M)(t:fu)(u v a:Nat):(t.ff toks u (aI toks v) a).small M:=by
 refine⟨hM v,?_,?_⟩
 ·show (if _ then _ else _)=1∨_
  split
  ·right;show (if _ then _ else _)=2;rw[if_pos (by assumption)]
  ·left;rfl
 ·unfold fu.ff
  cases t.cl<;>simp
theorem Cr {toks:List Tok}{M:Nat}(hM:∀ u,(aI toks u).length≤M):∀ (l:List fu) (u:Nat),∀ f∈lX toks u l,f.small M
 | [],_,f,hf=>by cases hf
 | t :: l,u,f,hf=>by
  rw[lX,List.mem_cons] at hf
  rcases hf with rfl|hf
  ·exact fu.J8 hM _ _ _ _
  ·exact Cr hM l _ f hf
theorem cB.UL {toks:List Tok}{M:Nat}(hM:∀ u,(aI toks u).length≤M){d:cB}{u:Nat}(ho:d.ok toks u):(d.dd toks u).small M :=
 ⟨Cr hM _ _,by show (lX _ _ _).length≤8;rw[Cq];exact ho.2.2.2.1,fu.J8 hM _ _ _ _⟩
theorem Ct {toks:List Tok}{M:Nat}(hM:∀ u,(aI toks u).length≤M):∀ (l:List cB) (u:Nat),yV toks u l→∀ d∈kU toks u l,d.small M
 | [],_,_,d,hd=>by cases hd
 | x :: l,u,ho,d,hd=>by
  rw[kU,List.mem_cons] at hd
  rcases hd with rfl|hd
  ·exact cB.UL hM ho.1
  ·exact Ct hM l _ ho.2 d hd
theorem Cu {toks:List Tok}{M:Nat}(hM:∀ u,(aI toks u).length≤M):∀ (n u:Nat),∀ m∈mW toks u n,m.1.length≤M
 | 0,_,m,hm=>by cases hm
 | n+1,u,m,hm=>by
  rw[mW,List.mem_cons] at hm
  rcases hm with rfl|hm
  ·exact hM _
  ·exact Cu hM n _ m hm
theorem kG.UM {toks:List Tok}{M:Nat}{p:kG}(hM:∀ u,(aI toks u).length≤M)(ho:p.ok toks):(p.pp toks).small M :=
 ⟨Cu hM _ _,by show (mW _ _ _).length≤16;rw[vQ];exact ho.1,Ct hM _ _ ho.2.2.2,by show (kU _ _ _).length≤64;rw[vP];exact ho.2.1⟩
theorem Cv {K:Nat}:∀ {l:List PE},(∀ e∈l,e.dump.length≤K)→(vO l).length≤l.length * K
 | [],_=>by simp[vO]
 | e :: l,h=>by
  have h1:=h e List.mem_cons_self
  have h2:=Cv (l:=l) fun x hx=>h x (List.mem_cons_of_mem _ hx)
  rw[vO,bP,dX,Nat.succ_mul];omega
def Cw (K:Nat)(e:PE):Prop:=e.dump.length≤K
theorem FF.qp {M K:Nat}{f:FF}(h:f.small M)(hk:f.all (Cw K)):f.FC.length≤K+3:=by
 have h1:=Cv (K:=K) hk;have h2:f.clause.length * K≤1 * K:=Nat.mul_le_mul_right _ h.clause;have h3:=Ho (n:=f.base) (by rcases h.base with q|q<;>omega);rw[FF.FC];simp only[bP,dX,List.length_nil];omega
theorem xE {M K:Nat}:∀ {l:List FF},(∀ f∈l,f.small M)→(∀ f∈l,f.all (Cw K))→(nX l).length≤l.length * (M+K+4)
 | [],_,_=>by simp[nX]
 | f :: l,h,hk=>by
  have h0:=h f List.mem_cons_self;have h1:=FF.qp h0 (hk f List.mem_cons_self);have h2:=xE (l:=l) (fun x hx=>h x (List.mem_cons_of_mem _ hx)) (fun x hx=>hk x (List.mem_cons_of_mem _ hx));have h3:=h0.name;rw[nX,dX,Nat.succ_mul];simp only[bP,dX,List.length_nil];omega
theorem DD.xG {M K:Nat}{d:DD}(h:d.small M)(hk:d.all (Cw K)):d.dump.length≤10 * (M+K+4)+20:=by
 have h1:=xE h.params hk.1;have h2:d.params.length * (M+K+4)≤8 * (M+K+4):=Nat.mul_le_mul_right _ h.few;have h3:=FF.qp h.res hk.2.1;have h4:d.body.dump.length≤K:=hk.2.2;have h5:=h.res.name;rw[DD.dump];simp only[bP,dX,List.length_nil]
 split<;>simp only[dX,List.length_nil]<;>omega
theorem xH {M K:Nat}:∀ {l:List DD},(∀ d∈l,d.small M)→(∀ d∈l,d.all (Cw K))→(nY l).length≤l.length * (10 * (M+K+4)+20)
 | [],_,_=>by simp[nY]
 | d :: l,h,hk=>by
  have h1:=DD.xG (h d List.mem_cons_self) (hk d List.mem_cons_self);have h2:=xH (l:=l) (fun x hx=>h x (List.mem_cons_of_mem _ hx)) (fun x hx=>hk x (List.mem_cons_of_mem _ hx));rw[nY,bP,dX,Nat.succ_mul];omega
theorem xI {M:Nat}:∀ {l:List (List UInt8 × Nat)},(∀ m∈l,m.1.length≤M)→(qw l).length≤l.length * (M+8)
 | [],_=>by simp[qw]
 | m :: l,h=>by
  have h1:=h m List.mem_cons_self
  have h2:=xI (l:=l) fun x hx=>h x (List.mem_cons_of_mem _ hx)
  rw[qw,dX,Nat.succ_mul];simp only[bP,dX,List.length_nil];omega
theorem PP.xG {M K:Nat}{p:PP}(h:p.small M)(hk:p.all (Cw K)):p.dump.length≤16 * (M+8)+64 * (10 * (M+K+4)+20):=by
 have h1:=xI h.imports;have h2:p.imports.length * (M+8)≤16 * (M+8):=Nat.mul_le_mul_right _ h.Q9;have h3:=xH h.defs hk;have h4:p.defs.length * (10 * (M+K+4)+20)≤64 * (10 * (M+K+4)+20):=Nat.mul_le_mul_right _ h.Nb;rw[PP.dump,bP];omega
end Go.Proofs.YtknicmmigbhpcaaGreatDoor

namespace Go.Proofs.YtknicmmigbhpcaaGreatDoor
open Go.RowKit
structure RK (α β:Type) where
 sz:Nat
 cells:α→β→List Value
 inn:(Nat→Prop)→World→α→β→Prop
 len:∀ a b,(cells a b).length=sz
 frame:∀ {P:Nat→Prop} {w w':World} {a:α} {b:β},inn P w a b→aQ P w w'→inn P w' a b
 imp:∀ {P Q:Nat→Prop} {w:World} {a:α} {b:β},inn P w a b→(∀ k,P k→k<w.heap.size→Q k)→inn Q w a b
section
variable {α β:Type}
def RK.flat (K:RK α β)(l:List (α × β)):List Value:=l.flatMap fun p=>K.cells p.1 p.2
theorem RK.J9 (K:RK α β):∀ l:List (α × β),(K.flat l).length=l.length * K.sz
 | []=>by simp[RK.flat]
 | p :: l=>by
  have:=RK.J9 K l;unfold RK.flat at this ⊢;rw[List.flatMap_cons,bP,K.len,this,dX,Nat.succ_mul,Nat.add_comm]
theorem RK.FD (K:RK α β)(l:List (α × β))(p:α × β):K.flat (l++[p])=K.flat l++K.cells p.1 p.2:=by
 unfold RK.flat;rw[List.flatMap_append,List.flatMap_singleton]
theorem RK.uj (K:RK α β):∀ (l:List (α × β)) (i j:Nat) (h:i<l.length),j<K.sz→(K.flat l)[i * K.sz+j]?=(K.cells l[i].1 l[i].2)[j]?
 | [],i,j,h,_=>absurd h (by simp)
 | p :: l,0,j,_,hj=>by
  unfold RK.flat;rw[List.flatMap_cons,List.getElem?_append_left (by rw[K.len];omega)]
  simp
 | p :: l,i+1,j,h,hj=>by
  have:=RK.uj K l i j (by simpa using h) hj;unfold RK.flat at this ⊢;rw[List.flatMap_cons,List.getElem?_append_right (by rw[K.len,Nat.succ_mul];omega),K.len,show (i+1) * K.sz+j - K.sz=i * K.sz+j by rw[Nat.succ_mul];omega,this]
  simp
def RowK (K:RK α β)(P:Nat→Prop)(w:World)(v:Value)(zs:List α):Prop :=
 ∃ l:List (α × β),l.map Prod.fst=zs∧lS P w v K.sz zs.length (K.flat l)∧∀ p∈l,K.inn P w p.1 p.2
theorem RowK.frame {K:RK α β}{P:Nat→Prop}{w w':World}{v:Value}{zs:List α}(h:RowK K P w v zs)(ha:aQ P w w'):RowK K P w' v zs:=by
 obtain⟨l,h1,h2,h3⟩:=h;exact⟨l,h1,h2.frame ha,fun p hp=>K.frame (h3 p hp) ha⟩
theorem RowK.imp {K:RK α β}{P Q:Nat→Prop}{w:World}{v:Value}{zs:List α}(h:RowK K P w v zs)(hq:∀ b,P b→b<w.heap.size→Q b):RowK K Q w v zs:=by
 obtain⟨l,h1,h2,h3⟩:=h;exact⟨l,h1,h2.imp hq,fun p hp=>K.imp (h3 p hp) hq⟩
theorem RowK.nil (K:RK α β)(P:Nat→Prop)(w:World):RowK K P w (.slice none 0 0) []:=⟨[],rfl,lS.nil P w K.sz,fun p hp=>by cases hp⟩
theorem RowK.slice {K:RK α β}{P:Nat→Prop}{w:World}{v:Value}{zs:List α}(h:RowK K P w v zs):∃ ao cap,v=.slice ao zs.length cap:=by
 obtain⟨l,h1,h2,h3⟩:=h;exact h2.form
theorem RowK.form {K:RK α β}{P:Nat→Prop}{w:World}{v:Value}{zs:List α}(h:RowK K P w v zs):∃ ao cap,v=.slice ao zs.length cap∧zs.length≤cap ∧
  (0<zs.length→∃ b off,ao=some ⟨b,off,none⟩∧P b∧b<w.heap.size∧∀ i,(hi:i<zs.length)→∃ x,K.inn P w zs[i] x∧∀ j u,(K.cells zs[i] x)[j]?=some u→w.cell? ⟨b,off+i * K.sz+j,none⟩=some u):=by
 obtain⟨l,rfl,⟨ao,cap,hv,hn,hl,hc⟩,h3⟩:=h;refine⟨ao,cap,hv,hn,fun h0=>?_⟩;obtain⟨b,off,ha,hP,hlt,hcell⟩:=hc h0;refine⟨b,off,ha,hP,hlt,fun i hi=>?_⟩;rw[List.length_map] at hi;rw[List.getElem_map];refine⟨_,h3 _ (List.getElem_mem hi),fun j u hu=>?_⟩
 have hj:j<K.sz:=by
  rcases Nat.lt_or_ge j K.sz with h'|h'
  ·exact h'
  ·rw[List.getElem?_eq_none (by rw[K.len];exact h')] at hu;cases hu
 have hu':=(K.uj l i j hi hj).trans hu;obtain⟨h',e⟩:=mR hu';have:=hcell (i * K.sz+j) h';rw[e] at this;rw[Nat.add_assoc];exact this
def fV (K:RK α β)(C e:Nat)(w:World)(v:Value)(zs:List α):Prop :=
 ∃ l:List (α × β),l.map Prod.fst=zs∧w.ownsRow C e K.sz v zs.length (K.flat l)∧∀ p∈l,K.inn (fun b=>C≤b∧some b≠v.ownBlock) w p.1 p.2
theorem fV.nil (K:RK α β)(C e:Nat)(w:World):fV K C e w (.slice none 0 0) []:=⟨[],rfl,World.ownsRow_nil _ _ _ _,fun p hp=>by cases hp⟩
theorem fV.below {K:RK α β}{C e:Nat}{w w':World}{v:Value}{zs:List α}(h:fV K C e w v zs)(hb:Below w.heap.size w w'):fV K C e w' v zs:=by
 obtain⟨l,h1,h2,h3⟩:=h;exact⟨l,h1,own_below h2 hb,fun p hp=>K.frame (h3 p hp) (aQ.of hb)⟩
theorem fV.set {K:RK α β}{C e:Nat}{w:World}{v:Value}{zs:List α}(h:fV K C e w v zs){a:Addr}(ha:a.block<C)(u:Value):fV K C e (w.setCell a u) v zs:=by
 obtain⟨l,h1,h2,h3⟩:=h;refine⟨l,h1,iD h2 (fun q=>?_) u,fun p hp=>K.frame (h3 p hp) (aQ.set u fun b hb=>by have:=hb.1;omega)⟩;have:=(h2.lt a.block q.symm).1;omega
theorem fV.drew {K:RK α β}{C e:Nat}{w:World}{v:Value}{zs:List α}(h:fV K C e w v zs):fV K C e w.drew v zs:=h.below ((Below.refl _ _).drew)
theorem fV.row {K:RK α β}{C e:Nat}{w:World}{v:Value}{zs:List α}(h:fV K C e w v zs):RowK K (fun b=>C≤b) w v zs:=by
 obtain⟨l,h1,h2,h3⟩:=h;exact⟨l,h1,lS.fF h2 fun b hb=>hb,fun p hp=>K.imp (h3 p hp) fun b hb _=>hb.1⟩
theorem fV.slice {K:RK α β}{C e:Nat}{w:World}{v:Value}{zs:List α}(h:fV K C e w v zs):∃ ao cap,v=.slice ao zs.length cap:=h.row.slice
theorem fV.snoc {K:RK α β}{C e:Nat}{w w':World}{kv kv':Value}{zs:List α}{a:α}{x:β}{g H:Nat}{l:List (α × β)}(h1:l.map Prod.fst=zs)(h2:∀ p∈l,K.inn (fun b=>C≤b∧some b≠kv.ownBlock) w p.1 p.2)(hx:K.inn (fun b=>C≤b∧some b≠kv.ownBlock) w a x)
  (hown:w'.ownsRow C e K.sz kv' (zs.length+1) (K.flat l++K.cells a x)) (hgrow:w.grownBy w' kv.ownBlock) (hv:kv'.ownBlock=some g) (hor:kv.ownBlock=some g∨g=H) (hH:w.heap.size≤H):fV K C e w' kv' (zs++[a]):=by
 have himp:∀ b,(C≤b∧some b≠kv.ownBlock)→b<w.heap.size→((C≤b∧some b≠kv'.ownBlock)∧some b≠kv.ownBlock):=fun b hb hlt=>by
  refine⟨⟨hb.1,fun q=>?_⟩,hb.2⟩;rw[hv] at q;simp only[Option.some.injEq] at q
  rcases hor with h|h
  ·exact hb.2 (by rw[h,q])
  ·omega
 have hall:∀ {a:α} {x:β},K.inn (fun b=>C≤b∧some b≠kv.ownBlock) w a x→K.inn (fun b=>C≤b∧some b≠kv'.ownBlock) w' a x:=fun h =>
  K.imp (K.frame (K.imp h himp) (aQ.grown hgrow fun b hb=>hb.2)) fun b hb _=>hb.1
 refine⟨l++[(a,x)],by rw[List.map_append,h1];rfl,?_,fun p hp=>?_⟩
 ·rw[K.FD,bP,List.length_singleton];exact hown
 ·rcases List.mem_append.1 hp with hp|hp
  ·exact hall (h2 p hp)
  ·rw[List.mem_singleton] at hp
   subst hp;exact hall hx
end
def EK (S:Shape):RK PE (Value × Value) where
 sz:=S.sz
 cells e p:=S.cells e p.1 p.2
 inn P w e p:=kI S P w p.1 p.2 e
 len e p:=S.len e p.1 p.2
 frame h ha:=h.frame ha
 imp h hq:=h.imp hq
def FK (S:Shape):RK FF Value where
 sz:=5
 cells f cv:=[bY f.name,.int .i64 f.base,cv,.int .i64 f.at_,.int .i64 f.bare]
 inn P w f cv:=RowK (EK S) P w cv f.clause
 len _ _:=rfl
 frame h ha:=h.frame ha
 imp h hq:=h.imp hq
structure DV where
 pv:Value
 cv:Value
 m:Value
 k:Value
def DA:RK DD DV where
 sz:=15
 cells d x:=[.bool d.pub,bY d.res.name,x.pv,.int .i64 d.res.base,x.cv,.int .i64 d.body.op,bY d.body.name,bY d.body.module,.bool (decide (d.body.num<0)),x.m,.bool d.body.yes,x.k,.int .i64 d.body.at_,.int .i64 d.res.at_,.int .i64 d.res.bare]
 inn P w d x:=RowK (FK XA) P w x.pv d.params∧RowK (EK XA) P w x.cv d.res.clause∧kI XA P w x.m x.k d.body
 len _ _:=rfl
 frame h ha:=⟨h.1.frame ha,h.2.1.frame ha,h.2.2.frame ha⟩
 imp h hq:=⟨h.1.imp hq,h.2.1.imp hq,h.2.2.imp hq⟩
def DR:RK DD DV where
 sz:=14
 cells d x:=[.bool d.pub,x.pv,bY d.res.name,.int .i64 d.res.base,x.cv,.int .i64 d.res.at_,.int .i64 d.res.bare,.int .i64 d.body.op,bY d.body.name,bY d.body.module,bY d.body.txt,.bool d.body.yes,x.k,.int .i64 d.body.at_]
 inn P w d x:=RowK (FK XR) P w x.pv d.params∧RowK (EK XR) P w x.cv d.res.clause∧kI XR P w x.m x.k d.body
 len _ _:=rfl
 frame h ha:=⟨h.1.frame ha,h.2.1.frame ha,h.2.2.frame ha⟩
 imp h hq:=⟨h.1.imp hq,h.2.1.imp hq,h.2.2.imp hq⟩
def IA:RK (List UInt8 × Nat) Unit where
 sz:=2
 cells m _:=[bY m.1,.int .i64 m.2]
 inn _ _ _ _:=True
 len _ _:=rfl
 frame _ _:=trivial
 imp _ _:=trivial
def IR:RK (List UInt8 × Nat) Unit where
 sz:=1
 cells m _:=[bY m.1]
 inn _ _ _ _:=True
 len _ _:=rfl
 frame _ _:=trivial
 imp _ _:=trivial
def Ka (P:Nat→Prop)(w:World)(iv dv:Value)(p:PP):Prop:=RowK IA P w iv p.imports∧RowK DA P w dv p.defs
def Ra (P:Nat→Prop)(w:World)(iv dv:Value)(p:PP):Prop:=RowK IR P w iv p.imports∧RowK DR P w dv p.defs
theorem Ka.frame {P:Nat→Prop}{w w':World}{iv dv:Value}{p:PP}(h:Ka P w iv dv p)(ha:aQ P w w'):Ka P w' iv dv p:=⟨h.1.frame ha,h.2.frame ha⟩
theorem Ka.imp {P Q:Nat→Prop}{w:World}{iv dv:Value}{p:PP}(h:Ka P w iv dv p)(hq:∀ b,P b→b<w.heap.size→Q b):Ka Q w iv dv p:=⟨h.1.imp hq,h.2.imp hq⟩
theorem Ra.frame {P:Nat→Prop}{w w':World}{iv dv:Value}{p:PP}(h:Ra P w iv dv p)(ha:aQ P w w'):Ra P w' iv dv p:=⟨h.1.frame ha,h.2.frame ha⟩
theorem Ra.imp {P Q:Nat→Prop}{w:World}{iv dv:Value}{p:PP}(h:Ra P w iv dv p)(hq:∀ b,P b→b<w.heap.size→Q b):Ra Q w iv dv p:=⟨h.1.imp hq,h.2.imp hq⟩
end Go.Proofs.YtknicmmigbhpcaaGreatDoor

namespace Go.Proofs.YtknicmmigbhpcaaGreatDoor
open Go.RowKit Go
structure kV where
 sz:Nat
 cells:PZ→Value→Value→List Value
 agg:PZ→Value→Value→Value
 num:(Nat→Prop)→World→Int→Value→Prop
 len:∀ e m k,(cells e m k).length=sz
 frame:∀ {P:Nat→Prop} {w w':World} {n:Int} {m:Value},num P w n m→aQ P w w'→num P w' n m
 imp:∀ {P Q:Nat→Prop} {w:World} {n:Int} {m:Value},num P w n m→(∀ b,P b→b<w.heap.size→Q b)→num Q w n m
def Cx (S:kV):List PZ→List (Value × Value)→List Value
 | e :: es,p :: l=>S.cells e p.1 p.2++Cx S es l
 | _,_=>[]
mutual
def oI (S:kV)(P:Nat→Prop)(w:World)(mag kv:Value):PZ→Prop
 | .mk _op _name Ym num adD kids _at_=>S.num P w num mag∧∃ l:List (Value × Value),lS P w kv S.sz kids.length (Cx S kids l)∧iM S P w l kids
def iM (S:kV)(P:Nat→Prop)(w:World)(l:List (Value × Value)):List PZ→Prop
 | []=>l=[]
 | e :: es=>∃ p l',l=p :: l'∧oI S P w p.1 p.2 e∧iM S P w l' es
end
mutual
theorem oI.frame {S:kV}{P:Nat→Prop}{w w':World}(ha:aQ P w w'):∀ {e:PZ} {m k:Value},oI S P w m k e→oI S P w' m k e
 | .mk op name module num yes kids at_,m,k,h=>by
  rw[oI] at h ⊢;obtain⟨h1,l,h2,h3⟩:=h;exact⟨S.frame h1 ha,l,h2.frame ha,iM.frame ha h3⟩
theorem iM.frame {S:kV}{P:Nat→Prop}{w w':World}(ha:aQ P w w'):∀ {es:List PZ} {l:List (Value × Value)},iM S P w l es→iM S P w' l es
 | [],l,h=>by rw[iM] at h ⊢;exact h
 | e :: es,l,h=>by
  rw[iM] at h ⊢;obtain⟨p,l',h1,h2,h3⟩:=h;exact⟨p,l',h1,oI.frame ha h2,iM.frame ha h3⟩
end
mutual
theorem oI.imp {S:kV}{P Q:Nat→Prop}{w:World}(hq:∀ b,P b→b<w.heap.size→Q b):∀ {e:PZ} {m k:Value},oI S P w m k e→oI S Q w m k e
 | .mk op name module num yes kids at_,m,k,h=>by
  rw[oI] at h ⊢;obtain⟨h1,l,h2,h3⟩:=h;exact⟨S.imp h1 hq,l,h2.imp hq,iM.imp hq h3⟩
theorem iM.imp {S:kV}{P Q:Nat→Prop}{w:World}(hq:∀ b,P b→b<w.heap.size→Q b):∀ {es:List PZ} {l:List (Value × Value)},iM S P w l es→iM S Q w l es
 | [],l,h=>by rw[iM] at h ⊢;exact h
 | e :: es,l,h=>by
  rw[iM] at h ⊢;obtain⟨p,l',h1,h2,h3⟩:=h;exact⟨p,l',h1,oI.imp hq h2,iM.imp hq h3⟩
end
theorem iM.len {S:kV}{P:Nat→Prop}{w:World}:∀ {es:List PZ} {l:List (Value × Value)},iM S P w l es→l.length=es.length
 | [],l,h=>by rw[iM] at h;subst h;rfl
 | e :: es,l,h=>by
  rw[iM] at h;obtain⟨p,l',rfl,_,h3⟩:=h;simp[iM.len h3]
theorem iM.snoc {S:kV}{P:Nat→Prop}{w:World}:∀ {es:List PZ} {l:List (Value × Value)} {e:PZ} {m k:Value},iM S P w l es→oI S P w m k e→iM S P w (l++[(m,k)]) (es++[e])
 | [],l,e,m,k,h,h2=>by
  rw[iM] at h;subst h;rw[List.nil_append,List.nil_append,iM];exact⟨(m,k),[],rfl,h2,by rw[iM]⟩
 | x :: es,l,e,m,k,h,h2=>by
  rw[iM] at h;obtain⟨p,l',rfl,h3,h4⟩:=h;rw[List.cons_append,List.cons_append,iM];exact⟨p,_,rfl,h3,h4.snoc h2⟩
theorem Kc (S:kV):∀ (es:List PZ) (l:List (Value × Value)) (i j:Nat) (hl:l.length=es.length) (hi:i<es.length),j<S.sz→(Cx S es l)[i * S.sz+j]?=(S.cells es[i] (l[i]'(by omega)).1 (l[i]'(by omega)).2)[j]?
 | [],[],i,j,_,h,_=>absurd h (by simp)
 | x :: es,p :: l,0,j,_,_,hj=>by
  simp only[Cx,Nat.zero_mul,Nat.zero_add,List.getElem_cons_zero];rw[List.getElem?_append_left (by rw[S.len];exact hj)]
 | x :: es,p :: l,i+1,j,hl,hi,hj=>by
  simp only[Cx,List.getElem_cons_succ];rw[List.getElem?_append_right (by rw[S.len,Nat.succ_mul];omega),S.len,show (i+1) * S.sz+j - S.sz=i * S.sz+j by rw[Nat.succ_mul];omega];exact Kc S es l i j (by simpa using hl) (by simpa using hi) hj
 | [],_ :: _,_,_,h,_,_=>by simp at h
 | _ :: _,[],_,_,h,_,_=>by simp at h
theorem iM.get {S:kV}{P:Nat→Prop}{w:World}:∀ {es:List PZ} {l:List (Value × Value)} (h:iM S P w l es) (i:Nat) (hi:i<es.length),oI S P w (l[i]'(by rw[h.len];exact hi)).1 (l[i]'(by rw[h.len];exact hi)).2 es[i]
 | [],l,h,i,hi=>absurd hi (by simp)
 | e :: es,l,h,i,hi=>by
  have h':=h;rw[iM] at h';obtain⟨p,l',rfl,h3,h4⟩:=h'
  cases i with
  | zero=>exact h3
  | succ i=>exact h4.get i (by simpa using hi)
theorem oI.form {S:kV}{P:Nat→Prop}{w:World}{e:PZ}{mag kv:Value}(h:oI S P w mag kv e):S.num P w e.num mag∧∃ ao cap,kv=.slice ao e.kids.length cap∧e.kids.length≤cap ∧
  (0<e.kids.length→∃ b off,ao=some ⟨b,off,none⟩∧P b∧b<w.heap.size∧∀ i,(hi:i<e.kids.length)→∃ m k,oI S P w m k e.kids[i]∧∀ j u,(S.cells e.kids[i] m k)[j]?=some u→w.cell? ⟨b,off+i * S.sz+j,none⟩=some u):=by
 cases e with
 | mk op name module num yes kids at_ =>
  rw[oI] at h;obtain⟨h1,l,⟨ao,cap,hv,hn,hl,hc⟩,h3⟩:=h;refine⟨h1,ao,cap,hv,hn,fun h0=>?_⟩;obtain⟨b,off,ha,hP,hlt,hcell⟩:=hc h0;refine⟨b,off,ha,hP,hlt,fun i hi=>?_⟩;have hll:=h3.len;refine⟨_,_,h3.get i hi,fun j u hu=>?_⟩
  have hj:j<S.sz:=by
   rcases Nat.lt_or_ge j S.sz with h'|h'
   ·exact h'
   ·rw[List.getElem?_eq_none (by rw[S.len];exact h')] at hu;cases hu
  have hr:=Kc S kids l i j hll hi hj;have hu':=hr.trans hu;obtain⟨h',e⟩:=mR hu';have:=hcell (i * S.sz+j) h';rw[e] at this;rw[Nat.add_assoc];exact this
def YA:kV where
 sz:=8
 cells e m k:=[.int .i64 e.op,bY e.name,bY e.module,.bool (decide (e.num<0)),m,.bool e.yes,k,.int .i64 e.at_]
 agg e m k:=.agg #[.int .i64 e.op,bY e.name,bY e.module,.bool (decide (e.num<0)),m,.bool e.yes,k,.int .i64 e.at_]
 num:=kN
 len _ _ _:=rfl
 frame h ha:=by obtain⟨ws,h1,h2⟩:=h;exact⟨ws,h1.frame ha,h2⟩
 imp h hq:=by obtain⟨ws,h1,h2⟩:=h;exact⟨ws,h1.imp hq,h2⟩
def ZK (S:kV):RK PZ (Value × Value) where
 sz:=S.sz
 cells e p:=S.cells e p.1 p.2
 inn P w e p:=oI S P w p.1 p.2 e
 len e p:=S.len e p.1 p.2
 frame h ha:=h.frame ha
 imp h hq:=h.imp hq
theorem Ke (e:PE)(m k:Value):YA.cells e.z m k=XA.cells e m k:=by cases e;rfl
theorem Cy:∀ (es:List PE) (l:List (Value × Value)),Cx YA (EW es) l=nV XA es l
 | [],_=>rfl
 | e :: es,[]=>rfl
 | e :: es,p :: l=>by rw[EW,Cx,nV,Ke,Cy es l]
mutual
theorem oI.ofE {P:Nat→Prop}{w:World}:∀ {e:PE} {m k:Value},kI XA P w m k e→oI YA P w m k e.z
 | .mk op nm md num txt yes kids at_,m,k,h=>by
  rw[kI] at h;obtain⟨h1,l,h2,h3⟩:=h;rw[PE.z,oI];refine⟨h1,l,?_,iM.ofE h3⟩;rw[Cy,wV,List.length_map];exact h2
theorem iM.ofE {P:Nat→Prop}{w:World}:∀ {es:List PE} {l:List (Value × Value)},fJ XA P w l es→iM YA P w l (EW es)
 | [],l,h=>by rw[fJ] at h;rw[EW,iM];exact h
 | e :: es,l,h=>by
  rw[fJ] at h;obtain⟨p,l',h1,h2,h3⟩:=h;rw[EW,iM];exact⟨p,l',h1,oI.ofE h2,iM.ofE h3⟩
end
theorem UN (r x:Nat)(hr:r<4294967296)(hx:x<4294967296):bits BinOp.or IntKind.u64 ((r:Int) * 4294967296) (x:Int)=(r:Int) * 4294967296+(x:Int):=by
 have e:((r:Int) * 4294967296)=((r * 4294967296:Nat):Int):=by omega
 have h:(r * 4294967296) ||| x=r * 4294967296+x:=by
  rw[show (4294967296:Nat)=2 ^ 32 from rfl,← Nat.shiftLeft_eq,Nat.shiftLeft_add_eq_or_of_lt (by omega)]
 rw[e,u64_or_nat _ _ (by omega) (by omega),h];omega
theorem UO {α:Type}(z v:α)(k:Nat)(L:List α):(List.replicate (k+1) z++L).set k v=List.replicate k z++v :: L:=by
 rw[List.replicate_succ',List.append_assoc,List.set_append_right _ _ (by simp),List.length_replicate,Nat.sub_self]
 rfl
def FE (b:Nat)(ws:List Nat)(w:World)(e:Ending)(w':World):Prop :=
 ∃ cap,e=.returned (.tuple #[.slice (some ⟨w.heap.size,0,none⟩) (bN (aW b ws).1).length cap,.int .u64 ((aW b ws).2:Nat)])∧Wd (fun k=>w.heap.size≤k) w' (.slice (some ⟨w.heap.size,0,none⟩) (bN (aW b ws).1).length cap) (bN (aW b ws).1)∧Below w.heap.size w w'
theorem Nc (P:Nat→Prop)(ao:Option Addr)(cap:Nat)(ws:List Nat)(b:Nat)(w:World)(h:Wd P w (.slice ao ws.length cap) ws)(hw:∀ x∈ws,x<4294967296)(hb:0<b)(Cz:b≤1000000000)(hn:ws.length≤1000) :
  Calls Tryz.prog 117 #[.slice ao ws.length cap,.int .u64 b] w (FE b ws w):=by
 obtain⟨i0,hi,hz0,hz1,hz2⟩:=info_parts Tryz.O9;obtain⟨Tf,cap',hv,hc1,hf⟩:=h.form;simp only[Value.slice.injEq] at hv;obtain⟨rfl,-,rfl⟩:=hv;have HF:=ah hf;have HW:=ah hw;have hmk:=run_make (P:=Tryz.prog) w 42 259 i0 (.int .u32 0) Tryz.underlying42 hi hz0 .i64 .i64 ws.length ws.length (by omega) (by omega) (by rw[hz2];omega) (by omega);rw[hz1] at hmk;clear hf h hw;go_enter Tryz.func117,Tryz.ntmps117;go_wp2;have hnew:=heap_alloc_new w (.cells (madeCells #[Value.int .u32 0] ws.length) 259);have hbw:=aj w (.cells (madeCells #[Value.int .u32 0] ws.length) 259);clear hmk;generalize w.alloc _=w2 at hnew hbw ⊢
 go_loopw [7,8] (fun rv q wr=>∃ (k:Nat) (i:Int) (cs:Array Value),k≤ws.length∧q=.int .i64 i∧i+1=(k:Int)∧rv=.int .u64 ((aW b (ws.drop k)).2:Nat)∧wr.heap[w.heap.size]?=some (.cells cs 259 (0,0))∧cs.toList=List.replicate k (.int .u32 0)++(aW b (ws.drop k)).1.map (fun d=>.int .u32 (d:Nat))∧Below w.heap.size w wr) (fun _ q _=>(intOf q+1).toNat)
 case atStart=>exact⟨ws.length,_,_,Nat.le_refl _,rfl,by omega,by rw[List.drop_length];rfl,hnew,by rw[toList_madeCells_one,List.drop_length];simp[aW],hbw⟩
 case round =>
  obtain⟨k,i,cs,hk,rfl,hik,rfl,hcs,hcl,hbl⟩:=hrel;have hz:=hbl.size
  cases k with
  | zero =>
   obtain rfl:i=-1:=by omega
   rw[List.drop_zero] at hcl ⊢;rw[List.replicate_zero,List.nil_append] at hcl;have hsl:=Bn b ws
   have hWd:Wd (fun k=>w.heap.size≤k) wr (.slice (some ⟨w.heap.size,0,none⟩) (aW b ws).1.length ws.length) (aW b ws).1:=by
    refine⟨_,_,rfl,by rw[hsl];exact Nat.le_refl _,by simp,fun h0=>⟨w.heap.size,0,rfl,Nat.le_refl _,(bG hcs).1,fun j hj=>?_⟩⟩;rw[Lib.cell_of_heap hcs,Nat.zero_add,← Array.getElem?_toList,hcl,List.getElem?_eq_getElem hj]
   have hT:=yR _ (some ⟨w.heap.size,0,none⟩) ws.length (aW b ws).1 wr hWd (by omega);obtain⟨n,n1,n2,_,_⟩:=qR (aW b ws).1
   have hln:(bN (aW b ws).1).length=n:=by rw[n2,List.length_take];omega
   have hW2:Wd (fun k=>w.heap.size≤k) wr (.slice (some ⟨w.heap.size,0,none⟩) (bN (aW b ws).1).length ws.length) (bN (aW b ws).1):=by
    rw[hln,n2];exact hWd.take n1
   rw[hsl] at hT;have HT:=ah hT;have HW2:=ah hW2;clear hT hW2 hWd hsl hln n1 n2 hcl;go_wp2_with (go_at_call 183;refine HT.out.mono ?_;rintro e w8 ⟨rfl,rfl⟩);go_ret2;exact⟨_,rfl,HW2.out,hbl⟩
  | succ k =>
   obtain rfl:i=(k:Int):=by omega
   obtain⟨bk,off,rfl,_,hbk,hcell⟩:=HF.out (by omega);have hx:=(hbl.cell (p:=⟨bk,off+k,none⟩) hbk).trans (hcell k (by omega));have hxw:=HW.out ws[k] (List.getElem_mem (by omega));have hdr:ws.drop k=ws[k] :: ws.drop (k+1):=List.drop_eq_getElem_cons (by omega);have hr:=oO b hb (ws.drop (k+1))
   have hsh:aW b (ws.drop k)=(((aW b (ws.drop (k+1))).2 * 4294967296+ws[k]) / b :: (aW b (ws.drop (k+1))).1,((aW b (ws.drop (k+1))).2 * 4294967296+ws[k]) % b):=by rw[hdr,aW]
   have HS:=ah hsh;have Tj:=ah hcl;generalize (aW b (ws.drop (k+1))).2=r at hr HS ⊢;generalize ws[k]=x at hx hxw HS
   have nJ:(k:Int)<(ws.length:Int):=by omega
   clear hcell hdr hsh hcl;have hlt:=(bG hcs).1;have hor:=UN r x (by omega) hxw
   have hk0:cs.toList[k]?=some (.int .u32 0):=by
    rw[Tj.out,List.getElem?_append_left (by simp),List.getElem?_replicate,if_pos (by omega)]
   have o0:wr.cell? ⟨w.heap.size,k,none⟩=some (.int .u32 0):=by rw[Lib.cell_of_heap hcs,← Array.getElem?_toList];exact hk0
   have oz:∀ j,wr.frozen? ⟨w.heap.size,j,none⟩=false:=by intro j;simp[World.frozen?,hcs]
   clear hk0
   have hq:(r * 4294967296+x) / b<4294967296:=by
    rw[Nat.div_lt_iff_lt_mul hb];have:(r+1) * 4294967296≤b * 4294967296:=Nat.mul_le_mul_right _ hr;rw[Nat.mul_comm 4294967296 b];omega
   have e1:((r:Int) * 4294967296+(x:Int)) % (b:Int)=(((r * 4294967296+x) % b:Nat):Int):=by
    rw[Int.natCast_emod]
    congr 1
   have e2:((r:Int) * 4294967296+(x:Int)) / (b:Int) % 4294967296=(((r * 4294967296+x) / b:Nat):Int):=by
    have e3:((r:Int) * 4294967296+(x:Int)) / (b:Int)=(((r * 4294967296+x) / b:Nat):Int):=by
     rw[Int.natCast_ediv]
     congr 1
    rw[e3];generalize (r * 4294967296+x) / b=qq at hq ⊢;omega
   have E1:=ah e1;have E2:=ah e2;clear e1 e2;go_wp2;refine⟨⟨k,(k:Int) - 1,_,by omega,rfl,by omega,by rw[HS.out];exact AB E1.out,heap_setCell_same wr w.heap.size k _ _ _ hcs,?_,hbl.setCell (Nat.le_refl _) _⟩,by simp[intOf]⟩;rw[Array.toList_setIfInBounds,Tj.out,UO,HS.out,E2.out]
   rfl
end Go.Proofs.YtknicmmigbhpcaaGreatDoor
