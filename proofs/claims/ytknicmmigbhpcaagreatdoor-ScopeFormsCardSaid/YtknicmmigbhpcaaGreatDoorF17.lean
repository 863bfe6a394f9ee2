/- Walks and plain laws: GoodLaws, ProgPE, ProgMem, ZMem, ZedW3. -/
import Derived.Test.YtknicmmigbhpcaaGreatDoorF16
import Derived.Laws.BitsAllLaws
set_option maxHeartbeats 16000000
set_option maxRecDepth 100000
set_option linter.unusedVariables false
set_option linter.unusedSimpArgs false
namespace Go.Proofs.YtknicmmigbhpcaaGreatDoor
theorem Iq {n:Nat}(h:n<100):(fZ n).length≤2:=by
 rw[fZ]
 split
 ·simp
 ·rw[fZ,dif_pos (by omega)]
  simp
mutual
theorem C9:∀ (t:PT) (b u:Nat),t.wf→∀ n∈t.em b u,(0≤n.kind∧n.kind<100)∧(n.kind=19→(u:Int)≤n.tok∧n.tok<((u+t.lv:Nat):Int))
 | .leaf,b,u,_,n,h=>by
  rw[PT.em,List.mem_singleton] at h;subst h;rw[PT.lv];simp only;omega
 | .node k l,b,u,hw,n,h=>by
  rw[PT.wf] at hw;rw[PT.em,List.mem_append,List.mem_singleton] at h
  rcases h with h|h
  ·exact Gj l b u hw.2.2 n h
  ·subst h
   simp only;omega
theorem Gj:∀ (l:List PT) (b u:Nat),lD l→∀ n∈xu b u l,(0≤n.kind∧n.kind<100)∧(n.kind=19→(u:Int)≤n.tok∧n.tok<((u+bJ l:Nat):Int))
 | [],b,u,_,n,h=>by rw[xu] at h;cases h
 | t :: l,b,u,hw,n,h=>by
  rw[lD] at hw;rw[xu,List.mem_append] at h;rw[bJ]
  rcases h with h|h
  ·have:=C9 t _ _ hw.1 n h
   exact⟨this.1,fun q=>by have:=this.2 q;omega⟩
  ·have:=Gj l _ _ hw.2 n h
   exact⟨this.1,fun q=>by have:=this.2 q;omega⟩
end
mutual
theorem qU {toks:List Tok}{M:Nat}(hM:∀ u,(aH toks u).length≤M):∀ (t:PT) (u:Nat),t.wf→(t.dump toks u).length+1≤t.nd * (M+16)
 | .leaf,u,_=>by
  rw[PT.dump,nG,PT.nd,bC];have:=hM u;unfold aH at this
  split<;>simp<;>omega
 | .node k l,u,hw=>by
  rw[PT.wf] at hw;have h1:=Da hM l u hw.2.2;have h2:=Iq (n:=k) (by omega);rw[PT.dump,PT.nd,Nat.succ_mul];simp only[bC,dI,List.length_nil];omega
theorem Da {toks:List Tok}{M:Nat}(hM:∀ u,(aH toks u).length≤M):∀ (l:List PT) (u:Nat),lD l→(Ae toks u l).length≤dU l * (M+16)
 | [],u,_=>by simp[Ae]
 | t :: l,u,hw=>by
  rw[lD] at hw;have h1:=qU hM t u hw.1;have h2:=Da hM l (u+t.lv) hw.2;rw[Ae,dU,Nat.add_mul];simp only[bC,dI,List.length_nil];omega
end
mutual
def PE.fits (M:Nat):PE→Prop
 | .mk op name module num txt _ kids _=>op<100∧name.length≤M∧module.length≤M∧txt.length≤M∧(jf num).length≤M∧num.natAbs<10 ^ 60∧iL M kids
def iL (M:Nat):List PE→Prop
 | []=>True
 | e :: l=>e.fits M∧iL M l
end
theorem OO {toks:List Tok}(hN:∀ t∈toks,t.kind=3→rZ t.text)(h0:0<toks.length){u:Nat}(hk:gL toks u=3):iQ (aH toks u)<10 ^ 60:=by
 have h:=hN _ (uE h0 u) hk;exact Nat.lt_of_lt_of_le (Bj _ h.1) (Nat.pow_le_pow_right (by omega) h.2.2.1)
mutual
theorem CE.fits {toks:List Tok}{M:Nat}(h0:0<toks.length)(hN:∀ t∈toks,t.kind=3→rZ t.text)(hM:∀ u,(aH toks u).length≤M)(h1:1≤M){cl:Bool}:∀ (e:CE) (u:Nat),e.ok toks cl u→(e.pe toks u).fits M
 | .num,u,h=>by
  rw[CE.ok] at h;rw[CE.pe,PE.fits,xG,show fZ (iQ (aH toks u))=aH toks u from (hN _ (uE h0 u) h).dec];have:=OO hN h0 h;exact⟨by omega,by simp,by simp,hM u,hM u,by omega,by rw[iL];trivial⟩
 | .truth,u,h=>by rw[CE.pe,PE.fits,iL];exact⟨by omega,by simp,by simp,by simp,by simpa [jf,fZ] using h1,by simp,trivial⟩
 | .res,u,h=>by rw[CE.pe,PE.fits,iL];exact⟨by omega,by simp,by simp,by simp,by simpa [jf,fZ] using h1,by simp,trivial⟩
 | .Nw,u,h=>by rw[CE.pe,PE.fits,iL];exact⟨by omega,hM u,by simp,by simp,by simpa [jf,fZ] using h1,by simp,trivial⟩
 | .group e,u,h=>by
  rw[CE.ok] at h;rw[CE.pe];exact CE.fits h0 hN hM h1 e _ h.2
 | .un e,u,h=>by
  rw[CE.ok] at h;rw[CE.pe,PE.fits,iL,iL];exact⟨by split<;>omega,by simp,by simp,by simp,by simpa [jf,fZ] using h1,by simp,CE.fits h0 hN hM h1 e _ h.2,trivial⟩
 | .bin a b,u,h=>by
  rw[CE.ok] at h;rw[CE.pe,PE.fits,iL,iL,iL];have hi:oK.idxOf (aH toks (u+a.pt.lv))≤oK.length:=List.idxOf_le_length;have hl:oK.length=14:=rfl;exact⟨by omega,by simp,by simp,by simp,by simpa [jf,fZ] using h1,by simp,CE.fits h0 hN hM h1 a _ h.2.1,CE.fits h0 hN hM h1 b _ h.2.2,trivial⟩
 | .iff a b c,u,h=>by
  rw[CE.ok] at h;rw[CE.pe,PE.fits,iL,iL,iL,iL];exact⟨by omega,by simp,by simp,by simp,by simpa [jf,fZ] using h1,by simp,CE.fits h0 hN hM h1 a _ h.2.1,CE.fits h0 hN hM h1 b _ h.2.2.1,CE.fits h0 hN hM h1 c _ h.2.2.2,trivial⟩
 | .qH a b,u,h=>by
  rw[CE.ok] at h;rw[CE.pe,PE.fits,iL,iL,iL];exact⟨by omega,hM _,by simp,by simp,by simpa [jf,fZ] using h1,by simp,CE.fits h0 hN hM h1 a _ h.2.2.1,CE.fits h0 hN hM h1 b _ h.2.2.2,trivial⟩
 | .qI a b,u,h=>by
  rw[CE.ok] at h;rw[CE.pe,PE.fits,iL,iL,iL];exact⟨by omega,by simp,by simp,by simp,by simpa [jf,fZ] using h1,by simp,CE.fits h0 hN hM h1 a _ h.2.1,CE.fits h0 hN hM h1 b _ h.2.2,trivial⟩
 | .call q l,u,h=>by
  rw[CE.ok] at h;rw[CE.pe]
  cases q with
  | true =>
   rw[if_pos rfl,PE.fits];exact⟨by omega,hM _,hM _,by simp,by simpa [jf,fZ] using h1,by simp,Db h0 hN hM h1 l _ h.2.2.2.2.2⟩
  | false =>
   rw[if_neg (by decide),PE.fits];exact⟨by omega,hM _,by simp,by simp,by simpa [jf,fZ] using h1,by simp,Db h0 hN hM h1 l _ h.2.2.2.2⟩
theorem Db {toks:List Tok}{M:Nat}(h0:0<toks.length)(hN:∀ t∈toks,t.kind=3→rZ t.text)(hM:∀ u,(aH toks u).length≤M)(h1:1≤M){cl:Bool}:∀ (l:List CE) (u:Nat),nS toks cl u l→iL M (jC toks u l)
 | [],u,_=>by rw[jC,iL];trivial
 | e :: l,u,h=>by
  rw[nS] at h;rw[jC,iL];exact⟨CE.fits h0 hN hM h1 e _ h.1,Db h0 hN hM h1 l _ h.2⟩
end
theorem QO (a b:List PT):dU (a++b)=dU a+dU b:=mF a b
mutual
def PE.jH:PE→Nat
 | .mk _ _ _ _ _ _ kids _=>1+gu kids
def gu:List PE→Nat
 | []=>0
 | e :: l=>e.jH+gu l
end
mutual
theorem CE.gT (toks:List Tok):∀ (e:CE) (u:Nat),(e.pe toks u).jH≤e.pt.nd
 | .num,u=>by simp[CE.pe,PE.jH,gu,CE.pt,PT.nd,dU]
 | .truth,u=>by simp[CE.pe,PE.jH,gu,CE.pt,PT.nd,dU]
 | .res,u=>by simp[CE.pe,PE.jH,gu,CE.pt,PT.nd,dU]
 | .Nw,u=>by simp[CE.pe,PE.jH,gu,CE.pt,PT.nd,dU]
 | .group e,u=>by
  have:=CE.gT toks e (u+1);simp only[CE.pe,CE.pt,PT.nd,dU];omega
 | .un e,u=>by
  have:=CE.gT toks e (u+1);simp only[CE.pe,PE.jH,gu,CE.pt,PT.nd,dU];omega
 | .bin a b,u=>by
  have h1:=CE.gT toks a u;have h2:=CE.gT toks b (u+a.pt.lv+1);simp only[CE.pe,PE.jH,gu,CE.pt,PT.nd,dU];omega
 | .iff a b c,u=>by
  have h1:=CE.gT toks a (u+1);have h2:=CE.gT toks b (u+1+a.pt.lv+1);have h3:=CE.gT toks c (u+1+a.pt.lv+1+b.pt.lv+1);simp only[CE.pe,PE.jH,gu,CE.pt,PT.nd,dU];omega
 | .qH a b,u=>by
  have h1:=CE.gT toks a (u+3);have h2:=CE.gT toks b (u+3+a.pt.lv+1);simp only[CE.pe,PE.jH,gu,CE.pt,PT.nd,dU];omega
 | .qI a b,u=>by
  have h1:=CE.gT toks a (u+1);have h2:=CE.gT toks b (u+1+a.pt.lv+1);simp only[CE.pe,PE.jH,gu,CE.pt,PT.nd,dU];omega
 | .call q l,u=>by
  have h:∀ u,gu (jC toks u l)≤dU (eF l):=fun u=>yj toks l u
  cases q with
  | true =>
   have:=h (u+4);simp only[CE.pe,if_pos,PE.jH,CE.pt,PT.nd,QO,dU];omega
  | false =>
   have:=h (u+2);simp only[CE.pe,PE.jH,CE.pt,PT.nd,QO,dU,Bool.false_eq_true,if_false];omega
theorem yj (toks:List Tok):∀ (l:List CE) (u:Nat),gu (jC toks u l)≤dU (eF l)
 | [],u=>by simp[jC,gu]
 | [e],u=>by
  have:=CE.gT toks e u;simp only[jC,gu,rP,dU];omega
 | e :: f :: l,u=>by
  have h1:=CE.gT toks e u;have h2:=yj toks (f :: l) (u+e.pt.lv+1);rw[jC,gu,mG,dU,dU];simp only[PT.nd];omega
end
theorem Wi {op:Nat}{nm md nu:List UInt8}{ys:Bool}{M:Nat}(h1:op<100)(h2:nm.length≤M)(h3:md.length≤M)(h4:nu.length≤M):(JR op nm md nu ys).length≤3 * M+20:=by
 have:=Iq h1;unfold JR;simp only[bC,dI,List.length_nil]
 split<;>split<;>split<;>(try split)<;>(try split)<;>simp<;>omega
mutual
theorem Gl {M:Nat}:∀ (e:PE),e.fits M→e.pX.length+1≤e.jH * (3 * M+30)
 | .mk op name module num txt yes kids a,h=>by
  rw[PE.fits] at h;have h1:=Dc kids h.2.2.2.2.2.2;have h2:=Wi (ys:=yes) h.1 h.2.1 h.2.2.1 h.2.2.2.1;rw[PE.pX,PE.jH,Nat.add_mul];simp only[bC,dI,List.length_nil];omega
theorem Dc {M:Nat}:∀ (l:List PE),iL M l→(tN l).length≤gu l * (3 * M+30)
 | [],_=>by simp[tN]
 | e :: l,h=>by
  rw[iL] at h;have h1:=Gl e h.1;have h2:=Dc l h.2;rw[tN,gu,Nat.add_mul];simp only[bC,dI,List.length_nil];omega
end
structure FF where
 name:List UInt8
 base:Nat
 clause:List PE
 at_:Nat
 bare:Int
structure DD where
 pub:Bool
 params:List FF
 res:FF
 body:PE
structure PP where
 imports:List (List UInt8 × Nat)
 defs:List DD
def fK.ff (toks:List Tok)(u:Nat)(name:List UInt8)(at_:Nat)(t:fK):FF where
 name:=name
 base:=if aH toks (u+1)=yc then 2 else 1
 clause:=match t.cl with|none=>[]|some e=>[e.pe toks (u+3)]
 at_:=at_
 bare:=match t.cl with|none=>((dF toks (u+1)+(aH toks (u+1)).length:Nat):Int)|some _=>-1
def fK.uF (toks:List Tok)(u:Nat)(t:fK):FF:=t.ff toks (u+1) (aH toks u) (dF toks u)
def mR (toks:List Tok)(u:Nat):List fK→List FF
 | []=>[]
 | t :: l=>t.uF toks u :: mR toks (u+t.par.lv+1) l
def dG.dd (toks:List Tok)(u:Nat)(d:dG):DD where
 pub:=d.pub
 params:=mR toks (d.C8 u+3) d.kJ
 res:=d.ty.ff toks (d.at2 u) (aH toks (d.C8 u+1)) (dF toks (d.C8 u+1))
 body:=d.body.pe toks (d.at3 u)
def lW (toks:List Tok)(u:Nat):List dG→List DD
 | []=>[]
 | d :: l=>d.dd toks u :: lW toks (u+d.pt.lv) l
def nU (toks:List Tok)(u:Nat):Nat→List (List UInt8 × Nat)
 | 0=>[]
 | n+1=>(aH toks (u+1),dF toks (u+1)) :: nU toks (u+3) n
def j4.pp (toks:List Tok)(p:j4):PP:=⟨nU toks 0 p.imps,lW toks (3 * p.imps) p.defs⟩
def wQ:List PE→List UInt8
 | []=>[]
 | e :: l=>e.dump++wQ l
def Bt:List PE→List UInt8
 | []=>[]
 | e :: l=>e.pX++Bt l
def FF.Gm (f:FF):List UInt8:=[58]++fZ f.base++wQ f.clause
def FF.Ir (f:FF):List UInt8:=[58]++fZ f.base++Bt f.clause
def oQ:List FF→List UInt8
 | []=>[]
 | f :: l=>[32]++f.name++f.Gm++oQ l
def vk:List FF→List UInt8
 | []=>[]
 | f :: l=>[32]++f.name++f.Ir++vk l
def DD.dump (d:DD):List UInt8:=(if d.pub=true then [112,117,98,32] else [])++d.res.name++oQ d.params++([32]++d.res.Gm++[32,61,32]++d.body.dump++[10])
def DD.pX (d:DD):List UInt8:=(if d.pub=true then [112,117,98,32] else [])++d.res.name++vk d.params++([32]++d.res.Ir++[32,61,32]++d.body.pX++[10])
def oU:List DD→List UInt8
 | []=>[]
 | d :: l=>d.dump++oU l
def vv:List DD→List UInt8
 | []=>[]
 | d :: l=>d.pX++vv l
def qV:List (List UInt8 × Nat)→List UInt8
 | []=>[]
 | m :: l=>[105,109,112,111,114,116,32]++m.1++[10]++qV l
def PP.dump (p:PP):List UInt8:=qV p.imports++oU p.defs
def PP.pX (p:PP):List UInt8:=qV p.imports++vv p.defs
def FF.erase (f:FF):FF:={ f with clause:=[] }
def DD.erase (d:DD):DD:={ d with params:=d.params.map FF.erase,res:=d.res.erase }
def PP.erase (p:PP):PP:={ p with defs:=p.defs.map DD.erase }
def FF.Lx (f:FF):List Int:=if 0≤f.bare then [f.bare] else []
def DD.Lx (d:DD):List Int:=d.params.flatMap FF.Lx++d.res.Lx
def PP.Lx (p:PP):List Int:=p.defs.flatMap DD.Lx
def FF.all (P:PE→Prop)(f:FF):Prop:=∀ e∈f.clause,P e
def DD.all (P:PE→Prop)(d:DD):Prop:=(∀ f∈d.params,f.all P)∧d.res.all P∧P d.body
def PP.all (P:PE→Prop)(p:PP):Prop:=∀ d∈p.defs,d.all P
theorem Ao:∀ {l:List PE},(∀ e∈l,e.told)→Bt l=wQ l
 | [],_=>rfl
 | e :: l,h=>by
  rw[Bt,wQ,PE.jB (h e List.mem_cons_self),Ao fun x hx=>h x (List.mem_cons_of_mem _ hx)]
theorem FF.jB {f:FF}(h:f.all PE.told):f.Ir=f.Gm:=by rw[FF.Ir,FF.Gm,Ao h]
theorem vQ:∀ {l:List FF},(∀ f∈l,f.all PE.told)→vk l=oQ l
 | [],_=>rfl
 | f :: l,h=>by
  rw[vk,oQ,FF.jB (h f List.mem_cons_self),vQ fun x hx=>h x (List.mem_cons_of_mem _ hx)]
theorem DD.jB {d:DD}(h:d.all PE.told):d.pX=d.dump:=by
 rw[DD.pX,DD.dump,vQ h.1,FF.jB h.2.1,PE.jB h.2.2]
theorem vR:∀ {l:List DD},(∀ d∈l,d.all PE.told)→vv l=oU l
 | [],_=>rfl
 | d :: l,h=>by
  rw[vv,oU,DD.jB (h d List.mem_cons_self),vR fun x hx=>h x (List.mem_cons_of_mem _ hx)]
theorem PP.jB {p:PP}(h:p.all PE.told):p.pX=p.dump:=by rw[PP.pX,PP.dump,vR h]
theorem FF.qW {P:PE→Prop}(f:FF):f.erase.all P:=fun e he=>by cases he
theorem DD.qW {P:PE→Prop}{d:DD}(h:P d.body):d.erase.all P:=by
 refine⟨fun f hf=>?_,FF.qW _,h⟩;obtain⟨g,_,rfl⟩:=List.mem_map.1 hf;exact FF.qW g
theorem PP.qW {P:PE→Prop}{p:PP}(h:p.all P):p.erase.all P:=fun d hd=>by
 obtain⟨c,hc,rfl⟩:=List.mem_map.1 hd;exact DD.qW (h c hc).2.2
theorem Wj:∀ l:List PT,dU l≤dU (jR l)
 | []=>by rw[jR];exact Nat.le_refl _
 | [t]=>by rw[vg];exact Nat.le_refl _
 | t :: s :: l=>by
  have:=Wj (s :: l)
  have h2:dU (t :: .leaf :: jR (s :: l))=t.nd+(1+dU (jR (s :: l))):=by rw[dU,dU,PT.nd]
  rw[qQ,h2,dU];omega
theorem dG.Wm (d:dG):dU (d.kJ.map fK.par)≤d.pt.nd∧dU d.ty.pts≤d.pt.nd∧d.body.pt.nd≤d.pt.nd:=by
 have:=Wj (d.kJ.map fK.par);rw[dG.pt,PT.nd,dG.kids];simp only[mF,dU];omega
theorem j4.ZA (p:j4):dU (p.defs.map dG.pt)≤p.pt.nd:=by
 rw[j4.pt,PT.nd,j4.kids];simp only[mF,dU];omega
def PeN (toks:List Tok)(N:Nat)(P:PE→Prop):Prop:=∀ (cl:Bool) (e:CE) (u:Nat),e.ok toks cl u→e.pt.nd≤N→P (e.pe toks u)
theorem fK.Wn {toks:List Tok}{N:Nat}{P:PE→Prop}(h:PeN toks N P){t:fK}{u:Nat}{name:List UInt8}{a:Nat}(ho:t.ok toks u)(hn:dU t.pts≤N):(t.ff toks u name a).all P:=by
 intro x hx;obtain⟨_,ho⟩:=ho;unfold fK.ff at hx;unfold fK.pts at hn
 cases hc:t.cl with
 | none=>rw[hc] at hx;cases hx
 | some e =>
  rw[hc] at hx ho hn;simp only[List.mem_singleton] at hx;subst hx;simp only[dU,PT.nd,List.cons_append,List.nil_append] at hn;exact h true e _ ho (by omega)
theorem fK.abp (t:fK):dU t.pts≤t.par.nd:=by
 have:t.par.nd=dU (.leaf :: t.pts)+1:=by rw[fK.par,PT.nd]
 rw[dU] at this;omega
theorem LA {toks:List Tok}{N:Nat}{P:PE→Prop}(h:PeN toks N P):∀ (l:List fK) (u:Nat),wP toks u l→dU (l.map fK.par)≤N→∀ f∈mR toks u l,f.all P
 | [],_,_,_,f,hf=>by cases hf
 | t :: l,u,ho,hn,f,hf=>by
  have:=t.abp;rw[List.map_cons,dU] at hn;rw[mR,List.mem_cons] at hf
  rcases hf with rfl|hf
  ·exact fK.Wn h ho.1.2 (by omega)
  ·exact LA h l _ ho.2 (by omega) f hf
theorem dG.abq {toks:List Tok}{N:Nat}{P:PE→Prop}(h:PeN toks N P){d:dG}{u:Nat}(ho:d.ok toks u)(hn:d.pt.nd≤N):(d.dd toks u).all P:=by
 obtain⟨_,_,_,_,h5,h6,h7⟩:=ho;obtain⟨n1,n2,n3⟩:=d.Wm;exact⟨LA h _ _ h5 (by omega),fK.Wn h h6 (by omega),h _ _ _ h7 (by omega)⟩
theorem LB {toks:List Tok}{N:Nat}{P:PE→Prop}(h:PeN toks N P):∀ (l:List dG) (u:Nat),zA toks u l→dU (l.map dG.pt)≤N→∀ d∈lW toks u l,d.all P
 | [],_,_,_,d,hd=>by cases hd
 | x :: l,u,ho,hn,d,hd=>by
  rw[List.map_cons,dU] at hn;rw[lW,List.mem_cons] at hd
  rcases hd with rfl|hd
  ·exact dG.abq h ho.1 (by omega)
  ·exact LB h l _ ho.2 (by omega) d hd
theorem j4.zB {toks:List Tok}{P:PE→Prop}{p:j4}(h:PeN toks p.pt.nd P)(ho:p.ok toks):(p.pp toks).all P:=LB h _ _ ho.2.2.2 p.ZA
theorem Df (toks:List Tok):∀ (l:List fK) (u:Nat),(mR toks u l).length=l.length
 | [],_=>rfl
 | t :: l,u=>by rw[mR,dI,dI,Df toks l]
theorem wR (toks:List Tok):∀ (l:List dG) (u:Nat),(lW toks u l).length=l.length
 | [],_=>rfl
 | t :: l,u=>by rw[lW,dI,dI,wR toks l]
theorem wS (toks:List Tok):∀ (n u:Nat),(nU toks u n).length=n
 | 0,_=>rfl
 | n+1,u=>by rw[nU,dI,wS toks n]
structure FF.small (M:Nat) (f:FF):Prop where
 name:f.name.length≤M
 base:f.base=1∨f.base=2
 clause:f.clause.length≤1
structure DD.small (M:Nat) (d:DD):Prop where
 params:∀ f∈d.params,f.small M
 few:d.params.length≤8
 res:d.res.small M
structure PP.small (M:Nat) (p:PP):Prop where
 imports:∀ m∈p.imports,m.1.length≤M
 OP:p.imports.length≤16
 defs:∀ d∈p.defs,d.small M
 LC:p.defs.length≤64
theorem FF.small.erase {M:Nat}{f:FF}(h:f.small M):f.erase.small M:=⟨h.name,h.base,Nat.zero_le _⟩
theorem DD.small.erase {M:Nat}{d:DD}(h:d.small M):d.erase.small M:=by
 refine⟨fun f hf=>?_,by simpa [DD.erase] using h.few,h.res.erase⟩;obtain⟨g,hg,rfl⟩:=List.mem_map.1 hf;exact(h.params g hg).erase
theorem PP.small.erase {M:Nat}{p:PP}(h:p.small M):p.erase.small M:=by
 refine⟨h.imports,h.OP,fun d hd=>?_,by simpa [PP.erase] using h.LC⟩;obtain⟨c,hc,rfl⟩:=List.mem_map.1 hd;exact(h.defs c hc).erase
theorem fK.LD {toks:List Tok}{M:Nat}(hM:∀ u,(aH toks u).length≤M)(t:fK)(u v a:Nat):(t.ff toks u (aH toks v) a).small M:=by
 refine⟨hM v,?_,?_⟩
 ·show (if _ then _ else _)=1∨_
  split
  ·right;show (if _ then _ else _)=2;rw[if_pos (by assumption)]
  ·left;rfl
 ·unfold fK.ff
  cases t.cl<;>simp
theorem Dg {toks:List Tok}{M:Nat}(hM:∀ u,(aH toks u).length≤M):∀ (l:List fK) (u:Nat),∀ f∈mR toks u l,f.small M
 | [],_,f,hf=>by cases hf
 | t :: l,u,f,hf=>by
  rw[mR,List.mem_cons] at hf
  rcases hf with rfl|hf
  ·exact fK.LD hM _ _ _ _
  ·exact Dg hM l _ f hf
theorem dG.Wo {toks:List Tok}{M:Nat}(hM:∀ u,(aH toks u).length≤M){d:dG}{u:Nat}(ho:d.ok toks u):(d.dd toks u).small M :=
 ⟨Dg hM _ _,by show (mR _ _ _).length≤8;rw[Df];exact ho.2.2.2.1,fK.LD hM _ _ _ _⟩
theorem Dh {toks:List Tok}{M:Nat}(hM:∀ u,(aH toks u).length≤M):∀ (l:List dG) (u:Nat),zA toks u l→∀ d∈lW toks u l,d.small M
 | [],_,_,d,hd=>by cases hd
 | x :: l,u,ho,d,hd=>by
  rw[lW,List.mem_cons] at hd
  rcases hd with rfl|hd
  ·exact dG.Wo hM ho.1
  ·exact Dh hM l _ ho.2 d hd
theorem Di {toks:List Tok}{M:Nat}(hM:∀ u,(aH toks u).length≤M):∀ (n u:Nat),∀ m∈nU toks u n,m.1.length≤M
 | 0,_,m,hm=>by cases hm
 | n+1,u,m,hm=>by
  rw[nU,List.mem_cons] at hm
  rcases hm with rfl|hm
  ·exact hM _
  ·exact Di hM n _ m hm
theorem j4.LG {toks:List Tok}{M:Nat}{p:j4}(hM:∀ u,(aH toks u).length≤M)(ho:p.ok toks):(p.pp toks).small M :=
 ⟨Di hM _ _,by show (nU _ _ _).length≤16;rw[wS];exact ho.1,Dh hM _ _ ho.2.2.2,by show (lW _ _ _).length≤64;rw[wR];exact ho.2.1⟩
theorem Dj {K:Nat}:∀ {l:List PE},(∀ e∈l,e.dump.length≤K)→(wQ l).length≤l.length * K
 | [],_=>by simp[wQ]
 | e :: l,h=>by
  have h1:=h e List.mem_cons_self
  have h2:=Dj (l:=l) fun x hx=>h x (List.mem_cons_of_mem _ hx)
  rw[wQ,bC,dI,Nat.succ_mul];omega
def Dk (K:Nat)(e:PE):Prop:=e.dump.length≤K
theorem FF.qU {M K:Nat}{f:FF}(h:f.small M)(hk:f.all (Dk K)):f.Gm.length≤K+3:=by
 have h1:=Dj (K:=K) hk;have h2:f.clause.length * K≤1 * K:=Nat.mul_le_mul_right _ h.clause;have h3:=Iq (n:=f.base) (by rcases h.base with q|q<;>omega);rw[FF.Gm];simp only[bC,dI,List.length_nil];omega
theorem yu {M K:Nat}:∀ {l:List FF},(∀ f∈l,f.small M)→(∀ f∈l,f.all (Dk K))→(oQ l).length≤l.length * (M+K+4)
 | [],_,_=>by simp[oQ]
 | f :: l,h,hk=>by
  have h0:=h f List.mem_cons_self;have h1:=FF.qU h0 (hk f List.mem_cons_self);have h2:=yu (l:=l) (fun x hx=>h x (List.mem_cons_of_mem _ hx)) (fun x hx=>hk x (List.mem_cons_of_mem _ hx));have h3:=h0.name;rw[oQ,dI,Nat.succ_mul];simp only[bC,dI,List.length_nil];omega
theorem DD.yw {M K:Nat}{d:DD}(h:d.small M)(hk:d.all (Dk K)):d.dump.length≤10 * (M+K+4)+20:=by
 have h1:=yu h.params hk.1;have h2:d.params.length * (M+K+4)≤8 * (M+K+4):=Nat.mul_le_mul_right _ h.few;have h3:=FF.qU h.res hk.2.1;have h4:d.body.dump.length≤K:=hk.2.2;have h5:=h.res.name;rw[DD.dump];simp only[bC,dI,List.length_nil]
 split<;>simp only[dI,List.length_nil]<;>omega
theorem yx {M K:Nat}:∀ {l:List DD},(∀ d∈l,d.small M)→(∀ d∈l,d.all (Dk K))→(oU l).length≤l.length * (10 * (M+K+4)+20)
 | [],_,_=>by simp[oU]
 | d :: l,h,hk=>by
  have h1:=DD.yw (h d List.mem_cons_self) (hk d List.mem_cons_self);have h2:=yx (l:=l) (fun x hx=>h x (List.mem_cons_of_mem _ hx)) (fun x hx=>hk x (List.mem_cons_of_mem _ hx));rw[oU,bC,dI,Nat.succ_mul];omega
theorem yA {M:Nat}:∀ {l:List (List UInt8 × Nat)},(∀ m∈l,m.1.length≤M)→(qV l).length≤l.length * (M+8)
 | [],_=>by simp[qV]
 | m :: l,h=>by
  have h1:=h m List.mem_cons_self
  have h2:=yA (l:=l) fun x hx=>h x (List.mem_cons_of_mem _ hx)
  rw[qV,dI,Nat.succ_mul];simp only[bC,dI,List.length_nil];omega
theorem PP.yw {M K:Nat}{p:PP}(h:p.small M)(hk:p.all (Dk K)):p.dump.length≤16 * (M+8)+64 * (10 * (M+K+4)+20):=by
 have h1:=yA h.imports;have h2:p.imports.length * (M+8)≤16 * (M+8):=Nat.mul_le_mul_right _ h.OP;have h3:=yx h.defs hk;have h4:p.defs.length * (10 * (M+K+4)+20)≤64 * (10 * (M+K+4)+20):=Nat.mul_le_mul_right _ h.LC;rw[PP.dump,bC];omega
end Go.Proofs.YtknicmmigbhpcaaGreatDoor

namespace Go.Proofs.YtknicmmigbhpcaaGreatDoor
open Go.RowKit
structure RK (α β:Type) where
 sz:Nat
 cells:α→β→List Value
 inn:(Nat→Prop)→World→α→β→Prop
 len:∀ a b,(cells a b).length=sz
 frame:∀ {P:Nat→Prop} {w w':World} {a:α} {b:β},inn P w a b→aT P w w'→inn P w' a b
 imp:∀ {P Q:Nat→Prop} {w:World} {a:α} {b:β},inn P w a b→(∀ k,P k→k<w.heap.size→Q k)→inn Q w a b
section
variable {α β:Type}
def RK.flat (K:RK α β)(l:List (α × β)):List Value:=l.flatMap fun p=>K.cells p.1 p.2
theorem RK.LH (K:RK α β):∀ l:List (α × β),(K.flat l).length=l.length * K.sz
 | []=>by simp[RK.flat]
 | p :: l=>by
  have:=RK.LH K l;unfold RK.flat at this ⊢;rw[List.flatMap_cons,bC,K.len,this,dI,Nat.succ_mul,Nat.add_comm]
theorem RK.Gn (K:RK α β)(l:List (α × β))(p:α × β):K.flat (l++[p])=K.flat l++K.cells p.1 p.2:=by
 unfold RK.flat;rw[List.flatMap_append,List.flatMap_singleton]
theorem RK.xg (K:RK α β):∀ (l:List (α × β)) (i j:Nat) (h:i<l.length),j<K.sz→(K.flat l)[i * K.sz+j]?=(K.cells l[i].1 l[i].2)[j]?
 | [],i,j,h,_=>absurd h (by simp)
 | p :: l,0,j,_,hj=>by
  unfold RK.flat;rw[List.flatMap_cons,List.getElem?_append_left (by rw[K.len];omega)]
  simp
 | p :: l,i+1,j,h,hj=>by
  have:=RK.xg K l i j (by simpa using h) hj;unfold RK.flat at this ⊢;rw[List.flatMap_cons,List.getElem?_append_right (by rw[K.len,Nat.succ_mul];omega),K.len,show (i+1) * K.sz+j - K.sz=i * K.sz+j by rw[Nat.succ_mul];omega,this]
  simp
def RowK (K:RK α β)(P:Nat→Prop)(w:World)(v:Value)(zs:List α):Prop :=
 ∃ l:List (α × β),l.map Prod.fst=zs∧mo P w v K.sz zs.length (K.flat l)∧∀ p∈l,K.inn P w p.1 p.2
theorem RowK.frame {K:RK α β}{P:Nat→Prop}{w w':World}{v:Value}{zs:List α}(h:RowK K P w v zs)(ha:aT P w w'):RowK K P w' v zs:=by
 obtain⟨l,h1,h2,h3⟩:=h;exact⟨l,h1,h2.frame ha,fun p hp=>K.frame (h3 p hp) ha⟩
theorem RowK.imp {K:RK α β}{P Q:Nat→Prop}{w:World}{v:Value}{zs:List α}(h:RowK K P w v zs)(hq:∀ b,P b→b<w.heap.size→Q b):RowK K Q w v zs:=by
 obtain⟨l,h1,h2,h3⟩:=h;exact⟨l,h1,h2.imp hq,fun p hp=>K.imp (h3 p hp) hq⟩
theorem RowK.nil (K:RK α β)(P:Nat→Prop)(w:World):RowK K P w (.slice none 0 0) []:=⟨[],rfl,mo.nil P w K.sz,fun p hp=>by cases hp⟩
theorem RowK.slice {K:RK α β}{P:Nat→Prop}{w:World}{v:Value}{zs:List α}(h:RowK K P w v zs):∃ ao cap,v=.slice ao zs.length cap:=by
 obtain⟨l,h1,h2,h3⟩:=h;exact h2.form
theorem RowK.form {K:RK α β}{P:Nat→Prop}{w:World}{v:Value}{zs:List α}(h:RowK K P w v zs):∃ ao cap,v=.slice ao zs.length cap∧zs.length≤cap ∧
  (0<zs.length→∃ b off,ao=some ⟨b,off,none⟩∧P b∧b<w.heap.size∧∀ i,(hi:i<zs.length)→∃ x,K.inn P w zs[i] x∧∀ j u,(K.cells zs[i] x)[j]?=some u→w.cell? ⟨b,off+i * K.sz+j,none⟩=some u):=by
 obtain⟨l,rfl,⟨ao,cap,hv,hn,hl,hc⟩,h3⟩:=h;refine⟨ao,cap,hv,hn,fun h0=>?_⟩;obtain⟨b,off,ha,hP,hlt,hcell⟩:=hc h0;refine⟨b,off,ha,hP,hlt,fun i hi=>?_⟩;rw[List.length_map] at hi;rw[List.getElem_map];refine⟨_,h3 _ (List.getElem_mem hi),fun j u hu=>?_⟩
 have hj:j<K.sz:=by
  rcases Nat.lt_or_ge j K.sz with h'|h'
  ·exact h'
  ·rw[List.getElem?_eq_none (by rw[K.len];exact h')] at hu;cases hu
 have hu':=(K.xg l i j hi hj).trans hu;obtain⟨h',e⟩:=nY hu';have:=hcell (i * K.sz+j) h';rw[e] at this;rw[Nat.add_assoc];exact this
def fH (K:RK α β)(C e:Nat)(w:World)(v:Value)(zs:List α):Prop :=
 ∃ l:List (α × β),l.map Prod.fst=zs∧w.ownsRow C e K.sz v zs.length (K.flat l)∧∀ p∈l,K.inn (fun b=>C≤b∧some b≠v.ownBlock) w p.1 p.2
theorem fH.nil (K:RK α β)(C e:Nat)(w:World):fH K C e w (.slice none 0 0) []:=⟨[],rfl,World.ownsRow_nil _ _ _ _,fun p hp=>by cases hp⟩
theorem fH.below {K:RK α β}{C e:Nat}{w w':World}{v:Value}{zs:List α}(h:fH K C e w v zs)(hb:Below w.heap.size w w'):fH K C e w' v zs:=by
 obtain⟨l,h1,h2,h3⟩:=h;exact⟨l,h1,own_below h2 hb,fun p hp=>K.frame (h3 p hp) (aT.of hb)⟩
theorem fH.set {K:RK α β}{C e:Nat}{w:World}{v:Value}{zs:List α}(h:fH K C e w v zs){a:Addr}(ha:a.block<C)(u:Value):fH K C e (w.setCell a u) v zs:=by
 obtain⟨l,h1,h2,h3⟩:=h;refine⟨l,h1,iD h2 (fun q=>?_) u,fun p hp=>K.frame (h3 p hp) (aT.set u fun b hb=>by have:=hb.1;omega)⟩;have:=(h2.lt a.block q.symm).1;omega
theorem fH.drew {K:RK α β}{C e:Nat}{w:World}{v:Value}{zs:List α}(h:fH K C e w v zs):fH K C e w.drew v zs:=h.below ((Below.refl _ _).drew)
theorem fH.row {K:RK α β}{C e:Nat}{w:World}{v:Value}{zs:List α}(h:fH K C e w v zs):RowK K (fun b=>C≤b) w v zs:=by
 obtain⟨l,h1,h2,h3⟩:=h;exact⟨l,h1,mo.eP h2 fun b hb=>hb,fun p hp=>K.imp (h3 p hp) fun b hb _=>hb.1⟩
theorem fH.slice {K:RK α β}{C e:Nat}{w:World}{v:Value}{zs:List α}(h:fH K C e w v zs):∃ ao cap,v=.slice ao zs.length cap:=h.row.slice
theorem fH.snoc {K:RK α β}{C e:Nat}{w w':World}{kv kv':Value}{zs:List α}{a:α}{x:β}{g H:Nat}{l:List (α × β)}(h1:l.map Prod.fst=zs)(h2:∀ p∈l,K.inn (fun b=>C≤b∧some b≠kv.ownBlock) w p.1 p.2)(hx:K.inn (fun b=>C≤b∧some b≠kv.ownBlock) w a x)
  (hown:w'.ownsRow C e K.sz kv' (zs.length+1) (K.flat l++K.cells a x)) (hgrow:w.grownBy w' kv.ownBlock) (hv:kv'.ownBlock=some g) (hor:kv.ownBlock=some g∨g=H) (hH:w.heap.size≤H):fH K C e w' kv' (zs++[a]):=by
 have himp:∀ b,(C≤b∧some b≠kv.ownBlock)→b<w.heap.size→((C≤b∧some b≠kv'.ownBlock)∧some b≠kv.ownBlock):=fun b hb hlt=>by
  refine⟨⟨hb.1,fun q=>?_⟩,hb.2⟩;rw[hv] at q;simp only[Option.some.injEq] at q
  rcases hor with h|h
  ·exact hb.2 (by rw[h,q])
  ·omega
 have hall:∀ {a:α} {x:β},K.inn (fun b=>C≤b∧some b≠kv.ownBlock) w a x→K.inn (fun b=>C≤b∧some b≠kv'.ownBlock) w' a x:=fun h =>
  K.imp (K.frame (K.imp h himp) (aT.grown hgrow fun b hb=>hb.2)) fun b hb _=>hb.1
 refine⟨l++[(a,x)],by rw[List.map_append,h1];rfl,?_,fun p hp=>?_⟩
 ·rw[K.Gn,bC,List.length_singleton];exact hown
 ·rcases List.mem_append.1 hp with hp|hp
  ·exact hall (h2 p hp)
  ·rw[List.mem_singleton] at hp
   subst hp;exact hall hx
end
def EK (S:Shape):RK PE (Value × Value) where
 sz:=S.sz
 cells e p:=S.cells e p.1 p.2
 inn P w e p:=nH S P w p.1 p.2 e
 len e p:=S.len e p.1 p.2
 frame h ha:=h.frame ha
 imp h hq:=h.imp hq
def FK (S:Shape):RK FF Value where
 sz:=5
 cells f cv:=[dM f.name,.int .i64 f.base,cv,.int .i64 f.at_,.int .i64 f.bare]
 inn P w f cv:=RowK (EK S) P w cv f.clause
 len _ _:=rfl
 frame h ha:=h.frame ha
 imp h hq:=h.imp hq
structure DV where
 pv:Value
 cv:Value
 m:Value
 k:Value
def DA:RK DD DV where
 sz:=15
 cells d x:=[.bool d.pub,dM d.res.name,x.pv,.int .i64 d.res.base,x.cv,.int .i64 d.body.op,dM d.body.name,dM d.body.module,.bool (decide (d.body.num<0)),x.m,.bool d.body.yes,x.k,.int .i64 d.body.at_,.int .i64 d.res.at_,.int .i64 d.res.bare]
 inn P w d x:=RowK (FK XA) P w x.pv d.params∧RowK (EK XA) P w x.cv d.res.clause∧nH XA P w x.m x.k d.body
 len _ _:=rfl
 frame h ha:=⟨h.1.frame ha,h.2.1.frame ha,h.2.2.frame ha⟩
 imp h hq:=⟨h.1.imp hq,h.2.1.imp hq,h.2.2.imp hq⟩
def DR:RK DD DV where
 sz:=14
 cells d x:=[.bool d.pub,x.pv,dM d.res.name,.int .i64 d.res.base,x.cv,.int .i64 d.res.at_,.int .i64 d.res.bare,.int .i64 d.body.op,dM d.body.name,dM d.body.module,dM d.body.txt,.bool d.body.yes,x.k,.int .i64 d.body.at_]
 inn P w d x:=RowK (FK XR) P w x.pv d.params∧RowK (EK XR) P w x.cv d.res.clause∧nH XR P w x.m x.k d.body
 len _ _:=rfl
 frame h ha:=⟨h.1.frame ha,h.2.1.frame ha,h.2.2.frame ha⟩
 imp h hq:=⟨h.1.imp hq,h.2.1.imp hq,h.2.2.imp hq⟩
def IA:RK (List UInt8 × Nat) Unit where
 sz:=2
 cells m _:=[dM m.1,.int .i64 m.2]
 inn _ _ _ _:=True
 len _ _:=rfl
 frame _ _:=trivial
 imp _ _:=trivial
def IR:RK (List UInt8 × Nat) Unit where
 sz:=1
 cells m _:=[dM m.1]
 inn _ _ _ _:=True
 len _ _:=rfl
 frame _ _:=trivial
 imp _ _:=trivial
def Iu (P:Nat→Prop)(w:World)(iv dv:Value)(p:PP):Prop:=RowK IA P w iv p.imports∧RowK DA P w dv p.defs
def SY (P:Nat→Prop)(w:World)(iv dv:Value)(p:PP):Prop:=RowK IR P w iv p.imports∧RowK DR P w dv p.defs
theorem Iu.frame {P:Nat→Prop}{w w':World}{iv dv:Value}{p:PP}(h:Iu P w iv dv p)(ha:aT P w w'):Iu P w' iv dv p:=⟨h.1.frame ha,h.2.frame ha⟩
theorem Iu.imp {P Q:Nat→Prop}{w:World}{iv dv:Value}{p:PP}(h:Iu P w iv dv p)(hq:∀ b,P b→b<w.heap.size→Q b):Iu Q w iv dv p:=⟨h.1.imp hq,h.2.imp hq⟩
theorem SY.frame {P:Nat→Prop}{w w':World}{iv dv:Value}{p:PP}(h:SY P w iv dv p)(ha:aT P w w'):SY P w' iv dv p:=⟨h.1.frame ha,h.2.frame ha⟩
theorem SY.imp {P Q:Nat→Prop}{w:World}{iv dv:Value}{p:PP}(h:SY P w iv dv p)(hq:∀ b,P b→b<w.heap.size→Q b):SY Q w iv dv p:=⟨h.1.imp hq,h.2.imp hq⟩
end Go.Proofs.YtknicmmigbhpcaaGreatDoor

namespace Go.Proofs.YtknicmmigbhpcaaGreatDoor
open Go.RowKit Go
structure lX where
 sz:Nat
 cells:PZ→Value→Value→List Value
 agg:PZ→Value→Value→Value
 num:(Nat→Prop)→World→Int→Value→Prop
 len:∀ e m k,(cells e m k).length=sz
 frame:∀ {P:Nat→Prop} {w w':World} {n:Int} {m:Value},num P w n m→aT P w w'→num P w' n m
 imp:∀ {P Q:Nat→Prop} {w:World} {n:Int} {m:Value},num P w n m→(∀ b,P b→b<w.heap.size→Q b)→num Q w n m
def Dl (S:lX):List PZ→List (Value × Value)→List Value
 | e :: es,p :: l=>S.cells e p.1 p.2++Dl S es l
 | _,_=>[]
mutual
def nM (S:lX)(P:Nat→Prop)(w:World)(mag kv:Value):PZ→Prop
 | .mk _op _name YS num ad5 kids _at_=>S.num P w num mag∧∃ l:List (Value × Value),mo P w kv S.sz kids.length (Dl S kids l)∧jv S P w l kids
def jv (S:lX)(P:Nat→Prop)(w:World)(l:List (Value × Value)):List PZ→Prop
 | []=>l=[]
 | e :: es=>∃ p l',l=p :: l'∧nM S P w p.1 p.2 e∧jv S P w l' es
end
mutual
theorem nM.frame {S:lX}{P:Nat→Prop}{w w':World}(ha:aT P w w'):∀ {e:PZ} {m k:Value},nM S P w m k e→nM S P w' m k e
 | .mk op name module num yes kids at_,m,k,h=>by
  rw[nM] at h ⊢;obtain⟨h1,l,h2,h3⟩:=h;exact⟨S.frame h1 ha,l,h2.frame ha,jv.frame ha h3⟩
theorem jv.frame {S:lX}{P:Nat→Prop}{w w':World}(ha:aT P w w'):∀ {es:List PZ} {l:List (Value × Value)},jv S P w l es→jv S P w' l es
 | [],l,h=>by rw[jv] at h ⊢;exact h
 | e :: es,l,h=>by
  rw[jv] at h ⊢;obtain⟨p,l',h1,h2,h3⟩:=h;exact⟨p,l',h1,nM.frame ha h2,jv.frame ha h3⟩
end
mutual
theorem nM.imp {S:lX}{P Q:Nat→Prop}{w:World}(hq:∀ b,P b→b<w.heap.size→Q b):∀ {e:PZ} {m k:Value},nM S P w m k e→nM S Q w m k e
 | .mk op name module num yes kids at_,m,k,h=>by
  rw[nM] at h ⊢;obtain⟨h1,l,h2,h3⟩:=h;exact⟨S.imp h1 hq,l,h2.imp hq,jv.imp hq h3⟩
theorem jv.imp {S:lX}{P Q:Nat→Prop}{w:World}(hq:∀ b,P b→b<w.heap.size→Q b):∀ {es:List PZ} {l:List (Value × Value)},jv S P w l es→jv S Q w l es
 | [],l,h=>by rw[jv] at h ⊢;exact h
 | e :: es,l,h=>by
  rw[jv] at h ⊢;obtain⟨p,l',h1,h2,h3⟩:=h;exact⟨p,l',h1,nM.imp hq h2,jv.imp hq h3⟩
end
theorem jv.len {S:lX}{P:Nat→Prop}{w:World}:∀ {es:List PZ} {l:List (Value × Value)},jv S P w l es→l.length=es.length
 | [],l,h=>by rw[jv] at h;subst h;rfl
 | e :: es,l,h=>by
  rw[jv] at h;obtain⟨p,l',rfl,_,h3⟩:=h;simp[jv.len h3]
theorem jv.snoc {S:lX}{P:Nat→Prop}{w:World}:∀ {es:List PZ} {l:List (Value × Value)} {e:PZ} {m k:Value},jv S P w l es→nM S P w m k e→jv S P w (l++[(m,k)]) (es++[e])
 | [],l,e,m,k,h,h2=>by
  rw[jv] at h;subst h;rw[List.nil_append,List.nil_append,jv];exact⟨(m,k),[],rfl,h2,by rw[jv]⟩
 | x :: es,l,e,m,k,h,h2=>by
  rw[jv] at h;obtain⟨p,l',rfl,h3,h4⟩:=h;rw[List.cons_append,List.cons_append,jv];exact⟨p,_,rfl,h3,h4.snoc h2⟩
theorem LJ (S:lX):∀ (es:List PZ) (l:List (Value × Value)) (i j:Nat) (hl:l.length=es.length) (hi:i<es.length),j<S.sz→(Dl S es l)[i * S.sz+j]?=(S.cells es[i] (l[i]'(by omega)).1 (l[i]'(by omega)).2)[j]?
 | [],[],i,j,_,h,_=>absurd h (by simp)
 | x :: es,p :: l,0,j,_,_,hj=>by
  simp only[Dl,Nat.zero_mul,Nat.zero_add,List.getElem_cons_zero];rw[List.getElem?_append_left (by rw[S.len];exact hj)]
 | x :: es,p :: l,i+1,j,hl,hi,hj=>by
  simp only[Dl,List.getElem_cons_succ];rw[List.getElem?_append_right (by rw[S.len,Nat.succ_mul];omega),S.len,show (i+1) * S.sz+j - S.sz=i * S.sz+j by rw[Nat.succ_mul];omega];exact LJ S es l i j (by simpa using hl) (by simpa using hi) hj
 | [],_ :: _,_,_,h,_,_=>by simp at h
 | _ :: _,[],_,_,h,_,_=>by simp at h
theorem jv.get {S:lX}{P:Nat→Prop}{w:World}:∀ {es:List PZ} {l:List (Value × Value)} (h:jv S P w l es) (i:Nat) (hi:i<es.length),nM S P w (l[i]'(by rw[h.len];exact hi)).1 (l[i]'(by rw[h.len];exact hi)).2 es[i]
 | [],l,h,i,hi=>absurd hi (by simp)
 | e :: es,l,h,i,hi=>by
  have h':=h;rw[jv] at h';obtain⟨p,l',rfl,h3,h4⟩:=h'
  cases i with
  | zero=>exact h3
  | succ i=>exact h4.get i (by simpa using hi)
theorem nM.form {S:lX}{P:Nat→Prop}{w:World}{e:PZ}{mag kv:Value}(h:nM S P w mag kv e):S.num P w e.num mag∧∃ ao cap,kv=.slice ao e.kids.length cap∧e.kids.length≤cap ∧
  (0<e.kids.length→∃ b off,ao=some ⟨b,off,none⟩∧P b∧b<w.heap.size∧∀ i,(hi:i<e.kids.length)→∃ m k,nM S P w m k e.kids[i]∧∀ j u,(S.cells e.kids[i] m k)[j]?=some u→w.cell? ⟨b,off+i * S.sz+j,none⟩=some u):=by
 cases e with
 | mk op name module num yes kids at_ =>
  rw[nM] at h;obtain⟨h1,l,⟨ao,cap,hv,hn,hl,hc⟩,h3⟩:=h;refine⟨h1,ao,cap,hv,hn,fun h0=>?_⟩;obtain⟨b,off,ha,hP,hlt,hcell⟩:=hc h0;refine⟨b,off,ha,hP,hlt,fun i hi=>?_⟩;have hll:=h3.len;refine⟨_,_,h3.get i hi,fun j u hu=>?_⟩
  have hj:j<S.sz:=by
   rcases Nat.lt_or_ge j S.sz with h'|h'
   ·exact h'
   ·rw[List.getElem?_eq_none (by rw[S.len];exact h')] at hu;cases hu
  have hr:=LJ S kids l i j hll hi hj;have hu':=hr.trans hu;obtain⟨h',e⟩:=nY hu';have:=hcell (i * S.sz+j) h';rw[e] at this;rw[Nat.add_assoc];exact this
def YA:lX where
 sz:=8
 cells e m k:=[.int .i64 e.op,dM e.name,dM e.module,.bool (decide (e.num<0)),m,.bool e.yes,k,.int .i64 e.at_]
 agg e m k:=.agg #[.int .i64 e.op,dM e.name,dM e.module,.bool (decide (e.num<0)),m,.bool e.yes,k,.int .i64 e.at_]
 num:=lM
 len _ _ _:=rfl
 frame h ha:=by obtain⟨ws,h1,h2⟩:=h;exact⟨ws,h1.frame ha,h2⟩
 imp h hq:=by obtain⟨ws,h1,h2⟩:=h;exact⟨ws,h1.imp hq,h2⟩
def ZK (S:lX):RK PZ (Value × Value) where
 sz:=S.sz
 cells e p:=S.cells e p.1 p.2
 inn P w e p:=nM S P w p.1 p.2 e
 len e p:=S.len e p.1 p.2
 frame h ha:=h.frame ha
 imp h hq:=h.imp hq
theorem LK (e:PE)(m k:Value):YA.cells e.z m k=XA.cells e m k:=by cases e;rfl
theorem LM:∀ (es:List PE) (l:List (Value × Value)),Dl YA (QD es) l=oM XA es l
 | [],_=>rfl
 | e :: es,[]=>rfl
 | e :: es,p :: l=>by rw[QD,Dl,oM,LK,LM es l]
mutual
theorem nM.ofE {P:Nat→Prop}{w:World}:∀ {e:PE} {m k:Value},nH XA P w m k e→nM YA P w m k e.z
 | .mk op nm md num txt yes kids at_,m,k,h=>by
  rw[nH] at h;obtain⟨h1,l,h2,h3⟩:=h;rw[PE.z,nM];refine⟨h1,l,?_,jv.ofE h3⟩;rw[LM,H9,List.length_map];exact h2
theorem jv.ofE {P:Nat→Prop}{w:World}:∀ {es:List PE} {l:List (Value × Value)},iB XA P w l es→jv YA P w l (QD es)
 | [],l,h=>by rw[iB] at h;rw[QD,jv];exact h
 | e :: es,l,h=>by
  rw[iB] at h;obtain⟨p,l',h1,h2,h3⟩:=h;rw[QD,jv];exact⟨p,l',h1,nM.ofE h2,jv.ofE h3⟩
end
theorem Wp (r x:Nat)(hr:r<4294967296)(hx:x<4294967296):bits BinOp.or IntKind.u64 ((r:Int) * 4294967296) (x:Int)=(r:Int) * 4294967296+(x:Int):=by
 have e:((r:Int) * 4294967296)=((r * 4294967296:Nat):Int):=by omega
 have h:(r * 4294967296) ||| x=r * 4294967296+x:=by
  rw[show (4294967296:Nat)=2 ^ 32 from rfl,← Nat.shiftLeft_eq,Nat.shiftLeft_add_eq_or_of_lt (by omega)]
 rw[e,u64_or_nat _ _ (by omega) (by omega),h];omega
theorem Wq {α:Type}(z v:α)(k:Nat)(L:List α):(List.replicate (k+1) z++L).set k v=List.replicate k z++v :: L:=by
 rw[List.replicate_succ',List.append_assoc,List.set_append_right _ _ (by simp),List.length_replicate,Nat.sub_self]
 rfl
def Gp (b:Nat)(ws:List Nat)(w:World)(e:Ending)(w':World):Prop :=
 ∃ cap,e=.returned (.tuple #[.slice (some ⟨w.heap.size,0,none⟩) (bW (aZ b ws).1).length cap,.int .u64 ((aZ b ws).2:Nat)])∧Wd (fun k=>w.heap.size≤k) w' (.slice (some ⟨w.heap.size,0,none⟩) (bW (aZ b ws).1).length cap) (bW (aZ b ws).1)∧Below w.heap.size w w'
theorem OQ (P:Nat→Prop)(ao:Option Addr)(cap:Nat)(ws:List Nat)(b:Nat)(w:World)(h:Wd P w (.slice ao ws.length cap) ws)(hw:∀ x∈ws,x<4294967296)(hb:0<b)(yR:b≤1000000000)(hn:ws.length≤1000) :
  Calls Tryz.prog 117 #[.slice ao ws.length cap,.int .u64 b] w (Gp b ws w):=by
 obtain⟨i0,hi,hz0,hz1,hz2⟩:=info_parts Tryz.QH;obtain⟨ao',cap',hv,hc1,hf⟩:=h.form;simp only[Value.slice.injEq] at hv;obtain⟨rfl,-,rfl⟩:=hv;have HF:=ah hf;have HW:=ah hw;have hmk:=run_make (P:=Tryz.prog) w 42 259 i0 (.int .u32 0) Tryz.underlying42 hi hz0 .i64 .i64 ws.length ws.length (by omega) (by omega) (by rw[hz2];omega) (by omega);rw[hz1] at hmk;clear hf h hw;go_enter Tryz.func117,Tryz.ntmps117;go_wp2;have hnew:=heap_alloc_new w (.cells (madeCells #[Value.int .u32 0] ws.length) 259);have hbw:=aj w (.cells (madeCells #[Value.int .u32 0] ws.length) 259);clear hmk;generalize w.alloc _=w2 at hnew hbw ⊢
 go_loopw [7,8] (fun rv q wr=>∃ (k:Nat) (i:Int) (cs:Array Value),k≤ws.length∧q=.int .i64 i∧i+1=(k:Int)∧rv=.int .u64 ((aZ b (ws.drop k)).2:Nat)∧wr.heap[w.heap.size]?=some (.cells cs 259 (0,0))∧cs.toList=List.replicate k (.int .u32 0)++(aZ b (ws.drop k)).1.map (fun d=>.int .u32 (d:Nat))∧Below w.heap.size w wr) (fun _ q _=>(intOf q+1).toNat)
 case atStart=>exact⟨ws.length,_,_,Nat.le_refl _,rfl,by omega,by rw[List.drop_length];rfl,hnew,by rw[toList_madeCells_one,List.drop_length];simp[aZ],hbw⟩
 case round =>
  obtain⟨k,i,cs,hk,rfl,hik,rfl,hcs,hcl,hbl⟩:=hrel;have hz:=hbl.size
  cases k with
  | zero =>
   obtain rfl:i=-1:=by omega
   rw[List.drop_zero] at hcl ⊢;rw[List.replicate_zero,List.nil_append] at hcl;have hsl:=BM b ws
   have hWd:Wd (fun k=>w.heap.size≤k) wr (.slice (some ⟨w.heap.size,0,none⟩) (aZ b ws).1.length ws.length) (aZ b ws).1:=by
    refine⟨_,_,rfl,by rw[hsl];exact Nat.le_refl _,by simp,fun h0=>⟨w.heap.size,0,rfl,Nat.le_refl _,(bQ hcs).1,fun j hj=>?_⟩⟩;rw[Lib.cell_of_heap hcs,Nat.zero_add,← Array.getElem?_toList,hcl,List.getElem?_eq_getElem hj]
   have hT:=zu _ (some ⟨w.heap.size,0,none⟩) ws.length (aZ b ws).1 wr hWd (by omega);obtain⟨n,n1,n2,_,_⟩:=rQ (aZ b ws).1
   have hln:(bW (aZ b ws).1).length=n:=by rw[n2,List.length_take];omega
   have hW2:Wd (fun k=>w.heap.size≤k) wr (.slice (some ⟨w.heap.size,0,none⟩) (bW (aZ b ws).1).length ws.length) (bW (aZ b ws).1):=by
    rw[hln,n2];exact hWd.take n1
   rw[hsl] at hT;have HT:=ah hT;have HW2:=ah hW2;clear hT hW2 hWd hsl hln n1 n2 hcl;go_wp2_with (go_at_call 183;refine HT.out.mono ?_;rintro e w8 ⟨rfl,rfl⟩);go_ret2;exact⟨_,rfl,HW2.out,hbl⟩
  | succ k =>
   obtain rfl:i=(k:Int):=by omega
   obtain⟨bk,off,rfl,_,hbk,hcell⟩:=HF.out (by omega);have hx:=(hbl.cell (p:=⟨bk,off+k,none⟩) hbk).trans (hcell k (by omega));have hxw:=HW.out ws[k] (List.getElem_mem (by omega));have hdr:ws.drop k=ws[k] :: ws.drop (k+1):=List.drop_eq_getElem_cons (by omega);have hr:=pW b hb (ws.drop (k+1))
   have hsh:aZ b (ws.drop k)=(((aZ b (ws.drop (k+1))).2 * 4294967296+ws[k]) / b :: (aZ b (ws.drop (k+1))).1,((aZ b (ws.drop (k+1))).2 * 4294967296+ws[k]) % b):=by rw[hdr,aZ]
   have HS:=ah hsh;have NV:=ah hcl;generalize (aZ b (ws.drop (k+1))).2=r at hr HS ⊢;generalize ws[k]=x at hx hxw HS
   have pQ:(k:Int)<(ws.length:Int):=by omega
   clear hcell hdr hsh hcl;have hlt:=(bQ hcs).1;have hor:=Wp r x (by omega) hxw
   have hk0:cs.toList[k]?=some (.int .u32 0):=by
    rw[NV.out,List.getElem?_append_left (by simp),List.getElem?_replicate,if_pos (by omega)]
   have o0:wr.cell? ⟨w.heap.size,k,none⟩=some (.int .u32 0):=by rw[Lib.cell_of_heap hcs,← Array.getElem?_toList];exact hk0
   have oz:∀ j,wr.frozen? ⟨w.heap.size,j,none⟩=false:=by intro j;simp[World.frozen?,hcs]
   clear hk0
   have hq:(r * 4294967296+x) / b<4294967296:=by
    rw[Nat.div_lt_iff_lt_mul hb];have:(r+1) * 4294967296≤b * 4294967296:=Nat.mul_le_mul_right _ hr;rw[Nat.mul_comm 4294967296 b];omega
   have e1:((r:Int) * 4294967296+(x:Int)) % (b:Int)=(((r * 4294967296+x) % b:Nat):Int):=by
    rw[Int.natCast_emod]
    congr 1
   have e2:((r:Int) * 4294967296+(x:Int)) / (b:Int) % 4294967296=(((r * 4294967296+x) / b:Nat):Int):=by
    have e3:((r:Int) * 4294967296+(x:Int)) / (b:Int)=(((r * 4294967296+x) / b:Nat):Int):=by
     rw[Int.natCast_ediv]
     congr 1
    rw[e3];generalize (r * 4294967296+x) / b=qq at hq ⊢;omega
   have E1:=ah e1;have E2:=ah e2;clear e1 e2;go_wp2;refine⟨⟨k,(k:Int) - 1,_,by omega,rfl,by omega,by rw[HS.out];exact Bq E1.out,heap_setCell_same wr w.heap.size k _ _ _ hcs,?_,hbl.setCell (Nat.le_refl _) _⟩,by simp[intOf]⟩;rw[Array.toList_setIfInBounds,NV.out,Wq,HS.out,E2.out]
   rfl
end Go.Proofs.YtknicmmigbhpcaaGreatDoor
