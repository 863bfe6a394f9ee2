/- Walks and plain laws: LexNums, GoodLaws, ProgPE, ProgMem, ZMem, ZedW3, BytesRev, IntPlain, SizeL, AtsL, IntW. -/
import Derived.Test.YtmhdgeekclhbbaaGreatDoorR09
import Derived.Laws.BitsAllLaws
import Derived.Lib.UnsafeStr
import Derived.Shelf.RegionOpen
import Derived.Lib.ItoaNum
import Derived.Lib.TrimByte
import Derived.Maps.AppendAt
import Derived.RangeFuncBox
import Derived.Lib.SlicesMore
set_option maxHeartbeats 16000000
set_option maxRecDepth 100000
set_option linter.unusedVariables false
set_option linter.unusedSimpArgs false
namespace Go.Proofs.YtmhdgeekclhbbaaGreatDoor
def uK (l:List UInt8):Prop:=fT l=true∧l≠[]∧l.length≤60∧(l.head?=some 48→l.length=1)
theorem QT (c:UInt8):aP c=(decide (48≤c.toNat) && decide (c.toNat≤57)):=by
 unfold aP;rw[Bool.eq_iff_iff];simp only[Bool.and_eq_true,decide_eq_true_eq,UInt8.le_iff_toNat_le];exact Iff.rfl
theorem Yk (T:List UInt8)(h:(bR T).1=3)(h0:(bR T).2.2=0):uK (T.take (bR T).2.1):=by
 cases T with
 | nil=>simp[bR] at h
 | cons c r =>
  rw[bR] at h h0 ⊢
  by_cases hc:cZ c=true
  ·rw[if_pos hc] at h
   simp only[jm] at h
   split at h
   ·cases h
   ·split at h<;>cases h
  ·rw[if_neg hc] at h h0 ⊢
   by_cases hd:aP c=true
   ·rw[if_pos hd] at h h0 ⊢
    simp only[jD] at h h0 ⊢
    split at h
    ·cases h
    ·rename_i Ay
     rw[if_neg Ay];simp only;have ht:(c :: r).take ((c :: r).takeWhile aP).length=(c :: r).takeWhile aP:=(List.prefix_iff_eq_take.1 (List.takeWhile_prefix _)).symm
     have hne:(c :: r).takeWhile aP≠[]:=by rw[List.takeWhile_cons_of_pos hd];simp
     have hall:∀ x∈(c :: r).takeWhile aP,aP x=true:=fun x hx=>by
      have:=List.all_takeWhile (l:=c :: r) (p:=aP);rw[List.all_eq_true] at this;exact this x hx
     rw[ht];generalize (c :: r).takeWhile aP=w at Ay hne hall;refine⟨?_,hne,by omega,fun q=>?_⟩
     ·rw[fT,List.all_eq_true]
      intro x hx;rw[← QT];exact hall x hx
     ·rw[List.head?_eq_getElem?] at q
      have:=List.length_pos_iff.2 hne
      by_cases h1:1<w.length
      ·exact absurd (.inr ⟨h1,q⟩) Ay
      ·omega
   ·rw[if_neg hd,xX] at h
    split at h<;>cases h
theorem I4:∀ (n:Nat) (T:List UInt8) (p:Nat) (l:List Tok),kX n T p=.ok l→∀ t∈l,t.kind=3→uK t.text
 | 0,T,p,l,h,t,ht,hk=>by rw[kX] at h;cases h
 | n+1,T,p,l,h,t,ht,hk=>by
  rw[kX] at h
  try simp only at h
  split at h
  ·cases h
  rename_i h0
  split at h
  ·injection h with h
   subst h;rw[List.mem_singleton] at ht;subst ht;cases hk
  ·split at h
   ·cases h
   ·rename_i l' hl'
    injection h with h
    subst h
    rcases List.mem_cons.1 ht with rfl|ht
    ·exact Yk _ hk (by omega)
    ·exact I4 n _ _ _ hl' t ht hk
theorem rZ {S:List UInt8}{l:List Tok}(h:bO S=.ok l):∀ t∈l,t.kind=3→uK t.text:=by
 unfold bO at h
 split at h
 ·cases h
 ·exact I4 _ _ _ _ h
theorem wu {ah:List Tok}(h:0<ah.length)(u:Nat):dh ah u∈ah:=by
 unfold dh;rw[List.getD_eq_getElem?_getD,yV (by omega),Option.getD_some];exact mX _
theorem uK.dec {l:List UInt8}(h:uK l):gN (jo l)=l:=Xj l h.1 h.2.1 h.2.2.2
theorem xL {S:List UInt8}{l:List Tok}(h:bO S=.ok l):PU l:=fun u hu =>
 (rZ h _ (wu (iL h).some u) hu).dec
theorem Kj {n:Nat}(h:n<100):(gN n).length≤2:=by
 rw[gN]
 split
 ·simp
 ·rw[gN,dif_pos (by omega)]
  simp
mutual
theorem EM:∀ (t:PT) (b u:Nat),t.wf→∀ n∈t.em b u,(0≤n.kind∧n.kind<100)∧(n.kind=19→(u:Int)≤n.tok∧n.tok<((u+t.lv:Nat):Int))
 | .leaf,b,u,_,n,h=>by
  rw[PT.em,List.mem_singleton] at h;subst h;rw[PT.lv];simp only;omega
 | .node k l,b,u,hw,n,h=>by
  rw[PT.wf] at hw;rw[PT.em,List.mem_append,List.mem_singleton] at h
  rcases h with h|h
  ·exact I5 l b u hw.2.2 n h
  ·subst h
   simp only;omega
theorem I5:∀ (l:List PT) (b u:Nat),mP l→∀ n∈za b u l,(0≤n.kind∧n.kind<100)∧(n.kind=19→(u:Int)≤n.tok∧n.tok<((u+bU l:Nat):Int))
 | [],b,u,_,n,h=>by rw[za] at h;cases h
 | t :: l,b,u,hw,n,h=>by
  rw[mP] at hw;rw[za,List.mem_append] at h;rw[bU]
  rcases h with h|h
  ·have:=EM t _ _ hw.1 n h
   exact⟨this.1,fun q=>by have:=this.2 q;omega⟩
  ·have:=I5 l _ _ hw.2 n h
   exact⟨this.1,fun q=>by have:=this.2 q;omega⟩
end
mutual
theorem tF {ah:List Tok}{M:Nat}(hM:∀ u,(aN ah u).length≤M):∀ (t:PT) (u:Nat),t.wf→(t.dump ah u).length+1≤t.nd * (M+16)
 | .leaf,u,_=>by
  rw[PT.dump,oW,PT.nd,bN];have:=hM u;unfold aN at this
  split<;>simp<;>omega
 | .node k l,u,hw=>by
  rw[PT.wf] at hw;have h1:=EN hM l u hw.2.2;have h2:=Kj (n:=k) (by omega);rw[PT.dump,PT.nd,Nat.succ_mul];simp only[bN,dR,gX];omega
theorem EN {ah:List Tok}{M:Nat}(hM:∀ u,(aN ah u).length≤M):∀ (l:List PT) (u:Nat),mP l→(Cb ah u l).length≤eP l * (M+16)
 | [],u,_=>by simp[Cb]
 | t :: l,u,hw=>by
  rw[mP] at hw;have h1:=tF hM t u hw.1;have h2:=EN hM l (u+t.lv) hw.2;rw[Cb,eP,Nat.add_mul];simp only[bN,dR,gX];omega
end
mutual
def PE.fits (M:Nat):PE→Prop
 | .mk op name module num txt _ aA _=>op<100∧name.length≤M∧module.length≤M∧txt.length≤M∧(jG num).length≤M∧num.natAbs<10 ^ 60∧jf M aA
def jf (M:Nat):List PE→Prop
 | []=>True
 | e :: l=>e.fits M∧jf M l
end
theorem QU {ah:List Tok}(hN:∀ t∈ah,t.kind=3→uK t.text)(h0:0<ah.length){u:Nat}(hk:iq ah u=3):jo (aN ah u)<10 ^ 60:=by
 have h:=hN _ (wu h0 u) hk;exact Nat.lt_of_lt_of_le (Dh _ h.1) (Nat.pow_le_pow_right (by omega) h.2.2.1)
mutual
theorem CE.fits {ah:List Tok}{M:Nat}(h0:0<ah.length)(hN:∀ t∈ah,t.kind=3→uK t.text)(hM:∀ u,(aN ah u).length≤M)(h1:1≤M){cl:Bool}:∀ (e:CE) (u:Nat),e.ok ah cl u→(e.pe ah u).fits M
 | .num,u,h=>by
  rw[CE.ok] at h;rw[CE.pe,PE.fits,zm,show gN (jo (aN ah u))=aN ah u from (hN _ (wu h0 u) h).dec];have:=QU hN h0 h;exact⟨by omega,by simp,by simp,hM u,hM u,by omega,by rw[jf];trivial⟩
 | .truth,u,h=>by rw[CE.pe,PE.fits,jf];exact⟨by omega,by simp,by simp,by simp,by simpa [jG,gN] using h1,by simp,trivial⟩
 | .res,u,h=>by rw[CE.pe,PE.fits,jf];exact⟨by omega,by simp,by simp,by simp,by simpa [jG,gN] using h1,by simp,trivial⟩
 | .PO,u,h=>by rw[CE.pe,PE.fits,jf];exact⟨by omega,hM u,by simp,by simp,by simpa [jG,gN] using h1,by simp,trivial⟩
 | .group e,u,h=>by
  rw[CE.ok] at h;rw[CE.pe];exact CE.fits h0 hN hM h1 e _ h.2
 | .un e,u,h=>by
  rw[CE.ok] at h;rw[CE.pe,PE.fits,jf,jf];exact⟨by split<;>omega,by simp,by simp,by simp,by simpa [jG,gN] using h1,by simp,CE.fits h0 hN hM h1 e _ h.2,trivial⟩
 | .bin a b,u,h=>by
  rw[CE.ok] at h;rw[CE.pe,PE.fits,jf,jf,jf];have hi:qD.idxOf (aN ah (u+a.pt.lv))≤qD.length:=List.idxOf_le_length;have hl:qD.length=14:=rfl;exact⟨by omega,by simp,by simp,by simp,by simpa [jG,gN] using h1,by simp,CE.fits h0 hN hM h1 a _ h.2.1,CE.fits h0 hN hM h1 b _ h.2.2,trivial⟩
 | .iff a b c,u,h=>by
  rw[CE.ok] at h;rw[CE.pe,PE.fits,jf,jf,jf,jf];exact⟨by omega,by simp,by simp,by simp,by simpa [jG,gN] using h1,by simp,CE.fits h0 hN hM h1 a _ h.2.1,CE.fits h0 hN hM h1 b _ h.2.2.1,CE.fits h0 hN hM h1 c _ h.2.2.2,trivial⟩
 | .sO a b,u,h=>by
  rw[CE.ok] at h;rw[CE.pe,PE.fits,jf,jf,jf];exact⟨by omega,hM _,by simp,by simp,by simpa [jG,gN] using h1,by simp,CE.fits h0 hN hM h1 a _ h.2.2.1,CE.fits h0 hN hM h1 b _ h.2.2.2,trivial⟩
 | .sP a b,u,h=>by
  rw[CE.ok] at h;rw[CE.pe,PE.fits,jf,jf,jf];exact⟨by omega,by simp,by simp,by simp,by simpa [jG,gN] using h1,by simp,CE.fits h0 hN hM h1 a _ h.2.1,CE.fits h0 hN hM h1 b _ h.2.2,trivial⟩
 | .call q l,u,h=>by
  rw[CE.ok] at h;rw[CE.pe]
  cases q with
  | true =>
   rw[if_pos rfl,PE.fits];exact⟨by omega,hM _,hM _,by simp,by simpa [jG,gN] using h1,by simp,EO h0 hN hM h1 l _ h.2.2.2.2.2⟩
  | false =>
   rw[if_neg (by decide),PE.fits];exact⟨by omega,hM _,by simp,by simp,by simpa [jG,gN] using h1,by simp,EO h0 hN hM h1 l _ h.2.2.2.2⟩
theorem EO {ah:List Tok}{M:Nat}(h0:0<ah.length)(hN:∀ t∈ah,t.kind=3→uK t.text)(hM:∀ u,(aN ah u).length≤M)(h1:1≤M){cl:Bool}:∀ (l:List CE) (u:Nat),pO ah cl u l→jf M (jV ah u l)
 | [],u,_=>by rw[jV,jf];trivial
 | e :: l,u,h=>by
  rw[pO] at h;rw[jV,jf];exact⟨CE.fits h0 hN hM h1 e _ h.1,EO h0 hN hM h1 l _ h.2⟩
end
theorem Tg (a b:List PT):eP (a++b)=eP a+eP b:=oh a b
mutual
def PE.j5:PE→Nat
 | .mk _ _ _ _ _ _ aA _=>1+gP aA
def gP:List PE→Nat
 | []=>0
 | e :: l=>e.j5+gP l
end
mutual
theorem CE.iC (ah:List Tok):∀ (e:CE) (u:Nat),(e.pe ah u).j5≤e.pt.nd
 | .num,u=>by simp[CE.pe,PE.j5,gP,CE.pt,PT.nd,eP]
 | .truth,u=>by simp[CE.pe,PE.j5,gP,CE.pt,PT.nd,eP]
 | .res,u=>by simp[CE.pe,PE.j5,gP,CE.pt,PT.nd,eP]
 | .PO,u=>by simp[CE.pe,PE.j5,gP,CE.pt,PT.nd,eP]
 | .group e,u=>by
  have:=CE.iC ah e (u+1);simp only[CE.pe,CE.pt,PT.nd,eP];omega
 | .un e,u=>by
  have:=CE.iC ah e (u+1);simp only[CE.pe,PE.j5,gP,CE.pt,PT.nd,eP];omega
 | .bin a b,u=>by
  have h1:=CE.iC ah a u;have h2:=CE.iC ah b (u+a.pt.lv+1);simp only[CE.pe,PE.j5,gP,CE.pt,PT.nd,eP];omega
 | .iff a b c,u=>by
  have h1:=CE.iC ah a (u+1);have h2:=CE.iC ah b (u+1+a.pt.lv+1);have h3:=CE.iC ah c (u+1+a.pt.lv+1+b.pt.lv+1);simp only[CE.pe,PE.j5,gP,CE.pt,PT.nd,eP];omega
 | .sO a b,u=>by
  have h1:=CE.iC ah a (u+3);have h2:=CE.iC ah b (u+3+a.pt.lv+1);simp only[CE.pe,PE.j5,gP,CE.pt,PT.nd,eP];omega
 | .sP a b,u=>by
  have h1:=CE.iC ah a (u+1);have h2:=CE.iC ah b (u+1+a.pt.lv+1);simp only[CE.pe,PE.j5,gP,CE.pt,PT.nd,eP];omega
 | .call q l,u=>by
  have h:∀ u,gP (jV ah u l)≤eP (fG l):=fun u=>zR ah l u
  cases q with
  | true =>
   have:=h (u+4);simp only[CE.pe,if_pos,PE.j5,CE.pt,PT.nd,Tg,eP];omega
  | false =>
   have:=h (u+2);simp only[CE.pe,PE.j5,CE.pt,PT.nd,Tg,eP,Bool.false_eq_true,if_false];omega
theorem zR (ah:List Tok):∀ (l:List CE) (u:Nat),gP (jV ah u l)≤eP (fG l)
 | [],u=>by simp[jV,gP]
 | [e],u=>by
  have:=CE.iC ah e u;simp only[jV,gP,uw,eP];omega
 | e :: f :: l,u=>by
  have h1:=CE.iC ah e u;have h2:=zR ah (f :: l) (u+e.pt.lv+1);rw[jV,gP,om,eP,eP];simp only[PT.nd];omega
end
theorem Yl {op:Nat}{nm md nu:List UInt8}{ys:Bool}{M:Nat}(h1:op<100)(h2:nm.length≤M)(h3:md.length≤M)(h4:nu.length≤M):(LW op nm md nu ys).length≤3 * M+20:=by
 have:=Kj h1;unfold LW;simp only[bN,dR,gX]
 split<;>split<;>split<;>(try split)<;>(try split)<;>simp<;>omega
mutual
theorem I6 {M:Nat}:∀ (e:PE),e.fits M→e.rQ.length+1≤e.j5 * (3 * M+30)
 | .mk op name module num txt yes aA a,h=>by
  rw[PE.fits] at h;have h1:=EP aA h.2.2.2.2.2.2;have h2:=Yl (ys:=yes) h.1 h.2.1 h.2.2.1 h.2.2.2.1;rw[PE.rQ,PE.j5,Nat.add_mul];simp only[bN,dR,gX];omega
theorem EP {M:Nat}:∀ (l:List PE),jf M l→(vH l).length≤gP l * (3 * M+30)
 | [],_=>by simp[vH]
 | e :: l,h=>by
  rw[jf] at h;have h1:=I6 e h.1;have h2:=EP l h.2;rw[vH,gP,Nat.add_mul];simp only[bN,dR,gX];omega
end
structure FF where
 name:List UInt8
 base:Nat
 aC:List PE
 at_:Nat
 bare:Int
structure DD where
 pub:Bool
 params:List FF
 res:FF
 body:PE
structure PP where
 aG:List (List UInt8 × Nat)
 defs:List DD
def gB.ff (ah:List Tok)(u:Nat)(name:List UInt8)(at_:Nat)(t:gB):FF where
 name:=name
 base:=if aN ah (u+1)=zO then 2 else 1
 aC:=match t.cl with|none=>[]|some e=>[e.pe ah (u+3)]
 at_:=at_
 bare:=match t.cl with|none=>((dS ah (u+1)+(aN ah (u+1)).length:Nat):Int)|some _=>-1
def gB.wB (ah:List Tok)(u:Nat)(t:gB):FF:=t.ff ah (u+1) (aN ah u) (dS ah u)
def oG (ah:List Tok)(u:Nat):List gB→List FF
 | []=>[]
 | t :: l=>t.wB ah u :: oG ah (u+t.par.lv+1) l
def dU.dd (ah:List Tok)(u:Nat)(d:dU):DD where
 pub:=d.pub
 params:=oG ah (d.EL u+3) d.lg
 res:=d.ty.ff ah (d.at2 u) (aN ah (d.EL u+1)) (dS ah (d.EL u+1))
 body:=d.body.pe ah (d.at3 u)
def lZ (ah:List Tok)(u:Nat):List dU→List DD
 | []=>[]
 | d :: l=>d.dd ah u :: lZ ah (u+d.pt.lv) l
def pU (ah:List Tok)(u:Nat):Nat→List (List UInt8 × Nat)
 | 0=>[]
 | n+1=>(aN ah (u+1),dS ah (u+1)) :: pU ah (u+3) n
def kW.pp (ah:List Tok)(p:kW):PP:=⟨pU ah 0 p.imps,lZ ah (3 * p.imps) p.defs⟩
def yL:List PE→List UInt8
 | []=>[]
 | e :: l=>e.dump++yL l
def Dn:List PE→List UInt8
 | []=>[]
 | e :: l=>e.rQ++Dn l
def FF.I7 (f:FF):List UInt8:=[58]++gN f.base++yL f.aC
def FF.Kk (f:FF):List UInt8:=[58]++gN f.base++Dn f.aC
def qK:List FF→List UInt8
 | []=>[]
 | f :: l=>[32]++f.name++f.I7++qK l
def wX:List FF→List UInt8
 | []=>[]
 | f :: l=>[32]++f.name++f.Kk++wX l
def DD.dump (d:DD):List UInt8:=(if d.pub=true then [112,117,98,32] else [])++d.res.name++qK d.params++([32]++d.res.I7++[32,61,32]++d.body.dump++[10])
def DD.rQ (d:DD):List UInt8:=(if d.pub=true then [112,117,98,32] else [])++d.res.name++wX d.params++([32]++d.res.Kk++[32,61,32]++d.body.rQ++[10])
def qL:List DD→List UInt8
 | []=>[]
 | d :: l=>d.dump++qL l
def wY:List DD→List UInt8
 | []=>[]
 | d :: l=>d.rQ++wY l
def tH:List (List UInt8 × Nat)→List UInt8
 | []=>[]
 | m :: l=>[105,109,112,111,114,116,32]++m.1++[10]++tH l
def PP.dump (p:PP):List UInt8:=tH p.aG++qL p.defs
def PP.rQ (p:PP):List UInt8:=tH p.aG++wY p.defs
def FF.erase (f:FF):FF:={ f with aC:=[] }
def DD.erase (d:DD):DD:={ d with params:=d.params.map FF.erase,res:=d.res.erase }
def PP.erase (p:PP):PP:={ p with defs:=p.defs.map DD.erase }
def FF.NH (f:FF):List Int:=if 0≤f.bare then [f.bare] else []
def DD.NH (d:DD):List Int:=d.params.flatMap FF.NH++d.res.NH
def PP.NH (p:PP):List Int:=p.defs.flatMap DD.NH
def FF.all (P:PE→Prop)(f:FF):Prop:=∀ e∈f.aC,P e
def DD.all (P:PE→Prop)(d:DD):Prop:=(∀ f∈d.params,f.all P)∧d.res.all P∧P d.body
def PP.all (P:PE→Prop)(p:PP):Prop:=∀ d∈p.defs,d.all P
theorem Cn:∀ {l:List PE},(∀ e∈l,e.told)→Dn l=yL l
 | [],_=>rfl
 | e :: l,h=>by
  rw[Dn,yL,PE.jU (h e vB),Cn fun x hx=>h x (wM _ hx)]
theorem FF.jU {f:FF}(h:f.all PE.told):f.Kk=f.I7:=by rw[FF.Kk,FF.I7,Cn h]
theorem xM:∀ {l:List FF},(∀ f∈l,f.all PE.told)→wX l=qK l
 | [],_=>rfl
 | f :: l,h=>by
  rw[wX,qK,FF.jU (h f vB),xM fun x hx=>h x (wM _ hx)]
theorem DD.jU {d:DD}(h:d.all PE.told):d.rQ=d.dump:=by
 rw[DD.rQ,DD.dump,xM h.1,FF.jU h.2.1,PE.jU h.2.2]
theorem xO:∀ {l:List DD},(∀ d∈l,d.all PE.told)→wY l=qL l
 | [],_=>rfl
 | d :: l,h=>by
  rw[wY,qL,DD.jU (h d vB),xO fun x hx=>h x (wM _ hx)]
theorem PP.jU {p:PP}(h:p.all PE.told):p.rQ=p.dump:=by rw[PP.rQ,PP.dump,xO h]
theorem FF.tJ {P:PE→Prop}(f:FF):f.erase.all P:=fun e he=>by cases he
theorem DD.tJ {P:PE→Prop}{d:DD}(h:P d.body):d.erase.all P:=by
 refine⟨fun f hf=>?_,FF.tJ _,h⟩;obtain⟨g,_,rfl⟩:=List.mem_map.1 hf;exact FF.tJ g
theorem PP.tJ {P:PE→Prop}{p:PP}(h:p.all P):p.erase.all P:=fun d hd=>by
 obtain⟨c,hc,rfl⟩:=List.mem_map.1 hd;exact DD.tJ (h c hc).2.2
theorem Ym:∀ l:List PT,eP l≤eP (kJ l)
 | []=>by rw[kJ];exact bD _
 | [t]=>by rw[wW];exact bD _
 | t :: s :: l=>by
  have:=Ym (s :: l)
  have h2:eP (t :: .leaf :: kJ (s :: l))=t.nd+(1+eP (kJ (s :: l))):=by rw[eP,eP,PT.nd]
  rw[tu,h2,eP];omega
theorem dU.Yn (d:dU):eP (d.lg.map gB.par)≤d.pt.nd∧eP d.ty.pts≤d.pt.nd∧d.body.pt.nd≤d.pt.nd:=by
 have:=Ym (d.lg.map gB.par);rw[dU.pt,PT.nd,dU.aA];simp only[oh,eP];omega
theorem kW.abB (p:kW):eP (p.defs.map dU.pt)≤p.pt.nd:=by
 rw[kW.pt,PT.nd,kW.aA];simp only[oh,eP];omega
def PeN (ah:List Tok)(N:Nat)(P:PE→Prop):Prop:=∀ (cl:Bool) (e:CE) (u:Nat),e.ok ah cl u→e.pt.nd≤N→P (e.pe ah u)
theorem gB.Yo {ah:List Tok}{N:Nat}{P:PE→Prop}(h:PeN ah N P){t:gB}{u:Nat}{name:List UInt8}{a:Nat}(ho:t.ok ah u)(hn:eP t.pts≤N):(t.ff ah u name a).all P:=by
 intro x hx;obtain⟨_,ho⟩:=ho;unfold gB.ff at hx;unfold gB.pts at hn
 cases hc:t.cl with
 | none=>rw[hc] at hx;cases hx
 | some e =>
  rw[hc] at hx ho hn;simp only[List.mem_singleton] at hx;subst hx;simp only[eP,PT.nd,jN,qc] at hn;exact h true e _ ho (by omega)
theorem gB.adb (t:gB):eP t.pts≤t.par.nd:=by
 have:t.par.nd=eP (.leaf :: t.pts)+1:=by rw[gB.par,PT.nd]
 rw[eP] at this;omega
theorem NI {ah:List Tok}{N:Nat}{P:PE→Prop}(h:PeN ah N P):∀ (l:List gB) (u:Nat),yK ah u l→eP (l.map gB.par)≤N→∀ f∈oG ah u l,f.all P
 | [],_,_,_,f,hf=>by cases hf
 | t :: l,u,ho,hn,f,hf=>by
  have:=t.adb;rw[List.map_cons,eP] at hn;rw[oG,List.mem_cons] at hf
  rcases hf with rfl|hf
  ·exact gB.Yo h ho.1.2 (by omega)
  ·exact NI h l _ ho.2 (by omega) f hf
theorem dU.ade {ah:List Tok}{N:Nat}{P:PE→Prop}(h:PeN ah N P){d:dU}{u:Nat}(ho:d.ok ah u)(hn:d.pt.nd≤N):(d.dd ah u).all P:=by
 obtain⟨_,_,_,_,h5,h6,h7⟩:=ho;obtain⟨n1,n2,n3⟩:=d.Yn;exact⟨NI h _ _ h5 (by omega),gB.Yo h h6 (by omega),h _ _ _ h7 (by omega)⟩
theorem NJ {ah:List Tok}{N:Nat}{P:PE→Prop}(h:PeN ah N P):∀ (l:List dU) (u:Nat),Bd ah u l→eP (l.map dU.pt)≤N→∀ d∈lZ ah u l,d.all P
 | [],_,_,_,d,hd=>by cases hd
 | x :: l,u,ho,hn,d,hd=>by
  rw[List.map_cons,eP] at hn;rw[lZ,List.mem_cons] at hd
  rcases hd with rfl|hd
  ·exact dU.ade h ho.1 (by omega)
  ·exact NJ h l _ ho.2 (by omega) d hd
theorem kW.Bf {ah:List Tok}{P:PE→Prop}{p:kW}(h:PeN ah p.pt.nd P)(ho:p.ok ah):(p.pp ah).all P:=NJ h _ _ ho.2.2.2 p.abB
theorem ER (ah:List Tok):∀ (l:List gB) (u:Nat),(oG ah u l).length=l.length
 | [],_=>rfl
 | t :: l,u=>by rw[oG,dR,dR,ER ah l]
theorem yM (ah:List Tok):∀ (l:List dU) (u:Nat),(lZ ah u l).length=l.length
 | [],_=>rfl
 | t :: l,u=>by rw[lZ,dR,dR,yM ah l]
theorem yN (ah:List Tok):∀ (n u:Nat),(pU ah u n).length=n
 | 0,_=>rfl
 | n+1,u=>by rw[pU,dR,yN ah n]
structure FF.small (M:Nat) (f:FF):Prop where
 name:f.name.length≤M
 base:f.base=1∨f.base=2
 aC:f.aC.length≤1
structure DD.small (M:Nat) (d:DD):Prop where
 params:∀ f∈d.params,f.small M
 few:d.params.length≤8
 res:d.res.small M
structure PP.small (M:Nat) (p:PP):Prop where
 aG:∀ m∈p.aG,m.1.length≤M
 QV:p.aG.length≤16
 defs:∀ d∈p.defs,d.small M
 Kl:p.defs.length≤64
theorem FF.small.erase {M:Nat}{f:FF}(h:f.small M):f.erase.small M:=⟨h.name,h.base,lI _⟩
theorem DD.small.erase {M:Nat}{d:DD}(h:d.small M):d.erase.small M:=by
 refine⟨fun f hf=>?_,by simpa [DD.erase] using h.few,h.res.erase⟩;obtain⟨g,hg,rfl⟩:=List.mem_map.1 hf;exact(h.params g hg).erase
theorem PP.small.erase {M:Nat}{p:PP}(h:p.small M):p.erase.small M:=by
 refine⟨h.aG,h.QV,fun d hd=>?_,by simpa [PP.erase] using h.Kl⟩;obtain⟨c,hc,rfl⟩:=List.mem_map.1 hd;exact(h.defs c hc).erase
theorem gB.NK {ah:List Tok}{M:Nat}(hM:∀ u,(aN ah u).length≤M)(t:gB)(u v a:Nat):(t.ff ah u (aN ah v) a).small M:=by
 refine⟨hM v,?_,?_⟩
 ·show (if _ then _ else _)=1∨_
  split
  ·right;show (if _ then _ else _)=2;rw[if_pos (by assumption)]
  ·left;rfl
 ·unfold gB.ff
  cases t.cl<;>simp
theorem ES {ah:List Tok}{M:Nat}(hM:∀ u,(aN ah u).length≤M):∀ (l:List gB) (u:Nat),∀ f∈oG ah u l,f.small M
 | [],_,f,hf=>by cases hf
 | t :: l,u,f,hf=>by
  rw[oG,List.mem_cons] at hf
  rcases hf with rfl|hf
  ·exact gB.NK hM _ _ _ _
  ·exact ES hM l _ f hf
theorem dU.Yp {ah:List Tok}{M:Nat}(hM:∀ u,(aN ah u).length≤M){d:dU}{u:Nat}(ho:d.ok ah u):(d.dd ah u).small M :=
 ⟨ES hM _ _,by show (oG _ _ _).length≤8;rw[ER];exact ho.2.2.2.1,gB.NK hM _ _ _ _⟩
theorem ET {ah:List Tok}{M:Nat}(hM:∀ u,(aN ah u).length≤M):∀ (l:List dU) (u:Nat),Bd ah u l→∀ d∈lZ ah u l,d.small M
 | [],_,_,d,hd=>by cases hd
 | x :: l,u,ho,d,hd=>by
  rw[lZ,List.mem_cons] at hd
  rcases hd with rfl|hd
  ·exact dU.Yp hM ho.1
  ·exact ET hM l _ ho.2 d hd
theorem EU {ah:List Tok}{M:Nat}(hM:∀ u,(aN ah u).length≤M):∀ (n u:Nat),∀ m∈pU ah u n,m.1.length≤M
 | 0,_,m,hm=>by cases hm
 | n+1,u,m,hm=>by
  rw[pU,List.mem_cons] at hm
  rcases hm with rfl|hm
  ·exact hM _
  ·exact EU hM n _ m hm
theorem kW.NP {ah:List Tok}{M:Nat}{p:kW}(hM:∀ u,(aN ah u).length≤M)(ho:p.ok ah):(p.pp ah).small M :=
 ⟨EU hM _ _,by show (pU _ _ _).length≤16;rw[yN];exact ho.1,ET hM _ _ ho.2.2.2,by show (lZ _ _ _).length≤64;rw[yM];exact ho.2.1⟩
theorem EW {K:Nat}:∀ {l:List PE},(∀ e∈l,e.dump.length≤K)→(yL l).length≤l.length * K
 | [],_=>by simp[yL]
 | e :: l,h=>by
  have h1:=h e vB
  have h2:=EW (l:=l) fun x hx=>h x (wM _ hx)
  rw[yL,bN,dR,Nat.succ_mul];omega
def EY (K:Nat)(e:PE):Prop:=e.dump.length≤K
theorem FF.tF {M K:Nat}{f:FF}(h:f.small M)(hk:f.all (EY K)):f.I7.length≤K+3:=by
 have h1:=EW (K:=K) hk;have h2:f.aC.length * K≤1 * K:=Nat.mul_le_mul_right _ h.aC;have h3:=Kj (n:=f.base) (by rcases h.base with q|q<;>omega);rw[FF.I7];simp only[bN,dR,gX];omega
theorem zS {M K:Nat}:∀ {l:List FF},(∀ f∈l,f.small M)→(∀ f∈l,f.all (EY K))→(qK l).length≤l.length * (M+K+4)
 | [],_,_=>by simp[qK]
 | f :: l,h,hk=>by
  have h0:=h f vB;have h1:=FF.tF h0 (hk f vB);have h2:=zS (l:=l) (fun x hx=>h x (wM _ hx)) (fun x hx=>hk x (wM _ hx));have h3:=h0.name;rw[qK,dR,Nat.succ_mul];simp only[bN,dR,gX];omega
theorem DD.zT {M K:Nat}{d:DD}(h:d.small M)(hk:d.all (EY K)):d.dump.length≤10 * (M+K+4)+20:=by
 have h1:=zS h.params hk.1;have h2:d.params.length * (M+K+4)≤8 * (M+K+4):=Nat.mul_le_mul_right _ h.few;have h3:=FF.tF h.res hk.2.1;have h4:d.body.dump.length≤K:=hk.2.2;have h5:=h.res.name;rw[DD.dump];simp only[bN,dR,gX]
 split<;>simp only[dR,gX]<;>omega
theorem zU {M K:Nat}:∀ {l:List DD},(∀ d∈l,d.small M)→(∀ d∈l,d.all (EY K))→(qL l).length≤l.length * (10 * (M+K+4)+20)
 | [],_,_=>by simp[qL]
 | d :: l,h,hk=>by
  have h1:=DD.zT (h d vB) (hk d vB);have h2:=zU (l:=l) (fun x hx=>h x (wM _ hx)) (fun x hx=>hk x (wM _ hx));rw[qL,bN,dR,Nat.succ_mul];omega
theorem zV {M:Nat}:∀ {l:List (List UInt8 × Nat)},(∀ m∈l,m.1.length≤M)→(tH l).length≤l.length * (M+8)
 | [],_=>by simp[tH]
 | m :: l,h=>by
  have h1:=h m vB
  have h2:=zV (l:=l) fun x hx=>h x (wM _ hx)
  rw[tH,dR,Nat.succ_mul];simp only[bN,dR,gX];omega
theorem PP.zT {M K:Nat}{p:PP}(h:p.small M)(hk:p.all (EY K)):p.dump.length≤16 * (M+8)+64 * (10 * (M+K+4)+20):=by
 have h1:=zV h.aG;have h2:p.aG.length * (M+8)≤16 * (M+8):=Nat.mul_le_mul_right _ h.QV;have h3:=zU h.defs hk;have h4:p.defs.length * (10 * (M+K+4)+20)≤64 * (10 * (M+K+4)+20):=Nat.mul_le_mul_right _ h.Kl;rw[PP.dump,bN];omega
end Go.Proofs.YtmhdgeekclhbbaaGreatDoor

namespace Go.Proofs.YtmhdgeekclhbbaaGreatDoor
open Go.RowKit
structure RK (α β:Type) where
 sz:Nat
 cells:α→β→List Value
 inn:(Nat→Prop)→World→α→β→Prop
 len:∀ a b,(cells a b).length=sz
 frame:∀ {P:Nat→Prop} {w w':World} {a:α} {b:β},inn P w a b→aW P w w'→inn P w' a b
 imp:∀ {P Q:Nat→Prop} {w:World} {a:α} {b:β},inn P w a b→(∀ k,P k→k<w.heap.size→Q k)→inn Q w a b
section
variable {α β:Type}
def RK.flat (K:RK α β)(l:List (α × β)):List Value:=l.flatMap fun p=>K.cells p.1 p.2
theorem RK.NQ (K:RK α β):∀ l:List (α × β),(K.flat l).length=l.length * K.sz
 | []=>by simp[RK.flat]
 | p :: l=>by
  have:=RK.NQ K l;unfold RK.flat at this ⊢;rw[List.flatMap_cons,bN,K.len,this,dR,Nat.succ_mul,Nat.add_comm]
theorem RK.I8 (K:RK α β)(l:List (α × β))(p:α × β):K.flat (l++[p])=K.flat l++K.cells p.1 p.2:=by
 unfold RK.flat;rw[List.flatMap_append,List.flatMap_singleton]
theorem RK.yX (K:RK α β):∀ (l:List (α × β)) (i j:Nat) (h:i<l.length),j<K.sz→(K.flat l)[i * K.sz+j]?=(K.cells l[i].1 l[i].2)[j]?
 | [],i,j,h,_=>absurd h (by simp)
 | p :: l,0,j,_,hj=>by
  unfold RK.flat;rw[List.flatMap_cons,List.getElem?_append_left (by rw[K.len];omega)]
  simp
 | p :: l,i+1,j,h,hj=>by
  have:=RK.yX K l i j (by simpa using h) hj;unfold RK.flat at this ⊢;rw[List.flatMap_cons,List.getElem?_append_right (by rw[K.len,Nat.succ_mul];omega),K.len,show (i+1) * K.sz+j - K.sz=i * K.sz+j by rw[Nat.succ_mul];omega,this]
  simp
def RowK (K:RK α β)(P:Nat→Prop)(w:World)(v:Value)(zs:List α):Prop :=
 ∃ l:List (α × β),l.map Prod.fst=zs∧nV P w v K.sz zs.length (K.flat l)∧∀ p∈l,K.inn P w p.1 p.2
theorem RowK.frame {K:RK α β}{P:Nat→Prop}{w w':World}{v:Value}{zs:List α}(h:RowK K P w v zs)(ha:aW P w w'):RowK K P w' v zs:=by
 obtain⟨l,h1,h2,h3⟩:=h;exact⟨l,h1,h2.frame ha,fun p hp=>K.frame (h3 p hp) ha⟩
theorem RowK.imp {K:RK α β}{P Q:Nat→Prop}{w:World}{v:Value}{zs:List α}(h:RowK K P w v zs)(hq:∀ b,P b→b<w.heap.size→Q b):RowK K Q w v zs:=by
 obtain⟨l,h1,h2,h3⟩:=h;exact⟨l,h1,h2.imp hq,fun p hp=>K.imp (h3 p hp) hq⟩
theorem RowK.nil (K:RK α β)(P:Nat→Prop)(w:World):RowK K P w (.slice none 0 0) []:=⟨[],rfl,nV.nil P w K.sz,fun p hp=>by cases hp⟩
theorem RowK.slice {K:RK α β}{P:Nat→Prop}{w:World}{v:Value}{zs:List α}(h:RowK K P w v zs):∃ ao cap,v=.slice ao zs.length cap:=by
 obtain⟨l,h1,h2,h3⟩:=h;exact h2.form
theorem RowK.form {K:RK α β}{P:Nat→Prop}{w:World}{v:Value}{zs:List α}(h:RowK K P w v zs):∃ ao cap,v=.slice ao zs.length cap∧zs.length≤cap ∧
  (0<zs.length→∃ b off,ao=some ⟨b,off,none⟩∧P b∧b<w.heap.size∧∀ i,(hi:i<zs.length)→∃ x,K.inn P w zs[i] x∧∀ j u,(K.cells zs[i] x)[j]?=some u→w.cell? ⟨b,off+i * K.sz+j,none⟩=some u):=by
 obtain⟨l,rfl,⟨ao,cap,hv,hn,hl,hc⟩,h3⟩:=h;refine⟨ao,cap,hv,hn,fun h0=>?_⟩;obtain⟨b,off,ha,hP,hlt,hcell⟩:=hc h0;refine⟨b,off,ha,hP,hlt,fun i hi=>?_⟩;rw[List.length_map] at hi;rw[List.getElem_map];refine⟨_,h3 _ (mX hi),fun j u hu=>?_⟩
 have hj:j<K.sz:=by
  rcases Nat.lt_or_ge j K.sz with h'|h'
  ·exact h'
  ·rw[List.getElem?_eq_none (by rw[K.len];exact h')] at hu;cases hu
 have hu':=(K.yX l i j hi hj).trans hu;obtain⟨h',e⟩:=pJ hu';have:=hcell (i * K.sz+j) h';rw[e] at this;rw[Nat.add_assoc];exact this
def gF (K:RK α β)(C e:Nat)(w:World)(v:Value)(zs:List α):Prop :=
 ∃ l:List (α × β),l.map Prod.fst=zs∧w.ownsRow C e K.sz v zs.length (K.flat l)∧∀ p∈l,K.inn (fun b=>C≤b∧some b≠v.ownBlock) w p.1 p.2
theorem gF.nil (K:RK α β)(C e:Nat)(w:World):gF K C e w (.slice none 0 0) []:=⟨[],rfl,World.ownsRow_nil _ _ _ _,fun p hp=>by cases hp⟩
theorem gF.below {K:RK α β}{C e:Nat}{w w':World}{v:Value}{zs:List α}(h:gF K C e w v zs)(hb:Below w.heap.size w w'):gF K C e w' v zs:=by
 obtain⟨l,h1,h2,h3⟩:=h;exact⟨l,h1,own_below h2 hb,fun p hp=>K.frame (h3 p hp) (aW.of hb)⟩
theorem gF.set {K:RK α β}{C e:Nat}{w:World}{v:Value}{zs:List α}(h:gF K C e w v zs){a:Addr}(ha:a.block<C)(u:Value):gF K C e (w.setCell a u) v zs:=by
 obtain⟨l,h1,h2,h3⟩:=h;refine⟨l,h1,iP h2 (fun q=>?_) u,fun p hp=>K.frame (h3 p hp) (aW.set u fun b hb=>by have:=hb.1;omega)⟩;have:=(h2.lt a.block q.symm).1;omega
theorem gF.drew {K:RK α β}{C e:Nat}{w:World}{v:Value}{zs:List α}(h:gF K C e w v zs):gF K C e w.drew v zs:=h.below ((bI _ _).drew)
theorem gF.row {K:RK α β}{C e:Nat}{w:World}{v:Value}{zs:List α}(h:gF K C e w v zs):RowK K (fun b=>C≤b) w v zs:=by
 obtain⟨l,h1,h2,h3⟩:=h;exact⟨l,h1,nV.fZ h2 fun b hb=>hb,fun p hp=>K.imp (h3 p hp) fun b hb _=>hb.1⟩
theorem gF.slice {K:RK α β}{C e:Nat}{w:World}{v:Value}{zs:List α}(h:gF K C e w v zs):∃ ao cap,v=.slice ao zs.length cap:=h.row.slice
theorem gF.snoc {K:RK α β}{C e:Nat}{w w':World}{kv kv':Value}{zs:List α}{a:α}{x:β}{g H:Nat}{l:List (α × β)}(h1:l.map Prod.fst=zs)(h2:∀ p∈l,K.inn (fun b=>C≤b∧some b≠kv.ownBlock) w p.1 p.2)(hx:K.inn (fun b=>C≤b∧some b≠kv.ownBlock) w a x)
  (hown:w'.ownsRow C e K.sz kv' (zs.length+1) (K.flat l++K.cells a x)) (hgrow:w.grownBy w' kv.ownBlock) (hv:kv'.ownBlock=some g) (hor:kv.ownBlock=some g∨g=H) (hH:w.heap.size≤H):gF K C e w' kv' (zs++[a]):=by
 have himp:∀ b,(C≤b∧some b≠kv.ownBlock)→b<w.heap.size→((C≤b∧some b≠kv'.ownBlock)∧some b≠kv.ownBlock):=fun b hb hlt=>by
  refine⟨⟨hb.1,fun q=>?_⟩,hb.2⟩;rw[hv] at q;simp only[Option.some.injEq] at q
  rcases hor with h|h
  ·exact hb.2 (by rw[h,q])
  ·omega
 have hall:∀ {a:α} {x:β},K.inn (fun b=>C≤b∧some b≠kv.ownBlock) w a x→K.inn (fun b=>C≤b∧some b≠kv'.ownBlock) w' a x:=fun h =>
  K.imp (K.frame (K.imp h himp) (aW.grown hgrow fun b hb=>hb.2)) fun b hb _=>hb.1
 refine⟨l++[(a,x)],by rw[List.map_append,h1];rfl,?_,fun p hp=>?_⟩
 ·rw[K.I8,bN,List.length_singleton];exact hown
 ·rcases List.mem_append.1 hp with hp|hp
  ·exact hall (h2 p hp)
  ·rw[List.mem_singleton] at hp
   subst hp;exact hall hx
end
def EK (S:Shape):RK PE (Value × Value) where
 sz:=S.sz
 cells e p:=S.cells e p.1 p.2
 inn P w e p:=oZ S P w p.1 p.2 e
 len e p:=S.len e p.1 p.2
 frame h ha:=h.frame ha
 imp h hq:=h.imp hq
def FK (S:Shape):RK FF Value where
 sz:=5
 cells f cv:=[dJ f.name,.int .i64 f.base,cv,.int .i64 f.at_,.int .i64 f.bare]
 inn P w f cv:=RowK (EK S) P w cv f.aC
 len _ _:=rfl
 frame h ha:=h.frame ha
 imp h hq:=h.imp hq
structure DV where
 pv:Value
 cv:Value
 m:Value
 k:Value
def DA:RK DD DV where
 sz:=15
 cells d x:=[.bool d.pub,dJ d.res.name,x.pv,.int .i64 d.res.base,x.cv,.int .i64 d.body.op,dJ d.body.name,dJ d.body.module,.bool (decide (d.body.num<0)),x.m,.bool d.body.yes,x.k,.int .i64 d.body.at_,.int .i64 d.res.at_,.int .i64 d.res.bare]
 inn P w d x:=RowK (FK XA) P w x.pv d.params∧RowK (EK XA) P w x.cv d.res.aC∧oZ XA P w x.m x.k d.body
 len _ _:=rfl
 frame h ha:=⟨h.1.frame ha,h.2.1.frame ha,h.2.2.frame ha⟩
 imp h hq:=⟨h.1.imp hq,h.2.1.imp hq,h.2.2.imp hq⟩
def DR:RK DD DV where
 sz:=14
 cells d x:=[.bool d.pub,x.pv,dJ d.res.name,.int .i64 d.res.base,x.cv,.int .i64 d.res.at_,.int .i64 d.res.bare,.int .i64 d.body.op,dJ d.body.name,dJ d.body.module,dJ d.body.txt,.bool d.body.yes,x.k,.int .i64 d.body.at_]
 inn P w d x:=RowK (FK XR) P w x.pv d.params∧RowK (EK XR) P w x.cv d.res.aC∧oZ XR P w x.m x.k d.body
 len _ _:=rfl
 frame h ha:=⟨h.1.frame ha,h.2.1.frame ha,h.2.2.frame ha⟩
 imp h hq:=⟨h.1.imp hq,h.2.1.imp hq,h.2.2.imp hq⟩
def IA:RK (List UInt8 × Nat) Unit where
 sz:=2
 cells m _:=[dJ m.1,.int .i64 m.2]
 inn _ _ _ _:=True
 len _ _:=rfl
 frame _ _:=trivial
 imp _ _:=trivial
def IR:RK (List UInt8 × Nat) Unit where
 sz:=1
 cells m _:=[dJ m.1]
 inn _ _ _ _:=True
 len _ _:=rfl
 frame _ _:=trivial
 imp _ _:=trivial
def Km (P:Nat→Prop)(w:World)(iv dv:Value)(p:PP):Prop:=RowK IA P w iv p.aG∧RowK DA P w dv p.defs
def Vg (P:Nat→Prop)(w:World)(iv dv:Value)(p:PP):Prop:=RowK IR P w iv p.aG∧RowK DR P w dv p.defs
theorem Km.frame {P:Nat→Prop}{w w':World}{iv dv:Value}{p:PP}(h:Km P w iv dv p)(ha:aW P w w'):Km P w' iv dv p:=⟨h.1.frame ha,h.2.frame ha⟩
theorem Km.imp {P Q:Nat→Prop}{w:World}{iv dv:Value}{p:PP}(h:Km P w iv dv p)(hq:∀ b,P b→b<w.heap.size→Q b):Km Q w iv dv p:=⟨h.1.imp hq,h.2.imp hq⟩
theorem Vg.frame {P:Nat→Prop}{w w':World}{iv dv:Value}{p:PP}(h:Vg P w iv dv p)(ha:aW P w w'):Vg P w' iv dv p:=⟨h.1.frame ha,h.2.frame ha⟩
theorem Vg.imp {P Q:Nat→Prop}{w:World}{iv dv:Value}{p:PP}(h:Vg P w iv dv p)(hq:∀ b,P b→b<w.heap.size→Q b):Vg Q w iv dv p:=⟨h.1.imp hq,h.2.imp hq⟩
end Go.Proofs.YtmhdgeekclhbbaaGreatDoor

namespace Go.Proofs.YtmhdgeekclhbbaaGreatDoor
open Go.RowKit Go
structure l6 where
 sz:Nat
 cells:PZ→Value→Value→List Value
 agg:PZ→Value→Value→Value
 num:(Nat→Prop)→World→Int→Value→Prop
 len:∀ e m k,(cells e m k).length=sz
 frame:∀ {P:Nat→Prop} {w w':World} {n:Int} {m:Value},num P w n m→aW P w w'→num P w' n m
 imp:∀ {P Q:Nat→Prop} {w:World} {n:Int} {m:Value},num P w n m→(∀ b,P b→b<w.heap.size→Q b)→num Q w n m
def xP (S:l6):List PZ→List (Value × Value)→List Value
 | e :: es,p :: l=>S.cells e p.1 p.2++xP S es l
 | _,_=>[]
mutual
def nL (S:l6)(P:Nat→Prop)(w:World)(mag kv:Value):PZ→Prop
 | .mk _op _name aa1 num afR aA _at_=>S.num P w num mag∧∃ l:List (Value × Value),nV P w kv S.sz aA.length (xP S aA l)∧jg S P w l aA
def jg (S:l6)(P:Nat→Prop)(w:World)(l:List (Value × Value)):List PZ→Prop
 | []=>l=[]
 | e :: es=>∃ p l',l=p :: l'∧nL S P w p.1 p.2 e∧jg S P w l' es
end
mutual
theorem nL.frame {S:l6}{P:Nat→Prop}{w w':World}(ha:aW P w w'):∀ {e:PZ} {m k:Value},nL S P w m k e→nL S P w' m k e
 | .mk op name module num yes aA at_,m,k,h=>by
  rw[nL] at h ⊢;obtain⟨h1,l,h2,h3⟩:=h;exact⟨S.frame h1 ha,l,h2.frame ha,jg.frame ha h3⟩
theorem jg.frame {S:l6}{P:Nat→Prop}{w w':World}(ha:aW P w w'):∀ {es:List PZ} {l:List (Value × Value)},jg S P w l es→jg S P w' l es
 | [],l,h=>by rw[jg] at h ⊢;exact h
 | e :: es,l,h=>by
  rw[jg] at h ⊢;obtain⟨p,l',h1,h2,h3⟩:=h;exact⟨p,l',h1,nL.frame ha h2,jg.frame ha h3⟩
end
mutual
theorem nL.imp {S:l6}{P Q:Nat→Prop}{w:World}(hq:∀ b,P b→b<w.heap.size→Q b):∀ {e:PZ} {m k:Value},nL S P w m k e→nL S Q w m k e
 | .mk op name module num yes aA at_,m,k,h=>by
  rw[nL] at h ⊢;obtain⟨h1,l,h2,h3⟩:=h;exact⟨S.imp h1 hq,l,h2.imp hq,jg.imp hq h3⟩
theorem jg.imp {S:l6}{P Q:Nat→Prop}{w:World}(hq:∀ b,P b→b<w.heap.size→Q b):∀ {es:List PZ} {l:List (Value × Value)},jg S P w l es→jg S Q w l es
 | [],l,h=>by rw[jg] at h ⊢;exact h
 | e :: es,l,h=>by
  rw[jg] at h ⊢;obtain⟨p,l',h1,h2,h3⟩:=h;exact⟨p,l',h1,nL.imp hq h2,jg.imp hq h3⟩
end
theorem jg.len {S:l6}{P:Nat→Prop}{w:World}:∀ {es:List PZ} {l:List (Value × Value)},jg S P w l es→l.length=es.length
 | [],l,h=>by rw[jg] at h;subst h;rfl
 | e :: es,l,h=>by
  rw[jg] at h;obtain⟨p,l',rfl,_,h3⟩:=h;simp[jg.len h3]
theorem jg.snoc {S:l6}{P:Nat→Prop}{w:World}:∀ {es:List PZ} {l:List (Value × Value)} {e:PZ} {m k:Value},jg S P w l es→nL S P w m k e→jg S P w (l++[(m,k)]) (es++[e])
 | [],l,e,m,k,h,h2=>by
  rw[jg] at h;subst h;rw[qc,qc,jg];exact⟨(m,k),[],rfl,h2,by rw[jg]⟩
 | x :: es,l,e,m,k,h,h2=>by
  rw[jg] at h;obtain⟨p,l',rfl,h3,h4⟩:=h;rw[jN,jN,jg];exact⟨p,_,rfl,h3,h4.snoc h2⟩
theorem NR (S:l6):∀ (es:List PZ) (l:List (Value × Value)) (i j:Nat) (hl:l.length=es.length) (hi:i<es.length),j<S.sz→(xP S es l)[i * S.sz+j]?=(S.cells es[i] (l[i]'(by omega)).1 (l[i]'(by omega)).2)[j]?
 | [],[],i,j,_,h,_=>absurd h (by simp)
 | x :: es,p :: l,0,j,_,_,hj=>by
  simp only[xP,Nat.zero_mul,Nat.zero_add,List.getElem_cons_zero];rw[List.getElem?_append_left (by rw[S.len];exact hj)]
 | x :: es,p :: l,i+1,j,hl,hi,hj=>by
  simp only[xP,List.getElem_cons_succ];rw[List.getElem?_append_right (by rw[S.len,Nat.succ_mul];omega),S.len,show (i+1) * S.sz+j - S.sz=i * S.sz+j by rw[Nat.succ_mul];omega];exact NR S es l i j (by simpa using hl) (by simpa using hi) hj
 | [],_ :: _,_,_,h,_,_=>by simp at h
 | _ :: _,[],_,_,h,_,_=>by simp at h
theorem jg.get {S:l6}{P:Nat→Prop}{w:World}:∀ {es:List PZ} {l:List (Value × Value)} (h:jg S P w l es) (i:Nat) (hi:i<es.length),nL S P w (l[i]'(by rw[h.len];exact hi)).1 (l[i]'(by rw[h.len];exact hi)).2 es[i]
 | [],l,h,i,hi=>absurd hi (by simp)
 | e :: es,l,h,i,hi=>by
  have h':=h;rw[jg] at h';obtain⟨p,l',rfl,h3,h4⟩:=h'
  cases i with
  | zero=>exact h3
  | succ i=>exact h4.get i (by simpa using hi)
theorem nL.form {S:l6}{P:Nat→Prop}{w:World}{e:PZ}{mag kv:Value}(h:nL S P w mag kv e):S.num P w e.num mag∧∃ ao cap,kv=.slice ao e.aA.length cap∧e.aA.length≤cap ∧
  (0<e.aA.length→∃ b off,ao=some ⟨b,off,none⟩∧P b∧b<w.heap.size∧∀ i,(hi:i<e.aA.length)→∃ m k,nL S P w m k e.aA[i]∧∀ j u,(S.cells e.aA[i] m k)[j]?=some u→w.cell? ⟨b,off+i * S.sz+j,none⟩=some u):=by
 cases e with
 | mk op name module num yes aA at_ =>
  rw[nL] at h;obtain⟨h1,l,⟨ao,cap,hv,hn,hl,hc⟩,h3⟩:=h;refine⟨h1,ao,cap,hv,hn,fun h0=>?_⟩;obtain⟨b,off,ha,hP,hlt,hcell⟩:=hc h0;refine⟨b,off,ha,hP,hlt,fun i hi=>?_⟩;have hll:=h3.len;refine⟨_,_,h3.get i hi,fun j u hu=>?_⟩
  have hj:j<S.sz:=by
   rcases Nat.lt_or_ge j S.sz with h'|h'
   ·exact h'
   ·rw[List.getElem?_eq_none (by rw[S.len];exact h')] at hu;cases hu
  have hr:=NR S aA l i j hll hi hj;have hu':=hr.trans hu;obtain⟨h',e⟩:=pJ hu';have:=hcell (i * S.sz+j) h';rw[e] at this;rw[Nat.add_assoc];exact this
def YA:l6 where
 sz:=8
 cells e m k:=[.int .i64 e.op,dJ e.name,dJ e.module,.bool (decide (e.num<0)),m,.bool e.yes,k,.int .i64 e.at_]
 agg e m k:=.agg #[.int .i64 e.op,dJ e.name,dJ e.module,.bool (decide (e.num<0)),m,.bool e.yes,k,.int .i64 e.at_]
 num:=nD
 len _ _ _:=rfl
 frame h ha:=by obtain⟨ws,h1,h2⟩:=h;exact⟨ws,h1.frame ha,h2⟩
 imp h hq:=by obtain⟨ws,h1,h2⟩:=h;exact⟨ws,h1.imp hq,h2⟩
def ZK (S:l6):RK PZ (Value × Value) where
 sz:=S.sz
 cells e p:=S.cells e p.1 p.2
 inn P w e p:=nL S P w p.1 p.2 e
 len e p:=S.len e p.1 p.2
 frame h ha:=h.frame ha
 imp h hq:=h.imp hq
theorem NS (e:PE)(m k:Value):YA.cells e.z m k=XA.cells e m k:=by cases e;rfl
theorem NT:∀ (es:List PE) (l:List (Value × Value)),xP YA (SL es) l=qF XA es l
 | [],_=>rfl
 | e :: es,[]=>rfl
 | e :: es,p :: l=>by rw[SL,xP,qF,NS,NT es l]
mutual
theorem nL.ofE {P:Nat→Prop}{w:World}:∀ {e:PE} {m k:Value},oZ XA P w m k e→nL YA P w m k e.z
 | .mk op nm md num txt yes aA at_,m,k,h=>by
  rw[oZ] at h;obtain⟨h1,l,h2,h3⟩:=h;rw[PE.z,nL];refine⟨h1,l,?_,jg.ofE h3⟩;rw[NT,JY,List.length_map];exact h2
theorem jg.ofE {P:Nat→Prop}{w:World}:∀ {es:List PE} {l:List (Value × Value)},iN XA P w l es→jg YA P w l (SL es)
 | [],l,h=>by rw[iN] at h;rw[SL,jg];exact h
 | e :: es,l,h=>by
  rw[iN] at h;obtain⟨p,l',h1,h2,h3⟩:=h;rw[SL,jg];exact⟨p,l',h1,nL.ofE h2,jg.ofE h3⟩
end
theorem Yq (r x:Nat)(hr:r<4294967296)(hx:x<4294967296):bits BinOp.or IntKind.u64 ((r:Int) * 4294967296) (x:Int)=(r:Int) * 4294967296+(x:Int):=by
 have e:((r:Int) * 4294967296)=((r * 4294967296:Nat):Int):=by omega
 have h:(r * 4294967296) ||| x=r * 4294967296+x:=by
  rw[show (4294967296:Nat)=2 ^ 32 from rfl,← Nat.shiftLeft_eq,Nat.shiftLeft_add_eq_or_of_lt (by omega)]
 rw[e,u64_or_nat _ _ (by omega) (by omega),h];omega
theorem Yr {α:Type}(z v:α)(k:Nat)(L:List α):(List.replicate (k+1) z++L).set k v=List.replicate k z++v :: L:=by
 rw[List.replicate_succ',nQ,List.set_append_right _ _ (by simp),List.length_replicate,Nat.sub_self]
 rfl
def I9 (b:Nat)(ws:List Nat)(w:World)(e:Ending)(w':World):Prop :=
 ∃ cap,e=.returned (.tuple #[.slice (some ⟨w.heap.size,0,none⟩) (dx (bH b ws).1).length cap,.int .u64 ((bH b ws).2:Nat)])∧Wd (fun k=>w.heap.size≤k) w' (.slice (some ⟨w.heap.size,0,none⟩) (dx (bH b ws).1).length cap) (dx (bH b ws).1)∧Below w.heap.size w w'
theorem QW (P:Nat→Prop)(ao:Option Addr)(cap:Nat)(ws:List Nat)(b:Nat)(w:World)(h:Wd P w (.slice ao ws.length cap) ws)(hw:∀ x∈ws,x<4294967296)(hb:0<b)(C8:b≤1000000000)(hn:ws.length≤1000) :
  Calls Tryz.prog 112 #[.slice ao ws.length cap,.int .u64 b] w (I9 b ws w):=by
 obtain⟨i0,hi,hz0,hz1,hz2⟩:=info_parts Tryz.SV;obtain⟨ao',jE,hv,hc1,hf⟩:=h.form;simp only[Value.slice.injEq] at hv;obtain⟨rfl,-,rfl⟩:=hv;have HF:=ay hf;have HW:=ay hw;have hmk:=run_make (P:=Tryz.prog) w 60 255 i0 (.int .u32 0) Tryz.underlying60 hi hz0 .i64 .i64 ws.length ws.length (by omega) (by omega) (by rw[hz2];omega) (by omega);rw[hz1] at hmk;clear hf h hw;go_enter Tryz.func112,Tryz.ntmps112;go_wp2;have hnew:=aY w (.cells (madeCells #[Value.int .u32 0] ws.length) 255);have hbw:=aB w (.cells (madeCells #[Value.int .u32 0] ws.length) 255);clear hmk;generalize w.alloc _=w2 at hnew hbw ⊢
 go_loopw [7,8] (fun rv q wr=>∃ (k:Nat) (i:Int) (cs:Array Value),k≤ws.length∧q=.int .i64 i∧i+1=(k:Int)∧rv=.int .u64 ((bH b (ws.drop k)).2:Nat)∧wr.heap[w.heap.size]?=some (.cells cs 255 (0,0))∧cs.toList=List.replicate k (.int .u32 0)++(bH b (ws.drop k)).1.map (fun d=>.int .u32 (d:Nat))∧Below w.heap.size w wr) (fun _ q _=>(intOf q+1).toNat)
 case atStart=>exact⟨ws.length,_,_,bD _,rfl,by omega,by rw[List.drop_length];rfl,hnew,by rw[toList_madeCells_one,List.drop_length];simp[bH],hbw⟩
 case round =>
  obtain⟨k,i,cs,hk,rfl,hik,rfl,hcs,hcl,hbl⟩:=hrel;have hz:=hbl.size
  cases k with
  | zero =>
   obtain rfl:i=-1:=by omega
   rw[List.drop_zero] at hcl ⊢;rw[List.replicate_zero,qc] at hcl;have hsl:=DN b ws
   have hWd:Wd (fun k=>w.heap.size≤k) wr (.slice (some ⟨w.heap.size,0,none⟩) (bH b ws).1.length ws.length) (bH b ws).1:=by
    refine⟨_,_,rfl,by rw[hsl];exact bD _,by simp,fun h0=>⟨w.heap.size,0,rfl,bD _,(bS hcs).1,fun j hj=>?_⟩⟩;rw[aV hcs,Nat.zero_add,← Array.getElem?_toList,hcl,yV hj]
   have hT:=A9 _ (some ⟨w.heap.size,0,none⟩) ws.length (bH b ws).1 wr hWd (by omega);obtain⟨n,n1,n2,_,_⟩:=uy (bH b ws).1
   have hln:(dx (bH b ws).1).length=n:=by rw[n2,qZ];omega
   have hW2:Wd (fun k=>w.heap.size≤k) wr (.slice (some ⟨w.heap.size,0,none⟩) (dx (bH b ws).1).length ws.length) (dx (bH b ws).1):=by
    rw[hln,n2];exact hWd.take n1
   rw[hsl] at hT;have HT:=ay hT;have HW2:=ay hW2;clear hT hW2 hWd hsl hln n1 n2 hcl;go_wp2_with (go_at_call 178;refine HT.out.mono ?_;rintro e w8 ⟨rfl,rfl⟩);go_ret2;exact⟨_,rfl,HW2.out,hbl⟩
  | succ k =>
   obtain rfl:i=(k:Int):=by omega
   obtain⟨bk,off,rfl,_,hbk,hcell⟩:=HF.out (by omega);have hx:=(hbl.cell (p:=⟨bk,off+k,none⟩) hbk).trans (hcell k (by omega));have hxw:=HW.out ws[k] (mX (by omega));have hdr:ws.drop k=ws[k] :: ws.drop (k+1):=List.drop_eq_getElem_cons (by omega);have hr:=rP b hb (ws.drop (k+1))
   have hsh:bH b (ws.drop k)=(((bH b (ws.drop (k+1))).2 * 4294967296+ws[k]) / b :: (bH b (ws.drop (k+1))).1,((bH b (ws.drop (k+1))).2 * 4294967296+ws[k]) % b):=by rw[hdr,bH]
   have HS:=ay hsh;have AU:=ay hcl;generalize (bH b (ws.drop (k+1))).2=r at hr HS ⊢;generalize ws[k]=x at hx hxw HS
   have pR:(k:Int)<(ws.length:Int):=by omega
   clear hcell hdr hsh hcl;have hlt:=(bS hcs).1;have hor:=Yq r x (by omega) hxw
   have hk0:cs.toList[k]?=some (.int .u32 0):=by
    rw[AU.out,List.getElem?_append_left (by simp),List.getElem?_replicate,if_pos (by omega)]
   have o0:wr.cell? ⟨w.heap.size,k,none⟩=some (.int .u32 0):=by rw[aV hcs,← Array.getElem?_toList];exact hk0
   have oz:∀ j,wr.frozen? ⟨w.heap.size,j,none⟩=false:=by intro j;simp[World.frozen?,hcs]
   clear hk0
   have hq:(r * 4294967296+x) / b<4294967296:=by
    rw[Nat.div_lt_iff_lt_mul hb];have:(r+1) * 4294967296≤b * 4294967296:=Nat.mul_le_mul_right _ hr;rw[Nat.mul_comm 4294967296 b];omega
   have e1:((r:Int) * 4294967296+(x:Int)) % (b:Int)=(((r * 4294967296+x) % b:Nat):Int):=by
    rw[Int.natCast_emod]
    congr 1
   have e2:((r:Int) * 4294967296+(x:Int)) / (b:Int) % 4294967296=(((r * 4294967296+x) / b:Nat):Int):=by
    have e3:((r:Int) * 4294967296+(x:Int)) / (b:Int)=(((r * 4294967296+x) / b:Nat):Int):=by
     rw[Int.natCast_ediv]
     congr 1
    rw[e3];generalize (r * 4294967296+x) / b=qq at hq ⊢;omega
   have E1:=ay e1;have E2:=ay e2;clear e1 e2;go_wp2;refine⟨⟨k,(k:Int) - 1,_,by omega,rfl,by omega,by rw[HS.out];exact Dl E1.out,heap_setCell_same wr w.heap.size k _ _ _ hcs,?_,hbl.setCell (bD _) _⟩,by simp[intOf]⟩;rw[Array.toList_setIfInBounds,AU.out,Yr,HS.out,E2.out]
   rfl
def abC (bk:Nat)(l:List UInt8)(rest:List Value)(fr:Nat × Nat)(w:World)(e:Ending)(w':World):Prop :=
 e=.returned (.tuple #[])∧w'.heap[bk]?=some (.cells (Lib.byteCells l.reverse++rest).toArray 5 fr)∧w'.heap.size=w.heap.size∧(∀ q,q≠bk→w'.heap[q]?=w.heap[q]?)∧Below bk w w'
theorem Ja (w:World):w.drew.heap=w.heap:=rfl
theorem QX {α:Type}:∀ (M:List α),2≤M.length→∃ x N y,M=x :: (N++[y])
 | [],h=>absurd h (by simp)
 | [x],h=>absurd h (by simp)
 | x :: y :: l,_=>⟨x,(y :: l).dropLast,(y :: l).getLast (by simp),by rw[List.dropLast_concat_getLast]⟩
theorem Vh {α:Type}(A N C:List α)(x y:α):((A++(x :: (N++y :: C))).set A.length y).set (A.length+N.length+1) x=A++(y :: (N++x :: C)):=by
 rw[List.set_append_right _ _ (bD _),Nat.sub_self,List.set_cons_zero,List.set_append_right _ _ (by omega),show A.length+N.length+1 - A.length=N.length+1 by omega,List.set_cons_succ,List.set_append_right _ _ (bD _),Nat.sub_self,List.set_cons_zero]
theorem Co (w:World)(b i:Nat)(cs:Array Value)(T:TypeId)(fr:Nat × Nat)(v:Value)(hb:w.heap[b]?=some (.cells cs T fr)) :
  (w.setCell ⟨b,i,none⟩ v).heap[b]?=some (.cells (cs.setIfInBounds i v) T fr):=by
 simp[World.setCell,Array.getElem?_modify,hb]
theorem NU (bk cap:Nat)(l:List UInt8)(rest:List Value)(fr:Nat × Nat)(w:World)(h:w.heap[bk]?=some (.cells (Lib.byteCells l++rest).toArray 5 fr))(hf:l.length≤fr.1)(hn:l.length≤1099511627776) :
  Calls Tryz.prog 114 #[.slice (some ⟨bk,0,none⟩) l.length cap] w (abC bk l rest fr w):=by
 go_enter Tryz.func114,Tryz.ntmps114;go_wp2
 go_loopg [2,3] l.length (fun k s2 s3 wr=>∃ (A M C:List UInt8),s2=.int .i64 (A.length:Nat)∧s3=.int .i64 ((A.length:Int)+(M.length:Int) - 1)∧M.length≤k∧l=C.reverse++M++A.reverse ∧
  wr.heap[bk]?=some (.cells (Lib.byteCells (A++M++C)++rest).toArray 5 fr)∧wr.heap.size=w.heap.size∧(∀ q,q≠bk→wr.heap[q]?=w.heap[q]?)∧Below bk w wr)
 case atStart=>exact⟨[],l,[],rfl,by simp,bD _,by simp,by simpa using h,rfl,fun _ _=>rfl,bI _ _⟩
 case round =>
  obtain⟨A,M,C,rfl,rfl,hk,hl,hh,hsz,hoth,hbl⟩:=hrel
  have hlen:l.length=C.length+M.length+A.length:=by rw[hl];simp;omega
  by_cases hlt:2≤M.length
  ·obtain⟨x,N,y,rfl⟩:=QX M hlt
   have hI:(A.length:Int)<(A.length:Int)+((x :: (N++[y])).length:Int) - 1:=by simp only[dR] at hlt ⊢;omega
   have hj:(A.length:Int)+((x :: (N++[y])).length:Int) - 1=((A.length+N.length+1:Nat):Int):=by simp;omega
   simp only[dR,bN,gX] at hlen hk;rw[hj] at hI ⊢
   have e:A++(x :: (N++[y]))++C=A++(x :: (N++y :: C)):=by simp
   rw[e] at hh
   have ci:wr.cell? ⟨bk,A.length,none⟩=some (.int .u8 x.toNat):=by
    rw[aV hh];simp[Lib.byteCells]
   have cj:wr.cell? ⟨bk,A.length+N.length+1,none⟩=some (.int .u8 y.toNat):=by
    rw[aV hh,List.getElem?_toArray,Lib.byteCells,List.map_append,nQ,List.getElem?_append_right (by simp;omega)];simp only[List.length_map];rw[show A.length+N.length+1 - A.length=N.length+1 by omega,List.map_cons,jN,List.getElem?_cons_succ,List.map_append,nQ,List.getElem?_append_right (by simp)]
    simp
   have fi:wr.frozen? ⟨bk,A.length,none⟩=false:=by
    simp[World.frozen?,hh];omega
   have fj:wr.frozen? ⟨bk,A.length+N.length+1,none⟩=false:=by
    simp[World.frozen?,hh];omega
   have h1:=Co wr bk A.length _ _ _ (.int .u8 y.toNat) hh;have h2:=Co _ bk (A.length+N.length+1) _ _ _ (.int .u8 x.toNat) h1;have HL:=ay hl;have HH:=ay hh;have H2:=ay h2;have HO:=ay hoth;clear hj hl hh h1 h2 hoth e;go_wp2_with fail
   go_region
   go_wp2
   go_roundg N.length
   case measure=>omega
   case rel =>
    refine⟨A++[y],N,x :: C,by simp,by simp;omega,bD _,by rw[HL.out];simp,?_,?_,?_,((hbl.setCell (bD _) _).setCell (bD _) _).drew⟩
    ·rw[Ja,H2.out]
     have e2:((Lib.byteCells (A++x :: (N++y :: C))++rest).toArray.setIfInBounds A.length (.int .u8 y.toNat)).setIfInBounds (A.length+N.length+1) (.int .u8 x.toNat)=(Lib.byteCells (A++[y]++N++x :: C)++rest).toArray:=by
      have:=Vh (Lib.byteCells A) (Lib.byteCells N) (Lib.byteCells C++rest) (.int .u8 x.toNat) (.int .u8 y.toNat);simp only[Lib.byteCells_length] at this
      apply Array.toList_inj.1
      simp only[Array.toList_setIfInBounds]
      have e3:Lib.byteCells (A++x :: (N++y :: C))++rest=Lib.byteCells A++(.int .u8 x.toNat :: (Lib.byteCells N++.int .u8 y.toNat :: (Lib.byteCells C++rest))):=by simp[Lib.byteCells]
      have e4:Lib.byteCells (A++[y]++N++x :: C)++rest=Lib.byteCells A++(.int .u8 y.toNat :: (Lib.byteCells N++.int .u8 x.toNat :: (Lib.byteCells C++rest))):=by simp[Lib.byteCells]
      rw[e3,e4,this]
     rw[e2]
    ·simpa using hsz
    ·intro q hq
     rw[Ja,heap_setCell_other _ _ _ _ hq,heap_setCell_other _ _ _ _ hq];exact HO.out q hq
  ·have hI:decide ((A.length:Int)<(A.length:Int)+(M.length:Int) - 1)=false:=dA (by omega)
   have hr:M.reverse=M:=by
    match M,hlt with
    | [],_=>rfl
    | [x],_=>rfl
    | x :: y :: l,h=>exact absurd h (by simp)
   have HR:Hid (A++M++C=l.reverse):=ay (by rw[hl];simp[hr]);have HH:=ay hh;clear hl hh hr;go_wp2
   go_end0
   exact⟨rfl,by rw[← HR.out];exact HH.out,hsz,hoth,hbl⟩
end Go.Proofs.YtmhdgeekclhbbaaGreatDoor

namespace Go.Proofs.YtmhdgeekclhbbaaGreatDoor
theorem QY (u:Nat):Lib.decDigits u=gN u:=by
 induction u using Nat.strongRecOn with
 | _ u ih =>
  rw[Lib.decDigits,gN]
  split
  ·rfl
  ·rw[ih (u / 10) (by omega)]
theorem QZ (l:List UInt8):Lib.trimRightB l 48=zl l:=rfl
theorem EZ:∀ (ws:List Nat) (n:Nat),dx ws=ws→iM ws<4294967296 ^ n→ws.length≤n
 | [],n,_,_=>lI _
 | d :: l,0,h,hm=>by
  have:=wO h (by simp);simp only[Nat.pow_zero] at hm;omega
 | d :: l,n+1,h,hm=>by
  have hl:dx l=l:=by
   rw[dx] at h
   split at h
   ·cases h
   ·injection h
  have:=EZ l n hl (by
   rw[iM,Nat.pow_succ] at hm;generalize 4294967296 ^ n=p at hm ⊢
   omega)
  rw[dR];omega
theorem Yt (n:Int)(k:Nat)(h0:n≠0)(hk:n.natAbs<10 ^ k):(zl (kg k n.natAbs)++(if n<0 then [45] else [])).reverse=jG n:=by
 rw[List.reverse_append,Xi _ _ (by omega) hk,jG]
 split<;>simp
theorem E8:∀ (k n:Nat),(kg k n).length=k
 | 0,_=>rfl
 | k+1,n=>by rw[kg,dR,E8 k]
theorem Vi (k n:Nat):kg (k+9) n=kg k n++kg 9 (n / 10 ^ k % 1000000000):=by
 rw[zk k 9,show (1000000000:Nat)=10 ^ 9 from rfl,LV 9 9 _ (bD _)]
theorem Vj (ws:List Nat)(n k:Nat)(h:iM ws=n / 10 ^ k):iM (dx (bH 1000000000 ws).1)=n / 10 ^ (k+9)∧(bH 1000000000 ws).2=n / 10 ^ k % 1000000000:=by
 have h1:=DT 1000000000 ws;have h2:=rP 1000000000 (by omega) ws;rw[wN,← h]
 have e:n / 10 ^ (k+9)=iM ws / 1000000000:=by
  rw[h,Nat.pow_add,Nat.div_div_eq_div_mul]
 rw[e];omega
theorem Yu (l:List UInt8):(zl l).length≤l.length:=by
 rw[zl,List.length_reverse];have:=(List.dropWhile_suffix (l:=l.reverse) (p:=(· == 48))).length_le
 simpa using this
end Go.Proofs.YtmhdgeekclhbbaaGreatDoor

namespace Go.Proofs.YtmhdgeekclhbbaaGreatDoor
open Go.RowKit Go
mutual
def PE.size:PE→Nat
 | .mk _ _ _ _ _ _ aA _=>1+NV aA
def NV:List PE→Nat
 | []=>0
 | e :: l=>e.size+NV l
end
mutual
theorem PE.abD:∀ e:PE,e.ats.length=e.size
 | .mk _ _ _ _ _ _ aA _=>by rw[PE.ats,PE.size,dR,NW aA,Nat.add_comm]
theorem NW:∀ l:List PE,(aa0 l).length=NV l
 | []=>rfl
 | e :: l=>by rw[aa0,NV,bN,PE.abD e,NW l]
end
theorem PE.Fa (e:PE):e.size=1+NV e.aA:=by cases e;rfl
theorem iT (e:PE):∀ x∈e.aA,SizeOf.sizeOf x<SizeOf.sizeOf e:=by
 intro x hx
 cases e with
 | mk op name module num txt yes aA at_ =>
  have:=List.sizeOf_lt_of_mem hx;simp only[PE.mk.sizeOf_spec,PE.aA] at this ⊢;omega
theorem oZ.slX {P:Nat→Prop}{w:World}{m k:Value}{x:PE}(h:oZ XA P w m k x):∃ am wn cm ae ce,m=.slice am wn cm∧k=.slice ae x.aA.length ce:=by
 obtain⟨G5,ae,ce,rfl,_,_⟩:=h.form
 obtain⟨ws,hws,_⟩:=(G5:nD _ _ _ _)
 obtain⟨am,cm,rfl⟩:=hws.form;exact⟨am,_,cm,ae,ce,rfl,rfl⟩
def Kn (l:List UInt8)(w:World)(r:Ending)(w':World):Prop:=r=.returned (.string ⟨l.toArray⟩)∧Below w.heap.size w w'
theorem Yv {W:World}{base n:Nat}{e:TypeId}{size:Nat}{v:Value}{xs:List Value}(h:W.ownsRow base e size v n xs)(h0:0<n):∃ g cap,v=.slice (some ⟨g,0,none⟩) n cap:=by
 rcases h.2 with ⟨_,h1⟩|⟨g,cap,_,rfl,_⟩
 ·omega
 ·exact⟨g,cap,rfl⟩
theorem Vk:∀ k:Nat,k<10→∀ h:k<(ByteArray.mk #[48,49,50,51,52,53,54,55,56,57]).size,(ByteArray.mk #[48,49,50,51,52,53,54,55,56,57])[k]'h=UInt8.ofNat (48+k)
 | 0,_=>fun _=>rfl
 | 1,_=>fun _=>rfl
 | 2,_=>fun _=>rfl
 | 3,_=>fun _=>rfl
 | 4,_=>fun _=>rfl
 | 5,_=>fun _=>rfl
 | 6,_=>fun _=>rfl
 | 7,_=>fun _=>rfl
 | 8,_=>fun _=>rfl
 | 9,_=>fun _=>rfl
 | n+10,h=>absurd h (by omega)
theorem Ko (W:World){base g cap n:Nat}{l:List UInt8}(hn:l.length=n)(h:W.ownsRow base 5 1 (.slice (some ⟨g,0,none⟩) n cap) n (Lib.byteCells l)) :
  (convert 147 9 (.slice (some ⟨g,0,none⟩) n cap)).run Tryz.prog W=.ok (.string ⟨l.toArray⟩) W:=by
 subst hn;refine run_convert_bytes_back _ 147 9 5 ⟨g,0,none⟩ cap l Tryz.underlying147 Tryz.underlying5 Tryz.underlying9 (fun j hj=>?_);obtain⟨ao,c,hv,_,hl,hc⟩:=Sl.fZ h;obtain⟨b,o,ha,_,hcell⟩:=hc (by omega);simp only[Value.slice.injEq] at hv;rw[ha] at hv;simp only[Option.some.injEq,Addr.mk.injEq] at hv;obtain⟨⟨rfl,rfl,-⟩,-,-⟩:=hv;rw[show Addr.add ⟨g,0,none⟩ j=⟨g,0+j,none⟩ by unfold Addr.add;split<;>simp_all];have:=hcell j (by rw[hl];omega);rw[this];simp[Lib.byteCells]
theorem Wd.append {wr w3:World}{o:Obj}{v v' m:Value}{us:List Nat}{g:Nat}(h:Wd (fun b=>some b≠v.ownBlock) wr m us)(hg:(wr.alloc o).grownBy w3 v.ownBlock)(hat:v.ownBlock=some g∨g=wr.heap.size+1)(hv:v'.ownBlock=some g) :
  Wd (fun b=>some b≠v'.ownBlock) w3 m us:=by
 have h1:Wd (fun b=>some b≠v.ownBlock∧some b≠v'.ownBlock) wr m us:=nV.imp h fun b hb hlt=>⟨hb,fun q=>by
  rw[hv] at q
  rcases hat with e|e
  ·exact hb (by rw[e,q])
  ·injection q;omega⟩
 have h2:Wd (fun b=>some b≠v.ownBlock∧some b≠v'.ownBlock) (wr.alloc o) m us:=nV.frame h1 ⟨by simp,fun b _ hb=>gY _ _ _ hb⟩
 exact nV.imp (nV.frame h2 (aW.grown hg fun b hb=>hb.1)) fun b hb _=>hb.2
theorem Vl (b:Bool)(am:Option Addr)(cm:Nat)(w:World) :
  Calls Tryz.prog 66 #[.agg #[.bool b,.slice am 0 cm]] w (Kn [48] w):=by
 go_enter Tryz.func66,Tryz.ntmps66;go_wp2;go_ret;exact⟨rfl,(bI _ _).alloc (bD _) _⟩
theorem NY (S:ByteArray)(c:Nat):bytesRow S c=(Lib.byteCells S.data.toList++List.replicate (c - S.size) (Value.int .u8 0)).toArray:=by
 apply Array.ext'
 simp[bytesRow,Lib.byteCells]
theorem Q0 (W:World){g cap n:Nat}{l:List UInt8}{rest:List Value}{T:TypeId}{fr:Nat × Nat}(hn:l.length=n)(h:W.heap[g]?=some (.cells (Lib.byteCells l++rest).toArray T fr)) :
  (convert 147 9 (.slice (some ⟨g,0,none⟩) n cap)).run Tryz.prog W=.ok (.string ⟨l.toArray⟩) W:=by
 subst hn;refine run_convert_bytes_back _ 147 9 5 ⟨g,0,none⟩ cap l Tryz.underlying147 Tryz.underlying5 Tryz.underlying9 (fun j hj=>?_);rw[show Addr.add ⟨g,0,none⟩ j=⟨g,j,none⟩ by unfold Addr.add;split<;>simp_all,aV h,List.getElem?_toArray,List.getElem?_append_left (by simpa [Lib.byteCells] using hj)];simp[Lib.byteCells,hj]
def ZIn (bx:Array Value)(w:World)(n:Nat)(l:List UInt8)(v m:Value)(us:List Nat)(wr:World):Prop :=
 Wd (fun b=>some b≠v.ownBlock) wr m us∧wr.ownsRow w.heap.size 5 1 v n (Lib.byteCells l)∧Below w.heap.size w wr∧wr.heap[w.heap.size]?=some (.cells bx 62 (0,0))
def aeC (bx:Array Value)(w:World)(n:Nat)(l:List UInt8)(r:Nat)(m:Value)(us:List Nat)(v q c:Value)(wr:World):Prop :=
 ∃ i:Nat,i≤9∧c=.int .i64 i∧q=.int .u64 ((r / 10 ^ i:Nat):Int)∧ZIn bx w (n+i) (l++kg i r) v m us wr
def Yw (bx:Array Value)(w:World)(N j:Nat)(v m:Value)(us:List Nat)(wr:World):Prop :=
 dx us=us∧(∀ x∈us,x<4294967296)∧iM us=N / 10 ^ (9 * j)∧Wd (fun b=>some b≠v.ownBlock) wr m us∧wr.ownsRow w.heap.size 5 1 v (9 * j) (Lib.byteCells (kg (9 * j) N))∧Below w.heap.size w wr∧wr.heap[w.heap.size]?=some (.cells bx 62 (0,0))
def aeD (bx:Array Value)(w:World)(k N:Nat)(v m:Value)(wr:World):Prop:=∃ j us am cm,j+k=7∧m=.slice am us.length cm∧Yw bx w N j v m us wr
theorem Yx (P:Nat→Prop)(am:Option Addr)(cm:Nat)(n:Int)(ws:List Nat)(w:World)(h:Wd P w (.slice am ws.length cm) ws)(ht:dx ws=ws)(hw:∀ x∈ws,x<4294967296)(hv:iM ws=n.natAbs)(hn:n.natAbs<10 ^ 60)(h0:0<ws.length) :
  Calls Tryz.prog 66 #[.agg #[.bool (decide (n<0)),.slice am ws.length cm]] w (Kn (jG n) w):=by
 obtain⟨i0,hi,hz0,hz1,hz2⟩:=info_parts Tryz.infoByte
 have hN0:0<n.natAbs:=by rw[← hv];exact wO ht (by intro q;rw[q] at h0;simp at h0)
 have h7:ws.length≤7:=EZ ws 7 ht (by rw[hv];exact Nat.lt_trans hn (by decide));have HT:=ay (show n≠0 by omega);have HS:Hid (aeD #[.bool (decide (n<0)),.slice am ws.length cm] w 7 n.natAbs (.slice none 0 0) (.slice am ws.length cm) (w.alloc (.cells #[.bool (decide (n<0)),.slice am ws.length cm] 62))):=ay ⟨0,ws,am,cm,rfl,rfl,ht,hw,by rw[hv];simp,nV.imp (nV.frame h ⟨by simp,fun b _ hb=>gY _ _ _ hb⟩) (fun b _ _ q=>by cases q),World.ownsRow_nil _ _ _ _,(bI _ _).alloc (bD _) _,aY w _⟩;have HN:=ay hn
 have hwl:(0:Int)<(ws.length:Int):=by omega
 have hwn:((ws.length:Int) == 0)=false:=BU.2 (by omega);clear h ht hw hv hn hN0;generalize SX:decide (n<0)=ng at *;have HNG:=ay SX;clear SX;go_enter Tryz.func66,Tryz.ntmps66
 go_upto_region 5 with fail
 go_loopg [3,4] 7 (fun k v m wr=>aeD #[.bool ng,.slice am ws.length cm] w k n.natAbs v m wr)
 case atStart=>exact HS.out
 case round =>
  obtain⟨j,us,au,cu,hjk,rfl,ht,hw,hm,hwd,hrow,hbl,hbx⟩:=hrel
  obtain⟨v,rfl⟩:∃ v:Value,v=u3:=⟨_,rfl⟩
  obtain⟨w1,rfl⟩:∃ w1:World,w1=wr:=⟨_,rfl⟩
  have hz:=hbl.size
  by_cases hu:us.length=0
  ·have hu':=List.length_eq_zero_iff.1 hu
   subst hu'
   have hlt:n.natAbs<10 ^ (9 * j):=by
    rw[iM] at hm;exact(Nat.div_eq_zero_iff_lt (Nat.pow_pos (by omega))).1 hm.symm
   have Px:=ay (Yt n (9 * j) HT.out hlt);have htl:=Yu (kg (9 * j) n.natAbs);rw[E8] at htl;have hll:=E8 (9 * j) n.natAbs
   have h9j:0<9 * j:=by
    rcases Nat.eq_zero_or_pos j with q|q
    ·subst q;simp at hlt;have:=HT.out;omega
    ·omega
   obtain⟨g,cap,rfl⟩:=Yv hrow h9j;have hcv:=Ko w1 hll hrow
   have bx0:w1.cell? ⟨w.heap.size,0,none⟩=some (.bool ng):=by rw[aV hbx];rfl
   have QF:=ay (Tryz.strings_TrimRight_one ⟨(kg (9 * j) n.natAbs).toArray⟩ 48 (by decide) w1 (by rw[← aR];simp[hll];omega));simp only[QZ] at QF;generalize kg (9 * j) n.natAbs=l at htl hll hcv Px QF hrow;obtain⟨TZ,hTZ,eTZ⟩:=jq (zl l);rw[eTZ] at QF;have HTZ:=ay hTZ
   have htz:TZ.size≤9 * j:=by rw[← aR,hTZ];exact htl
   have hcb:=fun (W:World) (S:ByteArray)=>run_bytes_of_string (P:=Tryz.prog) W 9 147 5 S Tryz.underlying9 Tryz.underlying147 Tryz.underlying5
   have HBL:=ay hbl;clear hTZ eTZ htl hll hwd hrow ht hw hm hlt hbl
   go_upto_if 37 with (go_at_call 113;refine QF.out.mono ?_;rintro e w2 ⟨rfl,hww⟩;obtain rfl:w1=w2:=hww.symm)
   go_cut [6] (fun s wc=>∃ S:ByteArray,s=.string S∧S.data.toList.reverse=jG n∧S.size≤70∧wc=w1)
   case first =>
    cases ng with
    | true =>
     have hn0:=of_decide_eq_true HNG.out;have HR:Hid ((zl l++[45]).reverse=jG n):=ay (by have:=Px.out;rw[if_pos hn0] at this;exact this);clear hn0;go_wp2
     go_meet
     exact⟨_,rfl,by rw[Ca,HTZ.out,← HR.out],by simp[ByteArray.size_append];show TZ.size+1≤70;omega,rfl⟩
    | false =>
     have hn0:=of_decide_eq_false HNG.out;have HR:Hid ((zl l).reverse=jG n):=ay (by have:=Px.out;rw[if_neg hn0,List.append_nil] at this;exact this);clear hn0;go_wp2
     go_meet
     exact⟨TZ,rfl,by rw[HTZ.out,HR.out],by omega,rfl⟩
   case rest =>
    obtain⟨S,rfl,hS,hSz,rfl⟩:=hcut
    obtain⟨wo,rfl⟩:∃ wo:World,wo=wc:=⟨_,rfl⟩
    have HSS:=ay hS;have hcS:=hcb wo S;rw[NY] at hcS;have hnew:=aY wo.drew (.cells (Lib.byteCells S.data.toList++List.replicate (grownCap wo S.size 0 5 - S.size) (Value.int .u8 0)).toArray 5 ((Lib.byteCells S.data.toList++List.replicate (grownCap wo S.size 0 5 - S.size) (Value.int .u8 0)).toArray.size,(Lib.byteCells S.data.toList++List.replicate (grownCap wo S.size 0 5 - S.size) (Value.int .u8 0)).toArray.size+1));have hbn:=aB wo.drew (.cells (Lib.byteCells S.data.toList++List.replicate (grownCap wo S.size 0 5 - S.size) (Value.int .u8 0)).toArray 5 ((Lib.byteCells S.data.toList++List.replicate (grownCap wo S.size 0 5 - S.size) (Value.int .u8 0)).toArray.size,(Lib.byteCells S.data.toList++List.replicate (grownCap wo S.size 0 5 - S.size) (Value.int .u8 0)).toArray.size+1))
    have hfz:S.data.toList.length≤((Lib.byteCells S.data.toList++List.replicate (grownCap wo S.size 0 5 - S.size) (Value.int .u8 0)).toArray.size,(Lib.byteCells S.data.toList++List.replicate (grownCap wo S.size 0 5 - S.size) (Value.int .u8 0)).toArray.size+1).1:=by simp[Lib.byteCells]
    generalize List.replicate (grownCap wo S.size 0 5 - S.size) (Value.int .u8 0)=rest at *;generalize ((Lib.byteCells S.data.toList++rest).toArray.size,(Lib.byteCells S.data.toList++rest).toArray.size+1)=fr at *;generalize grownCap wo S.size 0 5=cp at *;generalize wo.drew.alloc _=w5 at hcS hnew hbn;have hrv:=NU wo.heap.size cp S.data.toList rest fr w5 hnew hfz (by rw[aR];omega);rw[aR] at hrv;have HRV:=ay hrv;clear hcb hrv hnew hfz hS hcv bx0;go_wp2_with (go_at_call 114;refine HRV.out.mono ?_;rintro e w6 ⟨rfl,hh6,hs6,ho6,hb6⟩;have hct:=Q0 (cap:=cp) (n:=S.size) w6 (by simp) hh6);go_ret;exact⟨by rw[HSS.out];rfl,(HBL.out.drew.trans (hbn.mono hz)).trans (hb6.mono hz)⟩
  ·have hul:(0:Int)<(us.length:Int):=by omega
   have hmp:=wO ht (by intro q;rw[q] at hu;exact hu rfl)
   have hj6:j≤6:=by
    rcases Nat.lt_or_ge 6 j with q|q
    ·obtain rfl:j=7:=by omega
     rw[Nat.div_eq_of_lt (Nat.lt_trans HN.out (by decide))] at hm;omega
    ·exact q
   have Kq:us.length≤7:=EZ us 7 ht (by rw[hm];exact Nat.lt_of_le_of_lt (Nat.div_le_self _ _) (Nat.lt_trans HN.out (by decide)));have HSH:=ay (QW _ au cu us 1000000000 w1 hwd hw (by omega) (by omega) (by omega));obtain⟨hd1,hd2⟩:=Vj us n.natAbs (9 * j) hm;have hr9:=rP 1000000000 (by omega) us;have htr:=yg (bH 1000000000 us).1
   have hlt2:∀ x∈dx (bH 1000000000 us).1,x<4294967296:=fun x hx=>Ic 1000000000 (by omega) us hw x (AB _ _ hx)
   have hlow:=Vi (9 * j) n.natAbs;rw[← hd2] at hlow;have HLW:=ay hlow;have HM:=ay (show dx (dx (bH 1000000000 us).1)=dx (bH 1000000000 us).1∧(∀ x∈dx (bH 1000000000 us).1,x<4294967296)∧iM (dx (bH 1000000000 us).1)=n.natAbs / 10 ^ (9 * (j+1)) from ⟨htr,hlt2,by rw[hd1,Nat.mul_add]⟩);unfold I9 at HSH;generalize (bH 1000000000 us).2=r at HSH hr9 HLW;generalize dx (bH 1000000000 us).1=us2 at HSH HM;generalize kg (9 * j) n.natAbs=l at hrow HLW;clear hwd hw ht hm hmp hd1 hd2 htr hlt2 hlow
   go_upto_region 8 with (go_at_call 112;refine HSH.out.mono ?_;rintro e w2 ⟨c2,rfl,hwd2,hb2⟩)
   have aht:=hb2.size
   have hown:∀ q,v.ownBlock=some q→w.heap.size≤q∧q<w1.heap.size:=fun q hq=>hrow.lt q hq
   have HI:Hid (aeC #[.bool ng,.slice am ws.length cm] w (9 * j) l r (.slice (some ⟨w1.heap.size,0,none⟩) us2.length c2) us2 v (.int .u64 (r:Int)) (.int .i64 (0:Nat)) w2):=ay ⟨0,by omega,rfl,by simp,nV.imp hwd2 (fun b hb _ q=>by have:=(hown b q.symm).2;omega),by simpa [kg] using own_below hrow hb2,hbl.trans (hb2.mono hz),(hb2.block _ (bS hbx).1).trans hbx⟩;clear hown hrow hwd2 hb2 hbl hbx;go_wp2
   go_loopw [3,5,22] (fun v q c W=>aeC #[.bool ng,.slice am ws.length cm] w (9 * j) l r (.slice (some ⟨w1.heap.size,0,none⟩) us2.length c2) us2 v q c W) (fun _ _ c _=>9 - (intOf c).toNat)
   case atStart=>exact HI.out
   case round =>
    obtain⟨i,hi9,rfl,rfl,hwd,hrow,hbl,hbx⟩:=hrel;have hzW:=hbl.size
    by_cases hlt:i<9
    ·have WV:r / 10 ^ i<1000000000:=Nat.lt_of_le_of_lt (Nat.div_le_self _ _) hr9
     have hsn:=Ie i r
     have hdv:r / 10 ^ (i+1)=r / 10 ^ i / 10:=by rw[Nat.pow_succ,Nat.div_div_eq_div_mul]
     have HDV:=ay hdv;have qx:=ay hsn;generalize r / 10 ^ i=q at WV HDV qx ⊢;have hix:=Vk (q % 10) (by omega);generalize UInt8.ofNat (48+q % 10)=c at hix qx
     have hiI:(i:Int)<9:=by omega
     clear hsn hdv;go_wp2_with (at_builtin;refine wpList_append_lies _ rfl _ _ 147 rfl w.heap.size 5 i0 (.int .u8 0) 1 1 Tryz.underlying147 hi hz0 hz1 hz2 rfl (by decide) _ (9 * j+i) _ rfl (hrow.alloc _) ⟨wr.heap.size,0,none⟩ 1 1 [.int .u8 (c.toNat:Int)] rfl rfl ?c1 ?c2 ?c3 ?c4 ?c5 ?c6 _ rfl ?_)
     case c1 =>
      intro j' u hj';exact vv (cs:=#[.int .u8 (c.toNat:Int)]) (t:=5) (fr:=(0,0)) (aY wr _) j' u (by simpa using hj')
     case c2=>simp[Value.oneCell']
     case c3=>omega
     case c4=>unfold maxLen;omega
     case c5=>omega
     case c6=>simp;omega
     intro g cap w3 jX hgrow3 aeE hlt3;have aeF:=Wd.append (v':=.slice (some ⟨g,0,none⟩) (9 * j+i+1) cap) hwd hgrow3 (by simpa using aeE) rfl;have hb3:Below w.heap.size w w3:=(hbl.alloc hzW _).grown hgrow3 (by simp;omega) (fun q hq=>by have:=(hrow.lt q hq).1;omega);have HIN:Hid (ZIn #[.bool ng,.slice am ws.length cm] w (9 * j+(i+1)) (l++kg (i+1) r) (.slice (some ⟨g,0,none⟩) (9 * j+i+1) cap) (.slice (some ⟨w1.heap.size,0,none⟩) us2.length c2) us2 w3):=ay ⟨aeF,by rw[qx.out,← nQ,Lib.byteCells_append];exact jX,hb3,iI (hrow.alloc _) hgrow3 ((gY _ _ _ (bS hbx).1).trans hbx) (by decide)⟩;clear aeF hb3 jX hgrow3 aeE hlt3 hwd hrow hbl hix hbx;go_wp2;exact⟨⟨i+1,by omega,by go_num,by rw[HDV.out];exact Dl (by omega),HIN.out⟩,by simp[intOf];omega⟩
    ·obtain rfl:i=9:=by omega
     have HO:Hid (Yw #[.bool ng,.slice am ws.length cm] w n.natAbs (j+1) u3 (.slice (some ⟨w1.heap.size,0,none⟩) us2.length c2) us2 wr):=ay ⟨HM.out.1,HM.out.2.1,HM.out.2.2,hwd,by rw[Nat.mul_add,HLW.out];exact hrow,hbl,hbx⟩;clear hwd hrow hbl hbx;go_wp2
     go_roundg (6 - j)
     case measure=>omega
     case rel=>exact⟨j+1,us2,_,c2,by omega,rfl,HO.out⟩
theorem NZ (P:Nat→Prop)(am:Option Addr)(wn cm:Nat)(n:Int)(w:World)(h:nD P w n (.slice am wn cm))(hn:n.natAbs<10 ^ 60) :
  Calls Tryz.prog 66 #[.agg #[.bool (decide (n<0)),.slice am wn cm]] w (Kn (jG n) w):=by
 obtain⟨ws,h1,h2,h3,h4⟩:=h;obtain⟨ao,cap,hv⟩:=h1.form;simp only[Value.slice.injEq] at hv;obtain⟨rfl,rfl,rfl⟩:=hv
 by_cases h0:ws.length=0
 ·have hw:=List.length_eq_zero_iff.1 h0
  subst hw
  have hz:n=0:=by rw[iM] at h4;omega
  subst hz
  have e:jG 0=[48]:=by
   have:=zm 0;rw[show ((0:Nat):Int)=0 from rfl] at this;rw[this,gN,dif_pos (by omega)]
   rfl
  rw[e];exact Vl _ _ _ _
 ·exact Yx P _ _ n ws w h1 h2 h3 h4 hn (by omega)
