/- Walks and plain laws, without a condition. -/
import Derived.Test.YtmhdgeekclhbbaaGreatDoorE01
import Derived.Deep.RegionLaw
import Derived.Test.YtmhdgeekclhbbaaGreatDoorProg
import Derived.RangeFuncBox
import Derived.RangeFuncNested
import Derived.RangeFuncBound
import Derived.RangeFuncCalls
import Derived.RangeFuncLeaves
import Derived.RangeFuncWrites
import Derived.Shelf.Abstract
import Derived.Shelf.RegionOpen
import Derived.OwnWalkIn
import Derived.TacticsInMore
import Derived.LoopNIn
import Derived.LoopIn
import Derived.Sort.LoopGhostIn
set_option maxHeartbeats 16000000
set_option maxRecDepth 100000
set_option linter.unusedVariables false
set_option linter.unusedSimpArgs false
namespace Go.Proofs.YtmhdgeekclhbbaaGreatDoor
variable{u:Nat}{ks:List Int}{k:Int}{aj:List Nd}
inductive PE where
 | mk (op:Nat) (name module:aH) (num:Int) (txt:aH) (yes:Bool) (aA:List PE) (at_:Nat)
def PE.op:PE->Nat | .mk o _ _ _ _ _ _ _=>o
def PE.name:PE->aH | .mk _ n _ _ _ _ _ _=>n
def PE.module:PE->aH | .mk _ _ m _ _ _ _ _=>m
def PE.num:PE->Int | .mk _ _ _ n _ _ _ _=>n
def PE.txt:PE->aH | .mk _ _ _ _ t _ _ _=>t
def PE.yes:PE->Bool | .mk _ _ _ _ _ y _ _=>y
def PE.aA:PE->List PE | .mk _ _ _ _ _ _ k _=>k
def PE.at_:PE->Nat | .mk _ _ _ _ _ _ _ a=>a
def kr (n:Int):aH:=(if n<0 then [45] else [])++iw n.natAbs
def Oi (op:Nat)(name module num:aH)(yes:Bool):aH :=
 [91]++iw op++(if module≠[] then [32]++module++[46]++name else if name≠[] then [32]++name else [])
  ++ (if op=1 then [32]++num else [])++(if op=2 then (if yes=true then [32,116,114,117,101] else [32,102,97,108,115,101]) else [])
mutual
def PE.dump:PE->aH
 | .mk op name module num _ yes aA _=>Oi op name module (kr num) yes++Oj aA++[93]
def Oj:List PE->aH
 | []=>[]
 | e :: l=>[32]++e.dump++Oj l
end
mutual
def PE.tJ:PE->aH
 | .mk op name module _ txt yes aA _=>Oi op name module txt yes++xA aA++[93]
def xA:List PE->aH
 | []=>[]
 | e :: l=>[32]++e.tJ++xA l
end
mutual
def PE.ats:PE->List Int
 | .mk _ _ _ _ _ _ aA a=>(a:Int) :: adh aA
def adh:List PE->List Int
 | []=>[]
 | e :: l=>e.ats++adh l
end
mutual
def PE.told:PE->Prop
 | .mk op _ _ num txt _ aA _=>(op=1->txt=kr num)/\FT aA
def FT:List PE->Prop
 | []=>True
 | e :: l=>e.told/\FT l
end
mutual
theorem PE.kR:∀ {e:PE},e.told->e.tJ=e.dump
 | .mk op name module num txt yes aA a,h=>by
  rw[PE.told] at h;rw[PE.tJ,PE.dump,FU h.2]
  by_cases h1:op=1
  ·rw[h.1 h1]
  ·simp only[Oi,aP h1]
theorem FU:∀ {l:List PE},FT l->xA l=Oj l
 | [],_=>by rw[xA,Oj]
 | e :: l,h=>by
  rw[FT] at h;rw[xA,Oj,PE.kR h.1,FU h.2]
end
def bN (ah:List Tok)(u:Nat):Nat:=(dh ah u).place
mutual
def CE.pe (ah:List Tok)(u:Nat):CE->PE
 | .num=>.mk 1 [] [] (jR (aJ ah u):Nat) (aJ ah u) false [] (bN ah u)
 | .truth=>.mk 2 [] [] 0 [] (decide (aJ ah u=Oa)) [] (bN ah u)
 | .res=>.mk 4 [] [] 0 [] false [] (bN ah u)
 | .Cr=>.mk 3 (aJ ah u) [] 0 [] false [] (bN ah u)
 | .group e=>e.pe ah (u+1)
 | .un e=>.mk (if aJ ah u=ada then 6 else 5) [] [] 0 [] false [e.pe ah (u+1)] (bN ah u)
 | .bin a b=>.mk (7+rV.idxOf (aJ ah (u+a.pt.lv))) [] [] 0 [] false [a.pe ah u,b.pe ah (u+a.pt.lv+1)] (bN ah (u+a.pt.lv))
 | .iff a b c=>.mk 21 [] [] 0 [] false [a.pe ah (u+1),b.pe ah (u+1+a.pt.lv+1),c.pe ah (u+1+a.pt.lv+1+b.pt.lv+1)] (bN ah u)
 | .sZ a b=>.mk 22 (aJ ah (u+1)) [] 0 [] false [a.pe ah (u+3),b.pe ah (u+3+a.pt.lv+1)] (bN ah u)
 | .tq a b=>.mk 23 [] [] 0 [] false [a.pe ah (u+1),b.pe ah (u+1+a.pt.lv+1)] (bN ah u)
 | .call q l=>if q=true then .mk 24 (aJ ah (u+2)) (aJ ah u) 0 [] false (iZ ah (u+4) l) (bN ah u) else .mk 24 (aJ ah u) [] 0 [] false (iZ ah (u+2) l) (bN ah u)
def iZ (ah:List Tok)(u:Nat):List CE->List PE
 | []=>[]
 | e :: l=>e.pe ah u :: iZ ah (u+e.pt.lv+1) l
end
def RI (ah:List Tok):Prop:=∀ u,gq ah u=3->iw (jR (aJ ah u))=aJ ah u
theorem Bb (n:Nat):kr (n:Int)=iw n:=by
 unfold kr;rw[aP (by omega),qW,Int.natAbs_natCast]
mutual
theorem CE.told {ah:List Tok}(hN:RI ah){cl:Bool}:∀ (e:CE) (u:Nat),e.ok ah cl u->(e.pe ah u).told
 | .num,u,h=>by
  rw[CE.ok] at h;rw[CE.pe,PE.told];exact⟨λ_=>by rw[Bb,hN u h],trivial⟩
 | .truth,u,h=>by rw[CE.pe,PE.told];exact⟨λq=>absurd q (by decide),trivial⟩
 | .res,u,h=>by rw[CE.pe,PE.told];exact⟨λq=>absurd q (by decide),trivial⟩
 | .Cr,u,h=>by rw[CE.pe,PE.told];exact⟨λq=>absurd q (by decide),trivial⟩
 | .group e,u,h=>by rw[CE.ok] at h;rw[CE.pe];exact CE.told hN e _ h.2
 | .un e,u,h=>by
  rw[CE.ok] at h;rw[CE.pe,PE.told];exact⟨λq=>by split at q<;>omega,CE.told hN e _ h.2,trivial⟩
 | .bin a b,u,h=>by
  rw[CE.ok] at h;rw[CE.pe,PE.told];exact⟨λq=>by omega,CE.told hN a _ h.2.1,CE.told hN b _ h.2.2,trivial⟩
 | .iff a b c,u,h=>by
  rw[CE.ok] at h;rw[CE.pe,PE.told];exact⟨λq=>by omega,CE.told hN a _ h.2.1,CE.told hN b _ h.2.2.1,CE.told hN c _ h.2.2.2,trivial⟩
 | .sZ a b,u,h=>by
  rw[CE.ok] at h;rw[CE.pe,PE.told];exact⟨λq=>by omega,CE.told hN a _ h.2.2.1,CE.told hN b _ h.2.2.2,trivial⟩
 | .tq a b,u,h=>by
  rw[CE.ok] at h;rw[CE.pe,PE.told];exact⟨λq=>by omega,CE.told hN a _ h.2.1,CE.told hN b _ h.2.2,trivial⟩
 | .call q l,u,h=>by
  rw[CE.ok] at h;rw[CE.pe]
  cases q with
  | true =>
   rw[bq rfl,PE.told];exact⟨λq=>by omega,FV hN l _ h.2.2.2.2.2⟩
  | false =>
   rw[aP (by decide),PE.told];exact⟨λq=>by omega,FV hN l _ h.2.2.2.2⟩
theorem FV {ah:List Tok}(hN:RI ah){cl:Bool}:∀ (l:List CE) (u:Nat),mF ah cl u l->FT (iZ ah u l)
 | [],u,_=>by rw[iZ,FT];trivial
 | e :: l,u,h=>by
  rw[mF] at h;rw[iZ,FT];exact⟨CE.told hN e _ h.1,FV hN l _ h.2⟩
end
def gY (aj:List Nd)(ks:List Int):List Int:=ks.filter λk=>(aj[k.toNat]?.map (·.kind)).getD 19 != 19
theorem RJ (h:pK aj k u .leaf):gY aj (k :: ks)=gY aj ks:=by
 rw[pK] at h;rw[gY,List.filter_cons_of_neg (by rw[h.2];simp)]
 rfl
theorem CE.node (e:CE):∃ k l,e.pt=.node k l/\7<=k/\k<=17:=by
 cases e with
 | call q l=>exact⟨13,_,by rw[CE.pt],by omega,by omega⟩
 | num=>exact⟨15,_,by rw[CE.pt],by omega,by omega⟩
 | truth=>exact⟨16,_,by rw[CE.pt],by omega,by omega⟩
 | res=>exact⟨17,_,by rw[CE.pt],by omega,by omega⟩
 | Cr=>exact⟨14,_,by rw[CE.pt],by omega,by omega⟩
 | group e=>exact⟨12,_,by rw[CE.pt],by omega,by omega⟩
 | un e=>exact⟨11,_,by rw[CE.pt],by omega,by omega⟩
 | bin a b=>exact⟨10,_,by rw[CE.pt],by omega,by omega⟩
 | iff a b c=>exact⟨8,_,by rw[CE.pt],by omega,by omega⟩
 | sZ a b=>exact⟨7,_,by rw[CE.pt],by omega,by omega⟩
 | tq a b=>exact⟨9,_,by rw[CE.pt],by omega,by omega⟩
theorem RL {e:CE}(h:pK aj k u e.pt):gY aj (k :: ks)=k :: gY aj ks:=by
 obtain⟨c,l,he,h1,h2⟩:=e.node;rw[he,pK] at h;obtain⟨ks',_,h3,_⟩:=h;rw[gY,List.filter_cons_of_pos (by rw[h3];simp;omega)]
 rfl
open Go.RowKit
variable{sz n B:Nat}{v tv nv:Value}{w w':World}{ah:List Tok}{P:Nat->Prop}{cs:List Value}
theorem Rec.agw {α:Type}{f:α->List Value}{l:List α}(h:Rec B w v sz f l)(hf:∀ x,(f x).length=sz)(hn:l.length=n) :
  ∃ ao cap,v=.slice ao n cap/\n<=cap/\(0<n->∃ b off,ao=some ⟨b,off,none⟩/\b<B /\
   ∀ k j u,(hk:k<l.length)->(f l[k])[j]?=some u->w.cell? ⟨b,off+k * sz+j,none⟩=some u):=by
 subst hn;exact h.form hf
theorem Rec.cells {α:Type}{ao:Option Addr}{cap:Nat}{f:α->List Value}{l:List α}(h:Rec B w (.slice ao n cap) sz f l)(hf:∀ x,(f x).length=sz)(h0:0<l.length) :
  ∃ b off,ao=some ⟨b,off,none⟩/\b<B/\∀ k j u,(hk:k<l.length)->(f l[k])[j]?=some u->w.cell? ⟨b,off+k * sz+j,none⟩=some u:=by
 obtain⟨ao',jc,hv,_,hc⟩:=h.form hf
 injection hv with q1 q2 q3
 subst q1;exact hc h0
def Wi (p:Nd × Value):List Value:=[.int .i64 p.1.kind,.int .i64 p.1.tok,p.2]
def Ints (B:Nat)(w:World)(v:Value)(ks:List Int):Prop:=Sl B w v 1 ks.length (ks.map (Value.int .i64))
def bE (B:Nat)(w:World)(v:Value)(ah:List Tok)(aj:List Nd):Prop :=
 ∃ (tv nv:Value) (l:List (Nd × Value)),v=.agg #[tv,nv]/\Rec B w tv 4 dW ah/\l.map Prod.fst=aj/\Rec B w nv 3 Wi l/\∀ p∈l,Ints B w p.2 p.1.aA
theorem Ints.below {B:Nat}{w w':World}{v:Value}{ks:List Int}(h:Ints B w v ks)(hb:Below B w w'):Ints B w' v ks:=Sl.below h hb
theorem Ints.mono {B B':Nat}{w:World}{v:Value}{ks:List Int}(h:Ints B w v ks)(hB:B<=B'):Ints B' w v ks:=Sl.mono h hB
theorem bE.below {B:Nat}{w w':World}{v:Value}{ah:List Tok}{aj:List Nd}(h:bE B w v ah aj)(hb:Below B w w'):bE B w' v ah aj:=by
 obtain⟨tv,nv,l,h1,h2,h3,h4,h5⟩:=h;exact⟨tv,nv,l,h1,h2.below hb,h3,h4.below hb,λp hp=>(h5 p hp).below hb⟩
theorem bE.mono {B B':Nat}{w:World}{v:Value}{ah:List Tok}{aj:List Nd}(h:bE B w v ah aj)(hB:B<=B'):bE B' w v ah aj:=by
 obtain⟨tv,nv,l,h1,h2,h3,h4,h5⟩:=h;exact⟨tv,nv,l,h1,h2.mono hB,h3,h4.mono hB,λp hp=>(h5 p hp).mono hB⟩
theorem Ints.form {ks:List Int}(h:Ints B w v ks):∃ ao cap,v=.slice ao ks.length cap/\ks.length<=cap /\
  (0<ks.length->∃ b off,ao=some ⟨b,off,none⟩/\b<B/\∀ j,(hj:j<ks.length)->w.cell? ⟨b,off+j,none⟩=some (.int .i64 ks[j])):=by
 obtain⟨ao,cap,hv,hn,hl,hc⟩:=h;refine⟨ao,cap,hv,hn,λh0=>?_⟩;obtain⟨b,off,ha,hB,hcell⟩:=hc h0;exact⟨b,off,ha,hB,λj hj=>by rw[hcell j (by simpa using hj)];simp⟩
theorem bE.node (h:bE B w (.agg #[tv,nv]) ah aj){i:Nat}(hi:i<aj.length) :
  ∃ b off cap kv,nv=.slice (some ⟨b,off,none⟩) aj.length cap/\b<B/\w.cell? ⟨b,off+i * 3,none⟩=some (.int .i64 aj[i].kind)/\w.cell? ⟨b,off+i * 3+1,none⟩=some (.int .i64 aj[i].tok)/\w.cell? ⟨b,off+i * 3+2,none⟩=some kv/\Ints B w kv aj[i].aA:=by
 obtain⟨tv',nv',l,h1,h2,h3,h4,h5⟩:=h;simp only[Value.agg.injEq] at h1
 obtain⟨rfl,rfl⟩:tv=tv'/\nv=nv':=by simpa using h1
 subst h3;rw[vL] at hi |-;obtain⟨ao,cap,rfl,_,hf⟩:=h4.form (λ_=>rfl);obtain⟨b,off,rfl,hb,hc⟩:=hf (by omega);refine⟨b,off,cap,l[i].2,rfl,hb,?_,?_,?_,?_⟩
 ·rw[show off+i * 3=off+i * 3+0 by rfl,hc i 0 (.int .i64 l[i].1.kind) hi rfl];simp
 ·rw[hc i 1 (.int .i64 l[i].1.tok) hi rfl];simp
 ·rw[hc i 2 l[i].2 hi rfl]
 ·rw[List.getElem_map];exact h5 _ (oQ hi)
theorem bE.slices (h:bE B w v ah aj) :
  ∃ at_ ct an cn,v=.agg #[.slice at_ ah.length ct,.slice an aj.length cn]:=by
 obtain⟨tv,nv,l,h1,h2,h3,h4,h5⟩:=h;obtain⟨a1,c1,rfl,_,_⟩:=h2.form (λ_=>rfl);obtain⟨a2,c2,rfl,_,_⟩:=h4.form (λ_=>rfl);subst h3;rw[vL];exact⟨a1,c1,a2,c2,h1⟩
theorem FW (i g:Nat)(k:Int)(w:World)(hg:w.cell? ⟨g,0,none⟩=some (.int .i64 i)) :
  Calls Tryz.prog 296 #[.int .i64 k,.pointer (some ⟨g,0,none⟩)] w λe w'=>e=.returned (.bool (decide (k<0) || decide ((i:Int)<=k)))/\w'=w:=by
 by_cases hk:k<0
 ·have d1:decide (k<0)=true:=kS hk
  go_enter Tryz.func296,Tryz.ntmps296;go_wp2
  all_goals (go_ret;refine⟨bF ?_,rfl⟩;simp[*])
 ·have d1:decide (k<0)=false:=fu hk
  go_enter Tryz.func296,Tryz.ntmps296;go_wp2
  all_goals (go_ret;refine⟨bF ?_,rfl⟩;simp[*])
def FX (i:Nat)(k:Int):Bool:=decide (k<0) || decide ((i:Int)<=k)
def agx (p:Bool)(w:World)(e:Ending)(w':World):Prop:=(∃ r:Int,e=.returned (.int .i64 r)/\(0<=r↔p=true)/\-1<=r)/\w'=w
theorem EH (i g B:Nat)(v:Value)(ks:List Int)(w:World)(hg:w.cell? ⟨g,0,none⟩=some (.int .i64 i))(hv:Ints B w v ks)(hn:ks.length<=1099511627776) :
  Calls Tryz.prog 274 #[v,.func (.func 296) #[] #[.pointer (some ⟨g,0,none⟩)]] w (agx (ks.any (FX i)) w):=by
 obtain⟨ao,cap,rfl,_,hf⟩:=hv.form;have HT:=ay (λk=>FW i g k w hg);have HF:=ay hf;clear hf hv hg;go_enter Tryz.func274,Tryz.ntmps274;go_wp2
 go_loop [8] (λq=>∃ k:Nat,k<=ks.length/\q=.int .i64 k/\∀ j,(hj:j<ks.length)->j<k->FX i ks[j]=false) (λq=>ks.length - (intOf q).toNat)
 case atStart=>exact⟨0,mD _,rfl,λj _ h=>absurd h (by omega)⟩
 case round =>
  obtain⟨k,hk,rfl,hj⟩:=hrel
  by_cases hlt:k<ks.length
  ·obtain⟨b,off,rfl,_,hc⟩:=HF.out (by omega)
   have hx:=hc k hlt
   have hI:(k:Int)<(ks.length:Int):=by omega
   have hT:=HT.out ks[k]
   cases ht:FX i ks[k] with
   | true =>
    have hany:ks.any (FX i)=true:=List.any_eq_true.2 ⟨_,oQ hlt,ht⟩;unfold FX at ht;rw[ht] at hT;generalize ks[k]=x at hx hT;have H1:=ay hT;have H2:=ay hany;clear hc hj ht hT hany;go_wp2_with (go_at_call 296;refine H1.out.mono ?_;rintro e w1 ⟨rfl,rfl⟩);go_ret;exact⟨⟨k,rfl,⟨λ_=>H2.out,λ_=>by omega⟩,by omega⟩,rfl⟩
   | false =>
    have HJ:Hid (∀ j,(hj:j<ks.length)->j<k+1->FX i ks[j]=false):=ay (λj hjl hjk=>by
     by_cases hkj:j=k
     ·subst hkj;exact ht
     ·exact hj j hjl (by omega))
    unfold FX at ht;rw[ht] at hT;generalize ks[k]=x at hx hT;have H1:=ay hT;clear hc hj ht hT;go_wp2_with (go_at_call 296;refine H1.out.mono ?_;rintro e w1 ⟨rfl,rfl⟩)
    go_round
    case rel=>exact⟨k+1,by omega,by go_num,HJ.out⟩
    case measure=>simp[intOf];omega
  ·have hany:ks.any (FX i)=false:=by
    rw[<- wT,List.any_eq_true];rintro⟨x,hx,hb⟩;obtain⟨j,hjl,e⟩:=List.mem_iff_getElem.1 hx;rw[<- e,hj j hjl (by omega)] at hb;cases hb
   have hI:decide ((k:Int)<(ks.length:Int))=false:=fu (by omega);have H2:=ay hany;clear hany hj;go_wp2;go_ret;exact⟨⟨-1,rfl,⟨λh=>by omega,λh=>by rw[H2.out] at h;cases h⟩,by omega⟩,rfl⟩
theorem zP (i g B:Nat)(v:Value)(ks:List Int)(w:World)(hg:w.cell? ⟨g,0,none⟩=some (.int .i64 i))(hv:Ints B w v ks)(hn:ks.length<=1099511627776) :
  Calls Tryz.prog 231 #[v,.func (.func 296) #[] #[.pointer (some ⟨g,0,none⟩)]] w λe w'=>e=.returned (.bool (ks.any (FX i)))/\w'=w:=by
 have H:=ay (EH i g B v ks w hg hv hn);clear hg hv;go_enter Tryz.func231,Tryz.ntmps231;go_wp2_with (go_at_call 274;refine H.out.mono ?_);rintro e w1 ⟨⟨r,rfl,hr,_⟩,rfl⟩
 have hq:(ks.any (FX i))=decide (0<=r):=by
  by_cases h:0<=r
  ·rw[kS h];exact hr.1 h
  ·rw[fu h,<- wT];exact λq=>h (hr.2 q)
 have HQ:=ay hq;clear hq hr;go_wp2;go_ret;exact⟨bF HQ.out.symm,rfl⟩
theorem RN (at_ an:Option Addr)(nt ct nn cn i B:Nat)(n:Nd)(kv:Value)(w:World)(hk:Ints B w kv n.aA)(hB:B<=w.heap.size)(hn:n.aA.length<=1099511627776) :
  Calls Tryz.prog 275 #[.agg #[.slice at_ nt ct,.slice an nn cn],.int .i64 i,.agg #[.int .i64 n.kind,.int .i64 n.tok,kv]] w λe w'=>e=.returned (.bool (jK nt i n))/\Below w.heap.size w w':=by
 obtain⟨kind,tok,ks⟩:=n;simp only at hk hn |-;obtain⟨ak,ck,rfl,_,_⟩:=hk.form
 by_cases h1:kind<1
 ·have hq:jK nt i ⟨kind,tok,ks⟩=false:=by simp[jK,h1]
  rw[hq];clear hq;have d1:decide (kind<1)=true:=kS h1;go_enter Tryz.func275,Tryz.ntmps275;go_wp2;go_ret;exact⟨rfl,(((bY _ _).alloc (bI _) _).alloc (by simp) _).alloc (by simp;omega) _⟩
 by_cases h2:19<kind
 ·have hq:jK nt i ⟨kind,tok,ks⟩=false:=by simp[jK,h2]
  rw[hq];clear hq;have d1:decide (kind<1)=false:=fu h1;have d2:decide (19<kind)=true:=kS h2;go_enter Tryz.func275,Tryz.ntmps275;go_wp2;go_ret;exact⟨rfl,(((bY _ _).alloc (bI _) _).alloc (by simp) _).alloc (by simp;omega) _⟩
 have d1:decide (kind<1)=false:=fu h1;have d2:decide (19<kind)=false:=fu h2
 by_cases h3:kind=19
 ·subst h3
  have hq:jK nt i ⟨19,tok,ks⟩=(decide ((ks.length:Int)=0) && (decide (0<=tok) && decide (tok<nt))):=by simp[jK]
  rw[hq];clear hq hk d1 d2
  by_cases h4:ks.length=0
  ·obtain rfl:ks=[]:=List.length_eq_zero_iff.1 h4
   clear h4
   by_cases h5:0<=tok
   ·have d5:decide (0<=tok)=true:=kS h5
    cases d6:decide (tok<(nt:Int)) with
    | true =>
     go_enter Tryz.func275,Tryz.ntmps275;go_wp2;go_ret;exact⟨bF (by simp[*]),(((bY _ _).alloc (bI _) _).alloc (by simp) _).alloc (by simp;omega) _⟩
    | false =>
     go_enter Tryz.func275,Tryz.ntmps275;go_wp2;go_ret;exact⟨bF (by simp[*]),(((bY _ _).alloc (bI _) _).alloc (by simp) _).alloc (by simp;omega) _⟩
   ·have d5:decide (0<=tok)=false:=fu h5
    go_enter Tryz.func275,Tryz.ntmps275;go_wp2;go_ret;exact⟨bF (by simp[*]),(((bY _ _).alloc (bI _) _).alloc (by simp) _).alloc (by simp;omega) _⟩
  ·have d4:((ks.length:Int) == 0)=false:=by simp[h4]
   have d5:decide ((ks.length:Int)=0)=false:=fu (by omega);rw[d5,Bool.false_and];clear d5;go_enter Tryz.func275,Tryz.ntmps275;go_wp2;go_ret;exact⟨rfl,(((bY _ _).alloc (bI _) _).alloc (by simp) _).alloc (by simp;omega) _⟩
 ·have d3:(kind == 19)=false:=by simp[h3]
  by_cases h4:tok=-1
  ·subst h4
   have hq:jK nt i ⟨kind,-1,ks⟩=!(ks.any (FX i)):=by
    unfold jK;rw[aP (by simp only;omega),aP h3]
    rfl
   rw[hq];clear hq;have HK:=ay hk;clear hk;go_enter Tryz.func275,Tryz.ntmps275;go_wp2_with (go_at_call 231;refine(zP i (w.heap.size+1) B _ ks _ ?c1 (HK.out.below ?c2) hn).mono ?_)
   case c2=>exact(((bY _ _).alloc hB _).alloc (by simp;omega) _).alloc (by simp;omega) _
   go_ret;exact⟨rfl,(((bY _ _).alloc (bI _) _).alloc (by simp) _).alloc (by simp;omega) _⟩
  ·have hq:jK nt i ⟨kind,tok,ks⟩=false:=by
    unfold jK;rw[aP (by simp only;omega),aP h3];simp[h4]
   rw[hq];clear hq hk
   have d4:(tok == -1)=false:=by simp[h4]
   go_enter Tryz.func275,Tryz.ntmps275;go_wp2;go_ret;exact⟨rfl,(((bY _ _).alloc (bI _) _).alloc (by simp) _).alloc (by simp;omega) _⟩
def pO (P:Nat->Prop)(w:World)(v:Value)(sz n:Nat)(cs:List Value):Prop :=
 ∃ ao cap,v=.slice ao n cap/\n<=cap/\cs.length=n * sz /\
  (0<n->∃ b off,ao=some ⟨b,off,none⟩/\P b/\b<w.heap.size/\∀ i,(h:i<cs.length)->w.cell? ⟨b,off+i,none⟩=some cs[i])
def bA (P:Nat->Prop)(w w':World):Prop:=w.heap.size<=w'.heap.size/\∀ b,P b->b<w.heap.size->w'.heap[b]?=w.heap[b]?
theorem bA.refl (P:Nat->Prop)(w:World):bA P w w:=⟨bI _,λ_ _ _=>rfl⟩
theorem bA.trans {P:Nat->Prop}{a b c:World}(h:bA P a b)(k:bA P b c):bA P a c:=⟨iY h.1 k.1,λn hn hl=>(k.2 n hn (zI hl h.1)).trans (h.2 n hn hl)⟩
theorem bA.of (h:Below w.heap.size w w'):bA P w w':=⟨h.size,λb _ hb=>h.block b hb⟩
theorem bA.uD (h:Below B w w')(hP:∀ b,P b->b<B):bA P w w':=⟨h.size,λb hb _=>h.block b (hP b hb)⟩
theorem bA.grown {row:Option Nat}(h:w.grownBy w' row)(hP:∀ b,P b->some b≠row):bA P w w':=⟨h.size,λb hb hl=>h.block b hl (hP b hb)⟩
theorem bA.set {a:Addr}(u:Value)(hP:∀ b,P b->b≠a.block):bA P w (w.setCell a u):=⟨by simp,λb hb _=>qo _ _ _ _ (hP b hb)⟩
theorem pO.frame (h:pO P w v sz n cs)(ha:bA P w w'):pO P w' v sz n cs:=by
 obtain⟨ao,cap,hv,hn,hl,hc⟩:=h;refine⟨ao,cap,hv,hn,hl,λh0=>?_⟩;obtain⟨b,off,e,hP,hlt,hcell⟩:=hc h0;exact⟨b,off,e,hP,zI hlt ha.1,λi hi=>(AJ (a:=⟨b,off+i,none⟩) (ha.2 b hP hlt)).trans (hcell i hi)⟩
theorem pO.imp {Q:Nat->Prop}(h:pO P w v sz n cs)(hq:∀ b,P b->b<w.heap.size->Q b):pO Q w v sz n cs:=by
 obtain⟨ao,cap,hv,hn,hl,hc⟩:=h;refine⟨ao,cap,hv,hn,hl,λh0=>?_⟩;obtain⟨b,off,e,hP,hlt,hcell⟩:=hc h0;exact⟨b,off,e,hq b hP hlt,hlt,hcell⟩
theorem pO.nil (P:Nat->Prop)(w:World)(sz:Nat):pO P w (.slice none 0 0) sz 0 []:=⟨none,0,rfl,bI _,by simp,λh=>absurd h (by omega)⟩
theorem pO.fZ {P:Nat->Prop}{B:Nat}{w:World}{e sz:Nat}{v:Value}{n:Nat}{cs:List Value}(h:w.ownsRow B e sz v n cs)(hP:∀ b,B<=b->P b):pO P w v sz n cs:=by
 obtain⟨ao,cap,hv,hn,hl,hc⟩:=Sl.fZ h;refine⟨ao,cap,hv,hn,hl,λh0=>?_⟩;obtain⟨b,off,e,hlt,hcell⟩:=hc h0;refine⟨b,off,e,hP b ?_,hlt,hcell⟩
 rcases h.2 with ⟨hv',h1⟩|⟨g,jc,cur,hv',hg,_⟩
 ·omega
 ·rw[hv,e] at hv'
  simp only[Value.slice.injEq,Option.some.injEq,Addr.mk.injEq] at hv';omega
theorem pO.form (h:pO P w v sz n cs):∃ ao cap,v=.slice ao n cap:=by
 obtain⟨ao,cap,hv,_⟩:=h;exact⟨ao,cap,hv⟩
structure Shape where
 sz:Nat
 cells:PE->Value->Value->List Value
 agg:PE->Value->Value->Value
 num:(Nat->Prop)->World->Int->Value->Prop
 len:∀ e m k,(cells e m k).length=sz
 frame:∀ {P:Nat->Prop} {w w':World} {n:Int} {m:Value},num P w n m->bA P w w'->num P w' n m
 imp:∀ {P Q:Nat->Prop} {w:World} {n:Int} {m:Value},num P w n m->(∀ b,P b->b<w.heap.size->Q b)->num Q w n m
def rX (S:Shape):List PE->List (Value × Value)->List Value
 | e :: es,p :: l=>S.cells e p.1 p.2++rX S es l
 | _,_=>[]
mutual
def qC (S:Shape)(P:Nat->Prop)(w:World)(mag kv:Value):PE->Prop
 | .mk _op _name adi num ajJ ah9 aA _at_=>S.num P w num mag/\∃ l:List (Value × Value),pO P w kv S.sz aA.length (rX S aA l)/\jl S P w l aA
def jl (S:Shape)(P:Nat->Prop)(w:World)(l:List (Value × Value)):List PE->Prop
 | []=>l=[]
 | e :: es=>∃ p l',l=p :: l'/\qC S P w p.1 p.2 e/\jl S P w l' es
end
mutual
theorem qC.frame {S:Shape}{P:Nat->Prop}{w w':World}(ha:bA P w w'):∀ {e:PE} {m k:Value},qC S P w m k e->qC S P w' m k e
 | .mk op name module num txt yes aA at_,m,k,h=>by
  rw[qC] at h |-;obtain⟨h1,l,h2,h3⟩:=h;exact⟨S.frame h1 ha,l,h2.frame ha,jl.frame ha h3⟩
theorem jl.frame {S:Shape}{P:Nat->Prop}{w w':World}(ha:bA P w w'):∀ {es:List PE} {l:List (Value × Value)},jl S P w l es->jl S P w' l es
 | [],l,h=>by rw[jl] at h |-;exact h
 | e :: es,l,h=>by
  rw[jl] at h |-;obtain⟨p,l',h1,h2,h3⟩:=h;exact⟨p,l',h1,qC.frame ha h2,jl.frame ha h3⟩
end
mutual
theorem qC.imp {S:Shape}{P Q:Nat->Prop}{w:World}(hq:∀ b,P b->b<w.heap.size->Q b):∀ {e:PE} {m k:Value},qC S P w m k e->qC S Q w m k e
 | .mk op name module num txt yes aA at_,m,k,h=>by
  rw[qC] at h |-;obtain⟨h1,l,h2,h3⟩:=h;exact⟨S.imp h1 hq,l,h2.imp hq,jl.imp hq h3⟩
theorem jl.imp {S:Shape}{P Q:Nat->Prop}{w:World}(hq:∀ b,P b->b<w.heap.size->Q b):∀ {es:List PE} {l:List (Value × Value)},jl S P w l es->jl S Q w l es
 | [],l,h=>by rw[jl] at h |-;exact h
 | e :: es,l,h=>by
  rw[jl] at h |-;obtain⟨p,l',h1,h2,h3⟩:=h;exact⟨p,l',h1,qC.imp hq h2,jl.imp hq h3⟩
end
theorem jl.len {S:Shape}{P:Nat->Prop}{w:World}:∀ {es:List PE} {l:List (Value × Value)},jl S P w l es->l.length=es.length
 | [],l,h=>by rw[jl] at h;subst h;rfl
 | e :: es,l,h=>by
  rw[jl] at h;obtain⟨p,l',rfl,_,h3⟩:=h;simp[jl.len h3]
theorem jl.snoc {S:Shape}{P:Nat->Prop}{w:World}:∀ {es:List PE} {l:List (Value × Value)} {e:PE} {m k:Value},jl S P w l es->qC S P w m k e->jl S P w (l++[(m,k)]) (es++[e])
 | [],l,e,m,k,h,h2=>by
  rw[jl] at h;subst h;rw[qW,qW,jl];exact⟨(m,k),[],rfl,h2,by rw[jl]⟩
 | x :: es,l,e,m,k,h,h2=>by
  rw[jl] at h;obtain⟨p,l',rfl,h3,h4⟩:=h;rw[kF,kF,jl];exact⟨p,_,rfl,h3,h4.snoc h2⟩
theorem FY (S:Shape):∀ (es:List PE) (l:List (Value × Value)) (e:PE) (m k:Value),l.length=es.length->rX S (es++[e]) (l++[(m,k)])=rX S es l++S.cells e m k
 | [],[],e,m,k,_=>by simp[rX]
 | x :: es,p :: l,e,m,k,h=>by
  simp only[kF,rX,FY S es l e m k (by simpa using h),om]
 | [],_ :: _,_,_,_,h=>by simp at h
 | _ :: _,[],_,_,_,h=>by simp at h
theorem Ol (S:Shape):∀ (es:List PE) (l:List (Value × Value)) (i j:Nat) (hl:l.length=es.length) (hi:i<es.length),j<S.sz->(rX S es l)[i * S.sz+j]?=(S.cells es[i] (l[i]'(by omega)).1 (l[i]'(by omega)).2)[j]?
 | [],[],i,j,_,h,_=>absurd h (by simp)
 | x :: es,p :: l,0,j,_,_,hj=>by
  simp only[rX,Nat.zero_mul,Nat.zero_add,List.getElem_cons_zero];rw[List.getElem?_append_left (by rw[S.len];exact hj)]
 | x :: es,p :: l,i+1,j,hl,hi,hj=>by
  simp only[rX,JG];rw[abj (by rw[S.len,Nat.succ_mul];omega),S.len,show (i+1) * S.sz+j - S.sz=i * S.sz+j by rw[Nat.succ_mul];omega];exact Ol S es l i j (by simpa using hl) (by simpa using hi) hj
 | [],_ :: _,_,_,h,_,_=>by simp at h
 | _ :: _,[],_,_,h,_,_=>by simp at h
theorem jl.get {S:Shape}{P:Nat->Prop}{w:World}:∀ {es:List PE} {l:List (Value × Value)} (h:jl S P w l es) (i:Nat) (hi:i<es.length),qC S P w (l[i]'(by rw[h.len];exact hi)).1 (l[i]'(by rw[h.len];exact hi)).2 es[i]
 | [],l,h,i,hi=>absurd hi (by simp)
 | e :: es,l,h,i,hi=>by
  have h':=h;rw[jl] at h';obtain⟨p,l',rfl,h3,h4⟩:=h'
  cases i with
  | zero=>exact h3
  | succ i=>exact h4.get i (by simpa using hi)
theorem qC.form {S:Shape}{e:PE}{mag kv:Value}(h:qC S P w mag kv e):S.num P w e.num mag/\∃ ao cap,kv=.slice ao e.aA.length cap/\e.aA.length<=cap /\
  (0<e.aA.length->∃ b off,ao=some ⟨b,off,none⟩/\P b/\b<w.heap.size/\∀ i,(hi:i<e.aA.length)->∃ m k,qC S P w m k e.aA[i]/\∀ j u,(S.cells e.aA[i] m k)[j]?=some u->w.cell? ⟨b,off+i * S.sz+j,none⟩=some u):=by
 cases e with
 | mk op name module num txt yes aA at_ =>
  rw[qC] at h;obtain⟨h1,l,⟨ao,cap,hv,hn,hl,hc⟩,h3⟩:=h;refine⟨h1,ao,cap,hv,hn,λh0=>?_⟩;obtain⟨b,off,ha,hP,hlt,hcell⟩:=hc h0;refine⟨b,off,ha,hP,hlt,λi hi=>?_⟩;have hll:=h3.len;refine⟨_,_,h3.get i hi,λj u hu=>?_⟩
  have hj:j<S.sz:=by
   rcases Nat.lt_or_ge j S.sz with h'|h'
   ·exact h'
   ·rw[List.getElem?_eq_none (by rw[S.len];exact h')] at hu;cases hu
  have hr:=Ol S aA l i j hll hi hj;have hu':=hr.trans hu;obtain⟨h',e⟩:=qm hu';have:=hcell (i * S.sz+j) h';rw[e] at this;rw[wU];exact this
def ow (P:Nat->Prop)(w:World)(n:Int)(m:Value):Prop :=
 ∃ ws:List Nat,pO P w m 1 ws.length (ws.map λd=>.int .u32 (d:Nat))/\dK ws=ws/\(∀ x∈ws,x<4294967296)/\jk ws=n.natAbs
def dX (l:aH):Value:=.string ⟨l.toArray⟩
def XA:Shape where
 sz:=8
 cells e m k:=[.int .i64 e.op,dX e.name,dX e.module,.bool (decide (e.num<0)),m,.bool e.yes,k,.int .i64 e.at_]
 agg e m k:=.agg #[.int .i64 e.op,dX e.name,dX e.module,.bool (decide (e.num<0)),m,.bool e.yes,k,.int .i64 e.at_]
 num:=ow
 len _ _ _:=rfl
 frame h ha:=by obtain⟨ws,h1,h2⟩:=h;exact⟨ws,h1.frame ha,h2⟩
 imp h hq:=by obtain⟨ws,h1,h2⟩:=h;exact⟨ws,h1.imp hq,h2⟩
def XR:Shape where
 sz:=7
 cells e _ k:=[.int .i64 e.op,dX e.name,dX e.module,dX e.txt,.bool e.yes,k,.int .i64 e.at_]
 agg e _ k:=.agg #[.int .i64 e.op,dX e.name,dX e.module,dX e.txt,.bool e.yes,k,.int .i64 e.at_]
 num _ _ _ _:=True
 len _ _ _:=rfl
 frame _ _:=trivial
 imp _ _:=trivial
theorem ow.zero (P:Nat->Prop)(w:World):ow P w 0 (.slice none 0 0):=⟨[],pO.nil P w 1,rfl,λx h=>(by cases h),rfl⟩
def EPost (S:Shape)(e:PE)(w:World)(r:Ending)(w':World):Prop:=∃ m k,r=.returned (S.agg e m k)/\qC S (λb=>w.heap.size<=b) w' m k e/\Below w.heap.size w w'
theorem pK.RO {n:Int}(h:pK aj n u .leaf):∃ i:Nat,n=i/\aj[i]?=some ⟨19,(u:Nat),[]⟩:=by
 rw[pK] at h;exact⟨n.toNat,by omega,h.2⟩
theorem bE.tok (h:bE B w (.agg #[tv,nv]) ah aj)(hu:u<ah.length) :
  ∃ b off cap,tv=.slice (some ⟨b,off,none⟩) ah.length cap/\b<B/\w.cell? ⟨b,off+u * 4,none⟩=some (.int .i64 ah[u].kind)/\w.cell? ⟨b,off+u * 4+1,none⟩=some (dX ah[u].lead)/\w.cell? ⟨b,off+u * 4+2,none⟩=some (dX ah[u].text)/\w.cell? ⟨b,off+u * 4+3,none⟩=some (.int .i64 ah[u].place):=by
 obtain⟨tv',nv',l,h1,h2,h3,h4,h5⟩:=h
 obtain⟨rfl,rfl⟩:tv=tv'/\nv=nv':=by simpa using h1
 obtain⟨ao,cap,rfl,_,hf⟩:=h2.form (λ_=>rfl);obtain⟨b,off,rfl,hb,hc⟩:=hf (by omega);exact⟨b,off,cap,rfl,hb,hc u 0 _ hu rfl,hc u 1 _ hu rfl,hc u 2 _ hu rfl,hc u 3 _ hu rfl⟩
def qN (t:Tok):Value:=.agg #[.int .i64 t.kind,dX t.lead,dX t.text,.int .i64 t.place]
theorem lJ (B:Nat)(tv nv:Value)(ah:List Tok)(aj:List Nd)(i u:Nat)(w:World)(h:bE B w (.agg #[tv,nv]) ah aj)(_hB:B<=w.heap.size)(hn:aj[i]?=some ⟨19,(u:Nat),[]⟩)(hu:u<ah.length) :
  Calls Tryz.prog 61 #[.agg #[tv,nv],.int .i64 i] w λe w'=>e=.returned (qN ah[u])/\Below w.heap.size w w':=by
 obtain⟨hi,hni⟩:=qm hn;obtain⟨b,off,cap,kv,rfl,hb,_,x1,_,_⟩:=h.node hi;obtain⟨b2,off2,cap2,rfl,hb2,t0,t1,t2,t3⟩:=h.tok hu;rw[hni] at x1;simp only at x1;generalize ah[u]=t at t0 t1 t2 t3;obtain⟨c,x,y,q⟩:=t;simp only[dX] at t0 t1 t2 t3;have hal:=((bY w.heap.size w).alloc (bI _) (.cells #[.slice (some ⟨b2,off2,none⟩) ah.length cap2,.slice (some ⟨b,off,none⟩) aj.length cap] 126)).alloc (by simp) (.cells #[.int .i64 0,.string ⟨#[]⟩,.string ⟨#[]⟩,.int .i64 0] 131);have x1':=jy hal x1;have y0:=jy hal t0;have y1:=jy hal t1;have y2:=jy hal t2;have y3:=jy hal t3
 have i1:(i:Int)<(aj.length:Int):=by omega
 have i2:(u:Int)<(ah.length:Int):=by omega
 have hnr:((w.alloc (.cells #[.slice (some ⟨b2,off2,none⟩) ah.length cap2,.slice (some ⟨b,off,none⟩) aj.length cap] 126)).alloc (.cells #[.int .i64 0,.string ⟨#[]⟩,.string ⟨#[]⟩,.int .i64 0] 131)).heap[w.heap.size]?=some (.cells #[.slice (some ⟨b2,off2,none⟩) ah.length cap2,.slice (some ⟨b,off,none⟩) aj.length cap] 126 (0,0)):=(iB _ _ _ (by simp)).trans (aZ w _);have hnw:=aZ (w.alloc (.cells #[.slice (some ⟨b2,off2,none⟩) ah.length cap2,.slice (some ⟨b,off,none⟩) aj.length cap] 126)) (.cells #[.int .i64 0,.string ⟨#[]⟩,.string ⟨#[]⟩,.int .i64 0] 131);rw[oU] at hnw;clear t0 t1 t2 t3 x1 hn hni h;go_enter Tryz.func61,Tryz.ntmps61;go_wp2;generalize (w.alloc _).alloc _=w1 at hnr hnw hal x1' y0 y1 y2 y3 |-
 have r0:w1.cell? ⟨w.heap.size,0,none⟩=some (.slice (some ⟨b2,off2,none⟩) ah.length cap2):=by rw[bg hnr];rfl
 have r1:w1.cell? ⟨w.heap.size,1,none⟩=some (.slice (some ⟨b,off,none⟩) aj.length cap):=by rw[bg hnr];rfl
 go_still_tail 12,(by kernel_rfl)
 change wpList _ _ _ _ _ w1.drew;have Zb:=hal.drew;have zQ:w1.drew.heap[w.heap.size+1]?=some (.cells #[.int .i64 0,.string ⟨#[]⟩,.string ⟨#[]⟩,.int .i64 0] 131 (0,0)):=hnw;generalize w1.drew=w2 at Zb zQ |-
 have f0:w2.cell? ⟨w.heap.size+1,0,none⟩=some (.int .i64 0):=by rw[bg zQ];rfl
 have f1:w2.cell? ⟨w.heap.size+1,1,none⟩=some (.string ⟨#[]⟩):=by rw[bg zQ];rfl
 have f2:w2.cell? ⟨w.heap.size+1,2,none⟩=some (.string ⟨#[]⟩):=by rw[bg zQ];rfl
 have f3:w2.cell? ⟨w.heap.size+1,3,none⟩=some (.int .i64 0):=by rw[bg zQ];rfl
 have z0:∀ j,w2.frozen? ⟨w.heap.size+1,j,none⟩=false:=by intro j;simp[World.frozen?,zQ]
 clear hnw zQ i1 i2 y0 y1 y2 y3 r0 r1 x1';go_wp2;refine o9 (v:=.agg #[.int .i64 c,.string ⟨x.toArray⟩,.string ⟨y.toArray⟩,.int .i64 q]) (by simp[results,Tryz.results61,go_sem,f0,f1,f2,f3]) rfl ⟨rfl,?_⟩;exact(((Zb.setCell (by simp) _).setCell (by simp) _).setCell (by simp) _).setCell (by simp) _
theorem Tryz.Wj (a b c d:Value)(w:World):(Instr.field 131 (.agg #[a,b,c,d]) 2).run Tryz.prog w=.ok c w:=by kernel_rfl
theorem yH (B:Nat)(tv nv:Value)(ah:List Tok)(aj:List Nd)(i u:Nat)(w:World)(h:bE B w (.agg #[tv,nv]) ah aj)(hB:B<=w.heap.size)(hn:aj[i]?=some ⟨19,(u:Nat),[]⟩)(hu:u<ah.length) :
  Calls Tryz.prog 105 #[.agg #[tv,nv],.int .i64 i] w λe w'=>e=.returned (dX ah[u].text)/\Below w.heap.size w w':=by
 have hb1:=(bY w.heap.size w).alloc (bI _) (.cells #[tv,nv] 126);have HT:=ay (lJ B tv nv ah aj i u _ (h.below (hb1.mono hB)) (by have:=hb1.size;omega) hn hu);obtain⟨a1,c1,a2,c2,e⟩:=h.slices
 obtain⟨rfl,rfl⟩:tv=_/\nv=_:=by simpa using e
 generalize ah[u]=t at HT |-
 have hf:=λw=>Tryz.Wj (.int .i64 t.kind) (dX t.lead) (dX t.text) (.int .i64 t.place) w
 unfold qN at HT;clear h hn e;go_enter Tryz.func105,Tryz.ntmps105;go_wp2_with (go_at_call 61;refine HT.out.mono ?_;rintro e w1 ⟨rfl,hb2⟩);go_ret;exact⟨rfl,hb1.trans (hb2.mono hb1.size)⟩
open Go.Shelf
attribute [local go_sem] Oper.semAt_some
def uP (ks:List Int)(k:Nat):List (Int × Int):=(List.range k).map λ(j:Nat)=>((ks.length:Int) - 1 - (j:Int),ks[ks.length - 1 - j]?.getD 0)
theorem RP (ks:List Int)(k:Nat):uP ks (k+1)=uP ks k++[((ks.length:Int) - 1 - (k:Int),ks[ks.length - 1 - k]?.getD 0)]:=by simp[uP,List.range_succ]
theorem yI (ks:List Int)(k:Nat):(uP ks k).length=k:=by simp[uP]
theorem Wm (ks:List Int)(k:Nat)(hk:k<=ks.length):(uP ks k).map Prod.snd=ks.reverse.take k:=by
 apply List.ext_getElem
 ·simp[uP,hk]
 ·intro i h1 h2
  simp only[vL,yI] at h1;simp[uP,show ks.length - 1 - i<ks.length by omega]
def rY (n₀ Bs:Nat)(W W':World):Prop:=Below n₀ W W'/\W'.cell? ⟨Bs,0,none⟩=W.cell? ⟨Bs,0,none⟩
theorem rY.refl (n₀ Bs:Nat)(W:World):rY n₀ Bs W W:=⟨bY _ _,rfl⟩
theorem rY.trans {n₀ Bs:Nat}{A B C:World}(h:rY n₀ Bs A B)(k:rY n₀ Bs B C):rY n₀ Bs A C:=⟨h.1.trans k.1,k.2.trans h.2⟩
theorem Zc (F:Fence)(n:Nat)(h8:F.fn 308)(hro:F.round=none)(hn:1<=n)(l Bs n₀ b off cap:Nat)(ks:List Int)(Zd:ks.length<=1099511627776)(hb:b<n₀)(J Jx:List (Int × Int)->World->Prop)
  (hY:∀ pre x W,J pre W->pre.length<ks.length->YieldAt F (n - 1) Tryz.prog l #[.int .i64 x.1,.int .i64 x.2] W λe W' =>
   (e=.returned (.bool true)/\J (pre++[x]) W'/\rY n₀ Bs W W')\/(e=.returned (.bool false)/\Jx (pre++[x]) W'))
  (W:World) (hBs:W.cell? ⟨Bs,0,none⟩=some (.slice (some ⟨b,off,none⟩) ks.length cap)) (hc:∀ j,j<ks.length->W.cell? ⟨b,off+j,none⟩=some (.int .i64 (ks[j]?.getD 0))) (h0:J [] W) :
  CallsIn F n Tryz.prog 308 #[.func (.yield l) #[] #[],.pointer (some ⟨Bs,0,none⟩)] W λe W'=>(∃ v,e=.returned v) /\
   ((∃ ys,ys=uP ks ks.length/\J ys W')\/(∃ pre,(∃ k,k<=ks.length/\pre=uP ks k)/\Jx pre W')):=by
 refine callsIn_of_wp Tryz.func308 rfl h8 ?_ hro;simp only[Tryz.ntmps308,List.size_toArray,dN,iF,Nat.reduceAdd,Nat.reduceSub,Array.replicate_succ,Array.replicate_zero,List.push_toArray,List.append_toArray,qW,kF]
 gi_wp2
 gi_loopw [3] (λi wr=>∃ k:Nat,k<=ks.length/\i=.int .i64 ((ks.length:Int) - 1 - (k:Int))/\J (uP ks k) wr/\rY n₀ Bs W wr)
  (λi _=>(intOf i+1).toNat)
 case atStart=>exact⟨0,mD _,by simp,h0,rY.refl _ _ _⟩
 case round =>
  obtain⟨k,hk,rfl,hJs,hnx⟩:=hrel;have ajK:=hnx.2.trans hBs
  by_cases hlt:k<ks.length
  ·obtain⟨m,hm⟩:∃ m:Nat,ks.length=m+k+1:=⟨ks.length - 1 - k,by omega⟩
   have e1:(ks.length:Int) - 1 - (k:Int)=(m:Int):=by omega
   have e2:ks.length - 1 - k=m:=by omega
   have hsucc:=RP ks k;rw[e1,e2] at hsucc;rw[e1];have hcx:=(hnx.1.cell (p:=⟨b,off+m,none⟩) hb).trans (hc m (by omega));obtain⟨fn,tmps,assign,body,hy,hR⟩:=hY _ ((m:Int),ks[m]?.getD 0) wr hJs (by rw[yI];exact hlt);dsimp only at hy
   have hmI:(m:Int)<(ks.length:Int):=by omega
   have hm0:(0:Int)<=(m:Int):=by omega
   have HS:=ay hsucc;have HM:=ay hm;clear hsucc e1 e2 hm hc
   gi_wp2
   refine hR.mono ?_;rintro e W3 (⟨rfl,hJ3,fM⟩|⟨rfl,hJx3⟩)
   ·gi_wp2
    go_roundw
    case rel=>exact⟨k+1,by omega,congrArg (Value.int .i64) (by have:=HM.out;omega),by rw[HS.out];exact hJ3,hnx.trans fM⟩
    case measure=>simp only[intOf];omega
   ·gi_wp2
    refine o9 (results_none rfl _ _ _) rfl ?_;exact⟨⟨_,rfl⟩,.inr ⟨_,⟨k+1,by omega,HS.out.symm⟩,hJx3⟩⟩
  ·obtain rfl:k=ks.length:=by omega
   have e1:(ks.length:Int) - 1 - (ks.length:Int)=-1:=by omega
   rw[e1];clear e1 hlt
   gi_wp2
   go_end0
   exact⟨⟨_,rfl⟩,.inl ⟨_,rfl,hJs⟩⟩
theorem Mc (F:Fence)(n:Nat)(h8:F.fn 308)(hro:F.round=none)(l Bs:Nat)(ao:Option Addr)(cap:Nat)(J:List (Int × Int)->World->Prop)(W:World)(hBs:W.cell? ⟨Bs,0,none⟩=some (.slice ao 0 cap))(h0:J [] W) :
  CallsIn F n Tryz.prog 308 #[.func (.yield l) #[] #[],.pointer (some ⟨Bs,0,none⟩)] W λe W'=>(∃ v,e=.returned v)/\J [] W':=by
 refine callsIn_of_wp Tryz.func308 rfl h8 ?_ hro;simp only[Tryz.ntmps308,List.size_toArray,dN,iF,Nat.reduceAdd,Nat.reduceSub,Array.replicate_succ,Array.replicate_zero,List.push_toArray,List.append_toArray,qW,kF]
 gi_wp2
 gi_loopw [3] (λi wr=>i=.int .i64 (-1)/\J [] wr) (λ_ _=>0)
 case atStart=>exact⟨rfl,h0⟩
 case round =>
  obtain⟨rfl,hJs⟩:=hrel
  gi_wp2
  go_end0
  exact⟨⟨_,rfl⟩,hJs⟩
theorem adj (F:Fence)(n:Nat)(h6:F.fn 298)(hro:F.round=none)(a:Option Addr)(len cap:Nat)(w:World) :
  CallsIn F n Tryz.prog 298 #[.slice a len cap] w λe w'=>e=.returned (.func (.func 308) #[] #[.pointer (some ⟨w.heap.size,0,none⟩)])/\w'=w.alloc (.cells #[.slice a len cap] 127):=by
 refine callsIn_of_wp Tryz.func298 rfl h6 ?_ hro;simp only[Tryz.ntmps298,List.size_toArray,dN,iF,Nat.reduceAdd,Nat.reduceSub,Array.replicate_succ,Array.replicate_zero,List.push_toArray,List.append_toArray,qW,kF]
 gi_wp2
 go_ret;exact⟨rfl,rfl⟩
theorem RQ (F:Fence)(n:Nat)(h8:F.fn 308)(hro:F.round=none)(hn:1<=n)(Bs n₀:Nat)(sv:Value)(ks:List Int)(Zd:ks.length<=1099511627776)(w:World)(hBs:Bs<w.heap.size)(hn₀:n₀<=w.heap.size)
  (hc:w.cell? ⟨Bs,0,none⟩=some sv) (hI:Ints n₀ w sv ks) :
  SeqStopsK F n Tryz.prog 308 #[.pointer (some ⟨Bs,0,none⟩)] (λx:Int × Int=>#[Value.int .i64 x.1,Value.int .i64 x.2]) (rY n₀ Bs) (λys=>ys=uP ks ks.length)
   (λpre=>∃ k,k<=ks.length/\pre=uP ks k) ks.length w:=λl J Jx W hW _ _ hY h0=>by
 have hc':=(hW.cell (p:=⟨Bs,0,none⟩) hBs).trans hc;obtain⟨ao,cap,rfl,hcap,hf⟩:=(hI.below (hW.mono hn₀)).form
 by_cases h:0<ks.length
 ·obtain⟨b,off,rfl,hb,hcs⟩:=hf h
  exact Zc F n h8 hro hn l Bs n₀ b off cap ks Zd hb J Jx hY W hc' (λj hj=>by rw[hcs j hj];simp[hj]) h0
 ·obtain rfl:ks=[]:=List.length_eq_zero_iff.1 (by omega)
  exact(Mc F n h8 hro l Bs ao cap J W hc' h0).mono λe W' ⟨he,hj⟩=>⟨he,.inl ⟨_,rfl,hj⟩⟩
theorem Tryz.oC:(Tryz.prog.info? 3).map (λi=>(i.zero,i.size,i.bytes))=some (some (.int .i64 0),1,8):=by kernel_rfl
theorem Om (aj:List Nd)(ks:List Int)(k:Int):gY aj (ks++[k])=gY aj ks++if (aj[k.toNat]?.map (·.kind)).getD 19 != 19 then [k] else []:=by
 unfold gY;rw[List.filter_append]
 congr 1
 rw[List.filter_cons,List.filter_nil]
def agy (ks:List Int)(w:World)(e:Ending)(w':World):Prop:=∃ v,e=.returned v/\pO (λb=>w.heap.size<=b) w' v 1 ks.length (ks.map (Value.int .i64))/\Below w.heap.size w w'
theorem pO.ints {P:Nat->Prop}{w:World}{v:Value}{ks:List Int}(h:pO P w v 1 ks.length (ks.map (Value.int .i64))):∃ ao cap,v=.slice ao ks.length cap/\ks.length<=cap /\
  (0<ks.length->∃ b off,ao=some ⟨b,off,none⟩/\P b/\b<w.heap.size/\∀ j,(hj:j<ks.length)->w.cell? ⟨b,off+j,none⟩=some (.int .i64 ks[j])):=by
 obtain⟨ao,cap,hv,hn,hl,hc⟩:=h;refine⟨ao,cap,hv,hn,λh0=>?_⟩;obtain⟨b,off,ha,hP,hlt,hcell⟩:=hc h0;exact⟨b,off,ha,hP,hlt,λj hj=>by rw[hcell j (by simpa using hj)];simp⟩
theorem RS (B:Nat)(tv nv:Value)(ah:List Tok)(aj:List Nd)(i:Nat)(w:World)(h:bE B w (.agg #[tv,nv]) ah aj)(hB:B<=w.heap.size)(hi:i<aj.length)
  (hk:∀ k∈aj[i].aA,0<=k/\k<(aj.length:Int)) (hl:aj[i].aA.length<=1099511627776) :
  Calls Tryz.prog 236 #[.agg #[tv,nv],.int .i64 i] w (agy (gY aj aj[i].aA) w):=by
 obtain⟨i0,ae0,hz0,hz1,hz2⟩:=info_parts Tryz.oC;have HT:=ay h;obtain⟨a1,c1,_,_,e⟩:=h.slices;obtain⟨b,off,cap,kv,rfl,hb,_,_,x2,hkv⟩:=h.node hi
 obtain⟨rfl,-⟩:tv=.slice a1 ah.length c1/\_:=by simpa using e
 generalize aj[i].aA=ks at hk hl hkv |-;obtain⟨ak,ck,rfl,_,hf⟩:=hkv.form;have HF:=ay hf;have HK:=ay hk;have hal:=(bY w.heap.size w).alloc (bI _) (.cells #[.slice a1 ah.length c1,.slice (some ⟨b,off,none⟩) aj.length cap] 126);have x2':=jy hal x2;have hnr:=aZ w (.cells #[.slice a1 ah.length c1,.slice (some ⟨b,off,none⟩) aj.length cap] 126)
 have r0:(w.alloc (.cells #[.slice a1 ah.length c1,.slice (some ⟨b,off,none⟩) aj.length cap] 126)).cell? ⟨w.heap.size,1,none⟩=some (.slice (some ⟨b,off,none⟩) aj.length cap):=by rw[bg hnr];rfl
 have i1:(i:Int)<(aj.length:Int):=by omega
 clear hf hk h e hkv x2;go_enter Tryz.func236,Tryz.ntmps236;go_wp2;generalize w.alloc _=w1 at hnr hal r0 x2' |-;have hsz1:=hal.size
 go_loopw [5,16] (λv k wr=>∃ j:Nat,j<=ks.length/\k=.int .i64 j/\wr.ownsRow w.heap.size 3 1 v (gY aj (ks.take j)).length ((gY aj (ks.take j)).map (Value.int .i64))/\wr.heap[w.heap.size]?=some (.cells #[.slice a1 ah.length c1,.slice (some ⟨b,off,none⟩) aj.length cap] 126 (0,0))/\Below w.heap.size w wr) (λ_ k _=>ks.length - (intOf k).toNat)
 case atStart=>exact⟨0,mD _,rfl,World.ownsRow_nil _ _ _ _,hnr,hal⟩
 case round =>
  obtain⟨j,hj,rfl,hown,hrr,hbl⟩:=hrel;have hz:=hbl.size;have hlt:=(bU hrr).1
  by_cases hjl:j<ks.length
  ·obtain⟨bk,ok,rfl,hbk,hcell⟩:=HF.out (by omega)
   have hx:=(hbl.cell (p:=⟨bk,ok+j,none⟩) (by show bk<_;omega)).trans (hcell j hjl);have hkj:=HK.out ks[j] (oQ hjl);have hsn:=Om aj (ks.take j) ks[j];rw[<- EF hjl] at hsn
   have Md:(j:Int)<(ks.length:Int):=by omega
   generalize ks[j]=q at hx hkj hsn
   obtain⟨m,rfl⟩:∃ m:Nat,q=(m:Int):=⟨q.toNat,by omega⟩
   have hm:m<aj.length:=by omega
   obtain⟨b',off',jc,kv',e',_,y0,_,_,_⟩:=HT.out.node hm;simp only[Value.slice.injEq,Option.some.injEq,Addr.mk.injEq,and_true] at e'
   obtain⟨⟨rfl,rfl⟩,rfl⟩:(b=b'/\off=off')/\cap=jc:=by simpa using e'
   have y0':=(hbl.cell (p:=⟨b,off+m * 3,none⟩) (by show b<_;omega)).trans y0
   have hmI:(m:Int)<(aj.length:Int):=by omega
   have r1:wr.cell? ⟨w.heap.size,1,none⟩=some (.slice (some ⟨b,off,none⟩) aj.length cap):=by rw[bg hrr];rfl
   have hlen:(gY aj (ks.take j)).length<=j:=by
    have:=List.length_filter_le (λk:Int=>(aj[k.toNat]?.map (·.kind)).getD 19 != 19) (ks.take j);rw[qX] at this;show (List.filter _ _).length<=j;omega
   simp only[Int.toNat_natCast,AB hm,Option.map_some,Option.getD_some] at hsn;generalize aj[m].kind=kd at y0' hsn;clear y0 hcell e'
   by_cases hd:kd=19
   ·subst hd
    simp only[bne_self_eq_false,Bool.false_eq_true,if_false,List.append_nil] at hsn;have HS:=ay hsn;clear hsn;go_wp2
    go_roundw
    case rel=>exact⟨j+1,by omega,by go_num,by rw[HS.out];exact hown,hrr,hbl⟩
    case measure=>simp[intOf];omega
   ·have hd1:(kd != 19)=true:=by simp[hd]
    have hd2:(kd == 19)=false:=by simp[hd]
    rw[hd1] at hsn;simp only[if_true] at hsn;have HS:=ay hsn;clear hsn;generalize gY aj (ks.take j)=acc at hown hlen HS;go_wp2_with (at_builtin;refine wpList_append_own _ rfl _ _ 127 rfl w.heap.size 3 i0 (.int .i64 0) 1 8 Tryz.underlying127 ae0 hz0 hz1 hz2 rfl (by decide) _ _ _ rfl (hown.alloc _) ⟨wr.heap.size,0,none⟩ 1 1 [.int .i64 m] rfl rfl ?c1 ?c2 ?c3 ?c4 ?c5 ?_)
    case c1 =>
     intro j' u hj';have:=wS (cs:=#[.int .i64 (m:Int)]) (t:=3) (fr:=(0,0)) (aZ wr _) j' u (by simpa using hj');exact this
    case c2=>simp[Value.oneCell']
    case c3=>unfold maxLen;omega
    case c4=>omega
    case c5=>simp;omega
    intro v' w2 hown2 hgrow2 _;have hb2:Below w.heap.size w w2:=(hbl.alloc hz _).grown hgrow2 (by simp;omega) (λq hq=>by have:=(hown.lt q hq).1;omega);have Wn:=jf (hown.alloc _) hgrow2 ((iB wr (.cells #[.int .i64 m] 3) _ hlt).trans hrr) (by decide);have H2:=ay hown2;clear hgrow2 hown2 hown;go_wp2
    go_roundw
    case rel=>exact⟨j+1,by omega,by go_num,by rw[HS.out,bQ,zJ];exact H2.out,Wn,hb2⟩
    case measure=>simp[intOf];omega
  ·have:j=ks.length:=by omega
   subst this;rw[Fe] at hown;have Md:decide ((ks.length:Int)<(ks.length:Int))=false:=fu (by omega);go_wp2;go_ret;exact⟨_,rfl,pO.fZ hown (λb hb=>hb),hbl⟩
variable{st:aN}{l:List aH}{k:Nat}
theorem tK {e:Nat}(he:e≠0)(h:(gT ah e st).fE=0):False:=iH he st h
theorem jm (hE:iV ah)(h:(aM ah l st).2.fE=0) :
  fK st [.leaf] (aM ah l st).2/\(aM ah l st).1=((st.aj.length:Nat):Int)/\aJ ah st.used∈l/\st.used+1<ah.length/\st.fE=0:=by
 unfold aM at h |-
 split at h
 ·rename_i hc
  rw[bq hc];obtain⟨_,e2⟩:=kP hE (bO hc.2);obtain⟨h1,h2⟩:=fK.leaf (ah:=ah) (st:=st) (by omega);refine⟨h1,h2,?_,e2,hc.1⟩;have:=hc.2;simp only[bG,qM,uK] at this;exact this.2
 ·exact(tK (by decide) h).elim
theorem Bc (hE:iV ah)(hk:k≠5)(h:(bC ah k st).2.fE=0) :
  fK st [.leaf] (bC ah k st).2/\(bC ah k st).1=((st.aj.length:Nat):Int)/\gq ah st.used=k/\st.used+1<ah.length/\st.fE=0:=by
 unfold bC at h |-
 split at h
 ·rename_i hc
  rw[bq hc];have e2:=hE.before (u:=st.used) (by rw[hc.2];exact hk);obtain⟨h1,h2⟩:=fK.leaf (ah:=ah) (st:=st) (by omega);exact⟨h1,h2,hc.2,e2,hc.1⟩
 ·exact(tK (by decide) h).elim
theorem jg (h:bG ah st l=true):aJ ah st.used∈l:=by
 simp only[bG,qM,uK] at h;exact h.2
theorem jL (hE:iV ah)(h:gq ah st.used≠5) :
  fK st [.leaf] (aD ah st).2/\(aD ah st).1=((st.aj.length:Nat):Int)/\st.used+1<ah.length:=by
 have e2:=hE.before h;obtain⟨h1,h2⟩:=fK.leaf (ah:=ah) (st:=st) (by omega);exact⟨h1,h2,e2⟩
theorem Bd {d n:Nat}(h:(aV ah d n st).fE=0):aV ah d n st=st:=by
 unfold aV at h |-
 split at h
 ·exact(tK (by decide) h).elim
 ·rename_i hn;rw[aP hn]
theorem tL {k:Int}{l:List Int}(h:(bM k l st).2.fE=0):st.fE=0:=(aI k l st).zero h
theorem fK.res {a b:aN}{l:List PT}{e:CE}{ids:List Int}(h:fK a l b)(ae4:ids=dJ a.aj.length l)(he:e.pt=.node k l)(hok:e.ok ah a.aC a.used)(hf:(bM k ids b).2.fE=0)(hu:a.used<ah.length->b.used<ah.length) :
  YL ah a (bM k ids b) e:=by
 subst ae4;obtain⟨h1,h2⟩:=h.node (tL hf) k;refine⟨by rw[he];exact h1,by rw[h2,he,PT.nd];omega,hok,λq=>?_⟩;have:=h1.used;rw[this];have h3:=h.used;have h4:=hu q;rw[h3] at h4
 simpa [cO,PT.lv] using h4
theorem uQ (b:Nat)(t:PT)(l:List PT):dJ b (t :: l)=(((b+t.nd:Nat):Int) - 1) :: dJ (b+t.nd) l:=by rw[dJ]
def aia (ah:List Tok):Task->aN->Int × aN->Prop
 | .loop _ _ a,st,r=>∀ st0 e0,YL ah st0 (a,st) e0->∃ e,YL ah st0 r e
 | .name _,st,r=>gq ah st.used=1->∃ e,YL ah st r e
 | _,st,r=>∃ e,YL ah st r e
theorem Wo:∀ l:Nat,∀ x∈zL l,x∈rV
 | 0=>by decide
 | 1=>by decide
 | 2=>by decide
 | 3=>by decide
 | _+4=>by
  intro x hx
  have:∀ x∈([[42],[47],[37]]:List aH),x∈rV:=by decide
  exact this x hx
theorem zo (ah:List Tok)(hE:iV ah)(one:aN->Option (Int × aN))(h1:∀ s k,one s=some k->dR s k.2)(h2:∀ s k,one s=some k->k.2.fE=0->∃ e,YL ah s k e) :
  ∀ (r:Nat) (aA:List Int) (st:aN) (l:List Int × aN),bD ah one r aA st=some l->l.2.fE=0 ->
   ∃ es:List CE,es≠[]/\es.length<=r/\fK st (fO es) l.2/\l.1=aA++dJ st.aj.length (fO es)/\mF ah st.aC st.used es/\(st.used<ah.length->l.2.used<ah.length)
 | 0,aA,st,l,h,hl=>by
  rw[bD] at h
  injection h with h
  subst h
  exfalso
  have hl:(if st.fE=0 then gT ah 15 st else st).fE=0:=hl
  split at hl
  ·exact tK (by decide) hl
  ·rename_i hf;exact hf hl
 | r+1,aA,st,l,h,hl=>by
  rw[bD] at h
  split at h
  ·rename_i hf
   injection h with h;subst h
   exact absurd hl hf
  ·obtain⟨k,hk,h⟩:=bS h
   split at h
   ·rename_i hn
    obtain⟨g1,i1,u1⟩:=jL hE (bO hn.2);obtain⟨e,he1,he2,he3,he4⟩:=h2 _ _ hk hn.1;obtain⟨es,hne,hlen,hg,hi,hok,hu⟩:=zo ah hE one h1 h2 r _ _ _ h hl
    obtain⟨f,es,rfl⟩:∃ f fs,es=f :: fs:=by cases es with
     | nil=>exact absurd rfl hne
     | cons f fs=>exact⟨f,fs,rfl⟩
    have a1:=he1.len;have a2:=he1.used;have a3:=he1.aC;have b1:=g1.len;have b2:=g1.used;have b3:=g1.aC;simp only[fC,cO,PT.nd,PT.lv,qp] at a1 a2 b1 b2;refine⟨e :: f :: es,by simp,by simpa using hlen,?_,?_,?_,λq=>hu (by have:=he4 q;omega)⟩
    ·rw[pJ]
     exact(he1.append g1).append hg
    ·rw[hi,pJ,uQ,uQ,he2,i1,b1,a1]
     simp only[PT.nd,om,kF,qW]
     congr 2
     congr 1
     omega
    ·rw[b2,b3,a2,a3] at hok
     exact⟨he3,hok⟩
   ·injection h with h;subst h
    obtain⟨e,he1,he2,he3,he4⟩:=h2 _ _ hk hl;refine⟨[e],by simp,by simp,by rw[vP];exact he1,?_,⟨he3,trivial⟩,he4⟩;rw[vP,uQ,he2];simp[dJ]
theorem RU (ah:List Tok)(hE:iV ah)(one:aN->Option (Int × aN))(h1:∀ s k,one s=some k->dR s k.2)(h2:∀ s k,one s=some k->k.2.fE=0->∃ e,YL ah s k e)
  (st:aN) (l:List Int × aN) (h:jH ah one st=some l) (hl:l.2.fE=0) :
  ∃ es:List CE,es.length<=8/\fK st (fO es) l.2/\l.1=dJ st.aj.length (fO es)/\mF ah st.aC st.used es/\(st.used<ah.length->l.2.used<ah.length):=by
 unfold jH at h
 split at h
 ·injection h with h;subst h
  exact⟨[],by simp,by simpa [fO] using fK.nil st,by simp[fO,dJ],trivial,id⟩
 ·obtain⟨es,_,h1,h2,h3,h4,h5⟩:=zo ah hE one h1 h2 _ _ _ _ h hl
  exact⟨es,h1,h2,by rw[h3];simp,h4,h5⟩
theorem lK (ah:List Tok)(hE:iV ah)(d:Nat):∀ (g:Nat) (t:Task) (st:aN) (r:Int × aN),run ah d g t st=some r->r.2.fE=0->aia ah t st r
 | 0,_,_,_,h,_=>by rw[run] at h;cases h
 | g+1,.expr aF,st,r,h,hr=>by
  have ih:=lK ah hE d g;have ex:=aW ah d g
  have hd0:(aV ah d aF st).fE=0:=by
   apply LY
   intro q;rw[run,bq q] at h
   injection h with h;subst h
   exact q hr
  rw[run,Bd hd0] at h;rw[Bd hd0] at hd0;rw[aP (by simp[hd0])] at h
  split at h
  ·have q:=ih _ _ _ h hr;exact q
  rename_i hcl
  have hcl:st.aC=false:=by simpa using hcl
  split at h
  ·rename_i hn
   obtain⟨x,h1,h⟩:=bS h;obtain⟨f,h2,h⟩:=bS h
   injection h with h;subst h
   have z2:=(aI _ _ _).zero hr;have z1:=(ex _ _ _ h2).zero z2;have z0:=(aK _ _ _).zero z1;obtain⟨g1,i1,u1⟩:=jL hE (bO hn);obtain⟨g2,i2,k2,u2,y2⟩:=Bc hE (by decide) ((aK _ _ _).zero ((ex _ _ _ h1).zero z0));obtain⟨g3,i3,k3,u3,y3⟩:=jm hE ((ex _ _ _ h1).zero z0);obtain⟨e1,g4,i4,o4,w4⟩:=ih _ _ _ h1 z0;obtain⟨g5,i5,k5,u5,y5⟩:=jm hE z1;obtain⟨e2,g6,i6,o6,w6⟩:=ih _ _ _ h2 z2;have G:=((((g1.append g2).append g3).append g4).append g5).append g6;generalize aM ah [YK] x.2=m5 at *;generalize aM ah [[61]] (bC ah 1 (aD ah st).2).2=m3 at *;generalize bC ah 1 (aD ah st).2=m2 at *;generalize aD ah st=m1 at *;have L1:=g1.len;have L2:=g2.len;have L3:=g3.len;have L4:=g4.len;have L5:=g5.len;have U1:=g1.used;have U2:=g2.used;have U3:=g3.used;have U4:=g4.used;have U5:=g5.used;have C1:=g1.aC;have C2:=g2.aC;have C3:=g3.aC;have C4:=g4.aC;have C5:=g5.aC;simp only[fC,cO,PT.nd,PT.lv,qp] at L1 L2 L3 L4 L5 U1 U2 U3 U4 U5;refine⟨.sZ e1 e2,G.res (l:=[.leaf,.leaf,.leaf,e1.pt,.leaf,e2.pt]) ?_ (by simp[CE.pt]) ?_ hr (λ_=>w6 (by omega))⟩
   ·have p1:=e1.pt.iI
    have p2:=e2.pt.iI;simp only[dJ,PT.nd,List.cons.injEq,and_true]
    refine⟨?_,?_,?_,?_,?_,?_⟩<;>omega
   ·refine⟨hcl,by rw[<- U1];exact k2,?_,?_⟩
    ·rw[C3,C2,C1,U3,U2,U1] at o4;exact o4
    ·rw[C5,C4,C3,C2,C1,U5,U4,U3,U2,U1] at o6;exact o6
  split at h
  ·rename_i hn
   obtain⟨x,h1,h⟩:=bS h;obtain⟨y,h2,h⟩:=bS h;obtain⟨f,h3,h⟩:=bS h
   injection h with h;subst h
   have z3:=(aI _ _ _).zero hr;have z2:=(ex _ _ _ h3).zero z3;have z2':=(aK _ _ _).zero z2;have z1:=(ex _ _ _ h2).zero z2';have z0:=(aK _ _ _).zero z1;obtain⟨g1,i1,u1⟩:=jL hE (bO hn);obtain⟨e1,g2,i2,o2,w2⟩:=ih _ _ _ h1 z0;obtain⟨g3,i3,k3,u3,y3⟩:=jm hE z1;obtain⟨e2,g4,i4,o4,w4⟩:=ih _ _ _ h2 z2';obtain⟨g5,i5,k5,u5,y5⟩:=jm hE z2;obtain⟨e3,g6,i6,o6,w6⟩:=ih _ _ _ h3 z3;have G:=((((g1.append g2).append g3).append g4).append g5).append g6;generalize aM ah [Kg] y.2=m5 at *;generalize aM ah [Ke] x.2=m3 at *;generalize aD ah st=m1 at *;have L1:=g1.len;have L2:=g2.len;have L3:=g3.len;have L4:=g4.len;have L5:=g5.len;have U1:=g1.used;have U2:=g2.used;have U3:=g3.used;have U4:=g4.used;have U5:=g5.used;have C1:=g1.aC;have C2:=g2.aC;have C3:=g3.aC;have C4:=g4.aC;have C5:=g5.aC;simp only[fC,cO,PT.nd,PT.lv,qp] at L1 L2 L3 L4 L5 U1 U2 U3 U4 U5;refine⟨.iff e1 e2 e3,G.res (l:=[.leaf,e1.pt,.leaf,e2.pt,.leaf,e3.pt]) ?_ (by simp[CE.pt]) ?_ hr (λ_=>w6 (by omega))⟩
   ·have p1:=e1.pt.iI
    have p2:=e2.pt.iI;have p3:=e3.pt.iI;simp only[dJ,PT.nd,List.cons.injEq,and_true]
    refine⟨?_,?_,?_,?_,?_,?_⟩<;>omega
   ·refine⟨hcl,?_,?_,?_⟩
    ·rw[C1,U1] at o2;exact o2
    ·rw[C3,C2,C1,U3,U2,U1] at o4;exact o4
    ·rw[C5,C4,C3,C2,C1,U5,U4,U3,U2,U1] at o6;exact o6
  split at h
  ·rename_i hn
   obtain⟨x,h1,h⟩:=bS h;obtain⟨f,h2,h⟩:=bS h
   injection h with h;subst h
   have z2:=(aI _ _ _).zero hr;have z1:=(ex _ _ _ h2).zero z2;have z0:=(aK _ _ _).zero z1;obtain⟨g1,i1,u1⟩:=jL hE (bO hn);obtain⟨e1,g2,i2,o2,w2⟩:=ih _ _ _ h1 z0;obtain⟨g3,i3,k3,u3,y3⟩:=jm hE z1;obtain⟨e2,g4,i4,o4,w4⟩:=ih _ _ _ h2 z2;have G:=((g1.append g2).append g3).append g4;generalize aM ah [YK] x.2=m3 at *;generalize aD ah st=m1 at *;have L1:=g1.len;have L2:=g2.len;have L3:=g3.len;have U1:=g1.used;have U2:=g2.used;have U3:=g3.used;have C1:=g1.aC;have C2:=g2.aC;have C3:=g3.aC;simp only[fC,cO,PT.nd,PT.lv,qp] at L1 L2 L3 U1 U2 U3;refine⟨.tq e1 e2,G.res (l:=[.leaf,e1.pt,.leaf,e2.pt]) ?_ (by simp[CE.pt]) ?_ hr (λ_=>w4 (by omega))⟩
   ·have p1:=e1.pt.iI
    have p2:=e2.pt.iI;simp only[dJ,PT.nd,List.cons.injEq,and_true]
    refine⟨?_,?_,?_,?_⟩<;>omega
   ·refine⟨hcl,?_,?_⟩
    ·rw[C1,U1] at o2;exact o2
    ·rw[C3,C2,C1,U3,U2,U1] at o4;exact o4
  ·have q:=ih _ _ _ h hr;exact q
 | g+1,.formula aF,st,r,h,hr=>by
  have ih:=lK ah hE d g;have ex:=aW ah d g;rw[run] at h;obtain⟨a,h1,h⟩:=bS h
  split at h
  ·rename_i hn
   have hd0:(aV ah d (aF+1) (aD ah a.2).2).fE=0:=by
    apply LY
    intro q;rw[bq q] at h
    injection h with h;subst h
    exact q hr
   rw[aP (by simp[hd0]),Bd hd0] at h;obtain⟨b,h2,h⟩:=bS h
   injection h with h;subst h
   have z2:=(aI _ _ _).zero hr;obtain⟨e1,g1,i1,o1,w1⟩:=ih _ _ _ h1 hn.1;obtain⟨g2,i2,u2⟩:=jL hE (bO hn.2);have hx:=jg hn.2;obtain⟨e2,g3,i3,o3,w3⟩:=ih _ _ _ h2 z2;have G:=(g1.append g2).append g3;generalize aD ah a.2=m2 at *;have L1:=g1.len;have L2:=g2.len;have U1:=g1.used;have U2:=g2.used;have C1:=g1.aC;have C2:=g2.aC;simp only[fC,cO,PT.nd,PT.lv,qp] at L1 L2 U1 U2;refine⟨.bin e1 e2,G.res (l:=[e1.pt,.leaf,e2.pt]) ?_ (by simp[CE.pt]) ?_ hr (λ_=>w3 (by omega))⟩
   ·have p1:=e1.pt.iI
    have p2:=e2.pt.iI;simp only[dJ,PT.nd,List.cons.injEq,and_true]
    refine⟨?_,?_,?_⟩<;>omega
   ·refine⟨?_,o1,?_⟩
    ·rw[<- U1]
     simp only[DN] at hx;rw[hx]
     decide
    ·rw[C2,C1,U2,U1] at o3;exact o3
  ·injection h with h;subst h
   have q:=ih _ _ _ h1 hr;exact q
 | g+1,.part l aF,st,r,h,hr=>by
  have ih:=lK ah hE d g;rw[run] at h
  split at h
  ·have q:=ih _ _ _ h hr;exact q
  ·split at h
   ·have q:=ih _ _ _ h hr;exact q
   ·have q:=ih _ _ _ h hr;exact q
 | g+1,.row l aF,st,r,h,hr=>by
  have ih:=lK ah hE d g;have ex:=aW ah d g;rw[run] at h;obtain⟨a,h1,h⟩:=bS h;obtain⟨e1,he⟩:=ih _ _ _ h1 ((ex _ _ _ h).zero hr);exact ih _ _ _ h hr st e1 he
 | g+1,.loop l aF a,st,r,h,hr=>by
  have ih:=lK ah hE d g;have ex:=aW ah d g;intro st0 e0 h0;rw[run] at h
  split at h
  ·rename_i hn
   obtain⟨b,h1,h⟩:=bS h
   have z:(bM 10 [a,(aD ah st).1,b.1] b.2).2.fE=0:=by
    split at h
    ·injection h with h;subst h;exact hr
    ·exact(ex _ _ _ h).zero hr
   obtain⟨g2,i2,u2⟩:=jL hE (bO hn.2);have hx:=jg hn.2;obtain⟨g1,i1,o1,w1⟩:=h0;obtain⟨e2,g3,i3,o3,w3⟩:=ih _ _ _ h1 ((aI _ _ _).zero z);have G:=(g1.append g2).append g3;generalize aD ah st=m2 at *;simp only at g1 i1;have L1:=g1.len;have L2:=g2.len;have U1:=g1.used;have U2:=g2.used;have C1:=g1.aC;have C2:=g2.aC;simp only[fC,cO,PT.nd,PT.lv,qp] at L1 L2 U1 U2
   have hR:YL ah st0 (bM 10 [a,m2.1,b.1] b.2) (.bin e0 e2):=by
    refine G.res (l:=[e0.pt,.leaf,e2.pt]) ?_ (by simp[CE.pt]) ?_ z (λ_=>w3 (by omega))
    ·have p1:=e0.pt.iI
     have p2:=e2.pt.iI;simp only[dJ,PT.nd,List.cons.injEq,and_true]
     refine⟨?_,?_,?_⟩<;>omega
    ·refine⟨?_,o1,?_⟩
     ·rw[<- U1]
      exact Wo l _ hx
     ·rw[C2,C1,U2,U1] at o3;exact o3
   split at h
   ·injection h with h;subst h;exact⟨_,hR⟩
   ·exact ih _ _ _ h hr st0 _ hR
  ·injection h with h;subst h
   exact⟨e0,h0⟩
 | g+1,.neg aF,st,r,h,hr=>by
  have ih:=lK ah hE d g;rw[run] at h
  split at h
  ·rename_i hn
   have hd0:(aV ah d (aF+1) (aD ah st).2).fE=0:=by
    apply LY
    intro q;rw[bq q] at h
    injection h with h;subst h
    exact q hr
   rw[aP (by simp[hd0]),Bd hd0] at h;obtain⟨b,h2,h⟩:=bS h
   injection h with h;subst h
   obtain⟨g2,i2,u2⟩:=jL hE (bO hn.2);have hx:=jg hn.2;obtain⟨e2,g3,i3,o3,w3⟩:=ih _ _ _ h2 ((aI _ _ _).zero hr);have G:=g2.append g3;generalize aD ah st=m2 at *;have L2:=g2.len;have U2:=g2.used;have C2:=g2.aC;simp only[fC,cO,PT.nd,PT.lv,qp] at L2 U2;refine⟨.un e2,G.res (l:=[.leaf,e2.pt]) ?_ (by simp[CE.pt]) ?_ hr (λ_=>w3 (by omega))⟩
   ·have p2:=e2.pt.iI
    simp only[dJ,PT.nd,List.cons.injEq,and_true]
    refine⟨?_,?_⟩<;>omega
   ·refine⟨.inl (by simpa using hx),?_⟩
    rw[C2,U2] at o3;exact o3
  ·have q:=ih _ _ _ h hr;exact q
 | g+1,.factor aF,st,r,h,hr=>by
  have ih:=lK ah hE d g;rw[run] at h
  split at h
  ·rename_i hn
   have hd0:(aV ah d (aF+1) (aD ah st).2).fE=0:=by
    apply LY
    intro q;rw[bq q] at h
    injection h with h;subst h
    exact q hr
   rw[aP (by simp[hd0]),Bd hd0] at h;obtain⟨b,h2,h⟩:=bS h
   injection h with h;subst h
   obtain⟨g2,i2,u2⟩:=jL hE (bO hn.2);have hx:=jg hn.2;obtain⟨e2,g3,i3,o3,w3⟩:=ih _ _ _ h2 ((aI _ _ _).zero hr);have G:=g2.append g3;generalize aD ah st=m2 at *;have L2:=g2.len;have U2:=g2.used;have C2:=g2.aC;simp only[fC,cO,PT.nd,PT.lv,qp] at L2 U2;refine⟨.un e2,G.res (l:=[.leaf,e2.pt]) ?_ (by simp[CE.pt]) ?_ hr (λ_=>w3 (by omega))⟩
   ·have p2:=e2.pt.iI
    simp only[dJ,PT.nd,List.cons.injEq,and_true]
    refine⟨?_,?_⟩<;>omega
   ·refine⟨.inr (by simpa using hx),?_⟩
    rw[C2,U2] at o3;exact o3
  ·have q:=ih _ _ _ h hr;exact q
 | g+1,.atom aF,st,r,h,hr=>by
  have ih:=lK ah hE d g;have ex:=aW ah d g
  have single:∀ (k:Nat) (e:CE),gq ah st.used≠5->e.pt=.node k [.leaf]->e.ok ah st.aC st.used->(bM k [(aD ah st).1] (aD ah st).2).2.fE=0->YL ah st (bM k [(aD ah st).1] (aD ah st).2) e:=by
   intro k e h5 he hok hz;obtain⟨g2,i2,u2⟩:=jL hE h5;have U2:=g2.used;simp only[cO,PT.lv,qp] at U2;refine g2.res ?_ he hok hz (λ_=>by omega);rw[i2];simp only[dJ,PT.nd,List.cons.injEq,and_true];omega
  rw[run] at h
  split at h
  ·rename_i hf
   injection h with h;subst h
   exact absurd hr hf
  split at h
  ·rename_i hk
   injection h with h;subst h
   exact⟨.num,single 15 .num (by rw[gq];omega) (by simp[CE.pt]) hk hr⟩
  split at h
  ·rename_i hn
   injection h with h;subst h
   refine⟨.truth,single 16 .truth (bO hn) (by simp[CE.pt]) ?_ hr⟩;have:=jg hn
   simpa [CE.ok] using this
  split at h
  ·rename_i hn
   injection h with h;subst h
   refine⟨.res,single 17 .res (bO hn.2) (by simp[CE.pt]) ?_ hr⟩;have:=jg hn.2;exact⟨hn.1,by simpa using this⟩
  split at h
  ·rename_i hn
   obtain⟨b,h1,h⟩:=bS h
   injection h with h;subst h
   have z1:=(aI _ _ _).zero hr;obtain⟨g1,i1,u1⟩:=jL hE (bO hn);have hx:=jg hn;obtain⟨e2,g2,i2,o2,w2⟩:=ih _ _ _ h1 ((aK _ _ _).zero z1);obtain⟨g3,i3,k3,u3,y3⟩:=jm hE z1;have G:=(g1.append g2).append g3;generalize aM ah [[41]] b.2=m3 at *;generalize aD ah st=m1 at *;have L1:=g1.len;have L2:=g2.len;have U1:=g1.used;have U2:=g2.used;have U3:=g3.used;have C1:=g1.aC;simp only[fC,cO,PT.nd,PT.lv,qp] at L1 L2 U1 U2 U3;refine⟨.group e2,G.res (l:=[.leaf,e2.pt,.leaf]) ?_ (by simp[CE.pt]) ?_ hr (λ_=>by omega)⟩
   ·have p2:=e2.pt.iI
    simp only[dJ,PT.nd,List.cons.injEq,and_true]
    refine⟨?_,?_,?_⟩<;>omega
   ·refine⟨by simpa using hx,?_⟩
    rw[C1,U1] at o2;exact o2
  split at h
  ·rename_i hk
   have q:=ih _ _ _ h hr;exact q hk
  ·injection h with h;subst h
   exact(tK (by decide) hr).elim
 | g+1,.name aF,st,r,h,hr=>by
  have ih:=lK ah hE d g;have ex:=aW ah d g;rw[run] at h;intro hk1
  ·obtain⟨g1,i1,u1⟩:=jL hE (st:=st) (by omega)
   have L1:=g1.len;have U1:=g1.used;have C1:=g1.aC;simp only[fC,cO,PT.nd,PT.lv,qp] at L1 U1;generalize aD ah st=m1 at *
   split at h
   ·injection h with h;subst h
    refine⟨.Cr,g1.res (l:=[.leaf]) ?_ (by simp[CE.pt]) hk1 hr (λ_=>by omega)⟩;rw[i1];simp only[dJ,PT.nd,List.cons.injEq,and_true];omega
   ·rename_i hn
    have hcl:st.aC=false:=by
     rw[<- C1,<- wT]
     exact λq=>hn (.inl q)
    obtain⟨l,h1,h⟩:=bS h
    injection h with h;subst h
    have z3:=(aI _ _ _).zero hr;have z2:=(aK _ _ _).zero z3
    have hone:∀ s k,run ah d g (.expr (aF+1)) s=some k->k.2.fE=0->∃ e,YL ah s k e:=λs k hk hz=>ih _ _ _ hk hz
    obtain⟨es,hlen,g4,i4,o4,w4⟩:=RU ah hE _ (λs k hk=>ex _ _ _ hk) hone _ _ h1 z2;obtain⟨g5,i5,k5,u5,y5⟩:=jm hE z3;have z1:=(kN ah _ (λs k hk=>ex _ _ _ hk) _ _ h1).zero z2;obtain⟨g3,i3,k3,u3,y3⟩:=jm hE z1;generalize aM ah [[41]] l.2=m5 at *;generalize hq:mq ah m1=q at *;generalize aM ah [[40]] q.2=m3 at *;have L3:=g3.len;have L4:=g4.len;have U3:=g3.used;have U4:=g4.used;have U5:=g5.used;have C3:=g3.aC;simp only[fC,cO,PT.nd,PT.lv,qp] at L3 U3 U5;unfold mq at hq
    split at hq
    ·rename_i agz
     subst hq;have hx:=jg agz;obtain⟨p1,j1,v1⟩:=jL hE (st:=m1.2) (bO agz);obtain⟨p2,j2,kk2,v2,yy2⟩:=Bc hE (k:=1) (by decide) y3;simp only at g3 i3 k3 u3 L3 U3 C3;generalize bC ah 1 (aD ah m1.2).2=n2 at *;generalize aD ah m1.2=n1 at *;have M1:=p1.len;have M2:=p2.len;have V1:=p1.used;have V2:=p2.used;have D1:=p1.aC;have D2:=p2.aC;simp only[fC,cO,PT.nd,PT.lv,qp] at M1 M2 V1 V2;have G:=((((g1.append p1).append p2).append g3).append g4).append g5;refine⟨.call true es,G.res (l:=[.leaf,.leaf,.leaf]++[.leaf]++fO es++[.leaf]) ?_ (by simp[CE.pt]) ?_ hr (λ_=>by omega)⟩
     ·simp only[qA,i4,i1,i3,i5,j1,j2,pI]
      simp only[dJ,fC,PT.nd,kF,qW,qp];rw[L4,L3,M2,M1,L1]
      have e0:∀ a b:Nat,a=b->dJ a (fO es)=dJ b (fO es):=λa b h=>by rw[h]
      rw[e0 (st.aj.length+1+1+1+1) (st.aj.length+(1+(1+1)+1)) (by omega)];simp only[List.cons.injEq,List.append_cancel_left_eq,and_true]
      refine⟨?_,?_,?_,?_,?_⟩<;>omega
     ·refine⟨hcl,hk1,hlen,?_⟩
      rw[C3,D2,D1,C1,U3,V2,V1,U1] at o4;rw[V1,U1] at kk2;rw[U1] at hx;exact⟨by simpa using hx,kk2,o4⟩
    ·subst hq
     simp only at g3 i3 k3 u3 L3 U3 C3;have G:=((g1.append g3).append g4).append g5;refine⟨.call false es,G.res (l:=[.leaf]++[.leaf]++fO es++[.leaf]) ?_ (by simp[CE.pt]) ?_ hr (λ_=>by omega)⟩
     ·simp only[qA,i4,i1,i3,i5,pI]
      simp only[dJ,fC,PT.nd,kF,qW,qp];rw[L4,L3,L1]
      have e0:∀ a b:Nat,a=b->dJ a (fO es)=dJ b (fO es):=λa b h=>by rw[h]
      rw[e0 (st.aj.length+1+1) (st.aj.length+(1+1)) (by omega)];simp only[List.cons.injEq,List.append_cancel_left_eq,and_true]
      refine⟨?_,?_,?_⟩<;>omega
     ·refine⟨hcl,hk1,hlen,?_⟩
      rw[C3,C1,U3,U1] at o4;rw[U1] at k3;exact⟨by simpa using k3,o4⟩
