/- Walks and plain laws: RefLex3, RefLex4, RefLex5, RefLex6, ShowPlain, ShowA, ReadW1, ReadW2, ParseW7, ParseW8. -/
import Derived.Test.YtmhdgeekclhbbaaGreatDoorR05
set_option maxHeartbeats 16000000
set_option maxRecDepth 100000
set_option linter.unusedVariables false
set_option linter.unusedSimpArgs false
namespace Go.Proofs.YtmhdgeekclhbbaaGreatDoor
open Go.RowKit
def lN (T:List UInt8):Nat:=match nT T with
 | some x=>x.length
 | none=>0
theorem JU:∀ x∈nS,x.length=2:=by decide
theorem MW {T x:List UInt8}(h:x∈nS)(hx:x <+: T):lN T=2:=by
 rw[lN,nT,iK,List.find?_append]
 cases hf:nS.find? (fun x=>x.isPrefixOf T) with
 | none =>
  rw[List.find?_eq_none] at hf;exact absurd (List.isPrefixOf_iff_prefix.2 hx) (hf x h)
 | some y =>
  rw[Option.some_or];exact JU y (List.mem_of_find?_eq_some hf)
theorem MX {c:UInt8}{r:List UInt8}(h:∀ x∈nS,¬ x <+: c :: r):lN (c :: r)=if c∈JF then 1 else 0:=by
 rw[lN,nT,iK,List.find?_append]
 have hf:nS.find? (fun x=>x.isPrefixOf (c :: r))=none:=by
  rw[List.find?_eq_none];intro x hx q;exact h x hx (List.isPrefixOf_iff_prefix.1 q)
 rw[hf,Option.none_or]
 by_cases hc:c∈JF
 ·rw[if_pos hc]
  cases hq:(JF.map fun c=>[c]).find? (fun x=>x.isPrefixOf (c :: r)) with
  | none =>
   rw[List.find?_eq_none] at hq;exact absurd (List.isPrefixOf_iff_prefix.2 ⟨r,rfl⟩) (hq [c] (List.mem_map.2 ⟨c,hc,rfl⟩))
  | some y =>
   obtain⟨d,_,rfl⟩:=List.mem_map.1 (List.mem_of_find?_eq_some hq)
   rfl
 ·rw[if_neg hc]
  have hq:(JF.map fun c=>[c]).find? (fun x=>x.isPrefixOf (c :: r))=none:=by
   rw[List.find?_eq_none];intro x hx q;obtain⟨d,hd,rfl⟩:=List.mem_map.1 hx;have:=List.isPrefixOf_iff_prefix.1 q;obtain⟨t,e⟩:=this
   injection e with e1 e2
   exact hc (e1 ▸ hd)
  rw[hq]
theorem UF {x:List UInt8}(hx:x∈nS)(c:UInt8):¬ x <+: [c]:=fun q=>by
 have:=q.length_le;rw[JU x hx] at this;simp at this
theorem MZ {x:List UInt8}(hx:x∈nS)(c d:UInt8)(r:List UInt8):x <+: c :: d :: r↔x=[c,d]:=by
 constructor
 ·intro q
  have h1:=List.prefix_iff_eq_take.1 q;rw[JU x hx] at h1;exact h1
 ·rintro rfl
  exact⟨r,rfl⟩
theorem M0 (s:ByteArray)(p:Nat)(w:World)(hs:s.size≤1099511627776)(hp:p<s.size) :
  Calls Tryz.prog 187 #[.string s,.int .i64 p] w fun e w'=>e=.returned (.int .i64 (lN (s.data.toList.drop p)))∧Below w.heap.size w w':=by
 generalize hR:lN (s.data.toList.drop p)=R;rw[drop_byte hp] at hR;have HR:=ay hR;clear hR;go_enter Tryz.func187,Tryz.ntmps187;go_wp2;generalize hw:w.alloc _=wx
 have hh:wx.heap[w.heap.size]?=some (.cells (rowOf nS) 304 (0,0)):=by rw[← hw];exact aY w _
 have hb:Below w.heap.size w wx:=by rw[← hw];exact(bI _ _).alloc (bD _) _
 clear hw
 go_loopw [6] (fun i wr=>∃ k:Nat,k≤6∧i=.int .i64 k∧(∀ j,(hj:j<nS.length)→j<k→¬ nS[j] <+: (s[p]'hp) :: s.data.toList.drop (p+1))∧wr.heap[w.heap.size]?=some (.cells (rowOf nS) 304 (0,0))∧Below w.heap.size w wr) (fun i _=>6 - (intOf i).toNat)
 case atStart=>exact⟨0,by omega,rfl,fun j _ h=>absurd h (by omega),hh,hb⟩
 case round =>
  clear hh hb;obtain⟨k,hk,rfl,hj,hh,hb⟩:=hrel
  by_cases hlt:k<6
  ·have hkl:k<nS.length:=hlt
   have hI:(k:Int)<6:=by omega
   have hc:wr.cell? ⟨w.heap.size,k,none⟩=some (.string ⟨nS[k].toArray⟩):=by rw[aV hh];exact MV _ _ hkl
   have w1:IntKind.i64.wrap ((p:Int)+1)=(p:Int)+1:=IntWalk.i64_in _ (by omega);have w2:IntKind.i64.wrap ((p:Int)+2)=(p:Int)+2:=IntWalk.i64_in _ (by omega);have HH:=ay hh
   by_cases hlt2:p+1<s.size
   ·have hd:=drop_byte hlt2
    have hI2:(p:Int)+1 < ↑s.size:=by omega
    have hI3:(p:Int)+2≤↑s.size:=by omega
    have hI4:((p:Int)+2).toNat=p+2:=by omega
    have hy:(s.extract p (p+2)).data.toList=[s[p]'hp,s[p+1]'hlt2]:=by
     rw[dL,List.drop_take,drop_byte hp,hd]
     simp
    have hs2:((s.extract p (p+2)).toList == (ByteArray.mk nS[k].toArray).toList)=decide (nS[k]=[s[p]'hp,s[p+1]'hlt2]):=by
     rw[Lib.toList_data,Lib.toList_data,hy]
     by_cases q:nS[k]=[s[p]'hp,s[p+1]'hlt2]
     ·rw[iX q,beq_iff_eq];exact q.symm
     ·rw[dA q,← Bool.not_eq_true,beq_iff_eq];exact fun e=>q e.symm
    by_cases he:nS[k]=[s[p]'hp,s[p+1]'hlt2]
    ·rw[iX he] at hs2
     have hR2:R=2:=by
      rw[← HR.out];refine MW (mX hkl) ?_;rw[hd];exact(MZ (mX hkl) _ _ _).2 he
     generalize ByteArray.mk nS[k].toArray=y at hc hs2;have HR2:=ay hR2;clear hR2 he hh hj hd hy;go_wp2
     go_quiet (fail)
     go_wp2;go_ret;exact⟨lJ (by rw[HR2.out];rfl),below_drewN hb _⟩
    ·rw[dA he] at hs2
     have HJ:Hid (∀ j,(hj:j<nS.length)→j<k+1→¬ nS[j] <+: (s[p]'hp) :: s.data.toList.drop (p+1)):=ay (fun j hjl hjk=>by
      by_cases hkj:j=k
      ·subst hkj
       rw[hd,MZ (mX hjl)];exact he
      ·exact hj j hjl (by omega))
     generalize ByteArray.mk nS[k].toArray=y at hc hs2;clear he hh hj hd hy;go_wp2
     go_quiet (fail)
     go_wp2
     go_roundw
     case rel=>exact⟨k+1,by omega,by go_num,HJ.out,HH.out,below_drewN hb _⟩
     case measure=>simp[intOf];omega
   ·have hI2:decide ((p:Int)+1 < ↑s.size)=false:=dA (by omega)
    have HJ:Hid (∀ j,(hj:j<nS.length)→j<k+1→¬ nS[j] <+: (s[p]'hp) :: s.data.toList.drop (p+1)):=ay (fun j hjl hjk=>by
     have e:s.data.toList.drop (p+1)=[]:=by rw[List.drop_eq_nil_iff,← Lib.size_eq];omega
     rw[e]
     exact UF (mX hjl) _)
    generalize ByteArray.mk nS[k].toArray=y at hc;clear hh hj;go_wp2
    go_quiet (fail)
    go_wp2
    go_roundw
    case rel=>exact⟨k+1,by omega,by go_num,HJ.out,HH.out,below_drewN hb _⟩
    case measure=>simp[intOf];omega
  ·have hI:decide ((k:Int)<6)=false:=dA (by omega)
   have hno:∀ x∈nS,¬ x <+: (s[p]'hp) :: s.data.toList.drop (p+1):=by
    intro x hx;obtain⟨j,hjl,e⟩:=List.mem_iff_getElem.1 hx;exact e ▸ hj j hjl (by have:nS.length=6:=rfl;omega)
   have hR1:=HR.out;rw[MX hno] at hR1;have HR1:=ay hR1;clear hR1 hno hj hh;go_wp2
   obtain⟨o,ho⟩:∃ o:ByteArray,o=⟨#[40,41,123,125,44,58,59,46,43,45,42,47,37,61,60,62]⟩:=⟨_,rfl⟩
   rw[← ho]
   have hos:o.size≤16:=by rw[ho];exact bD 16
   have hol:o.data.toList=JF:=by rw[ho];rfl
   clear ho
   go_loopw [8] (fun i wq=>∃ j:Nat,j≤o.size∧i=.int .i64 j∧(∀ m,(hm:m<o.size)→m<j→o[m]'hm≠s[p]'hp)∧Below w.heap.size w wq) (fun i _=>o.size - (intOf i).toNat)
   case atStart=>exact⟨0,by omega,rfl,fun m _ h=>absurd h (by omega),hb⟩
   case round =>
    clear hb hI;obtain⟨j,hj,rfl,hm,hb⟩:=hrel
    by_cases hlt:j<o.size
    ·have hJ:(j:Int) < ↑o.size:=by omega
     by_cases he:o[j]'hlt=s[p]'hp
     ·have hc:(s[p]'hp)∈JF:=by rw[← hol,← he];exact mX (l:=o.data.toList) _
      have t1:(((s[p]'hp).toNat:Int) == ((o[j]'hlt).toNat:Int))=true:=by rw[he,beq_iff_eq]
      have HC:=ay hc;clear hc he hm hol;go_wp2
      go_quiet (fail)
      go_wp2;go_ret;exact⟨lJ (by rw[← HR1.out,if_pos HC.out];rfl),below_drewN hb _⟩
     ·have t1:(((s[p]'hp).toNat:Int) == ((o[j]'hlt).toNat:Int))=false:=by
       rw[← Bool.not_eq_true,beq_iff_eq];intro q;exact he (UInt8.toNat_inj.1 (by omega))
      have HM:Hid (∀ m,(hm:m<o.size)→m<j+1→o[m]'hm≠s[p]'hp):=ay (fun m hmo hmj=>by
       by_cases hmk:m=j
       ·subst hmk;exact he
       ·exact hm m hmo (by omega))
      clear he hm hol;go_wp2
      go_quiet (fail)
      go_wp2
      go_roundw
      case rel=>exact⟨j+1,by omega,by go_num,HM.out,below_drewN hb _⟩
      case measure=>simp[intOf];omega
    ·have hJ:decide ((j:Int) < ↑o.size)=false:=dA (by omega)
     have hc:¬ (s[p]'hp)∈JF:=by
      rw[← hol];intro q;obtain⟨m,hml,e⟩:=List.mem_iff_getElem.1 q
      have hmo:m<o.size:=by rw[Lib.size_eq];exact hml
      exact hm m hmo (by omega) e
     have HC:=ay hc;clear hc hm hol;go_wp2;go_ret;exact⟨lJ (by rw[← HR1.out,if_neg HC.out];rfl),hb⟩
def uF (p:Nat)(t:Nat × Nat × Nat):Value:=.tuple #[.int .i64 t.1,.int .i64 (if t.2.2=0 then p+t.2.1 else 0:Nat),.int .i64 t.2.2]
theorem dQ {p:Nat}{t:Nat × Nat × Nat}{a b c:Int}(h1:a=t.1)(h2:b=((if t.2.2=0 then p+t.2.1 else 0:Nat):Int))(h3:c=t.2.2):Ending.returned (.tuple #[.int .i64 a,.int .i64 b,.int .i64 c])=.returned (uF p t):=by
 rw[uF,h1,h2,h3]
def M4 (b:Bool)(w:World)(e:Ending)(w':World):Prop:=e=.returned (.bool b)∧Below w.heap.size w w'
theorem SK {q:UInt8→Bool}{s:ByteArray}{p m N:Nat}(hN:((s.data.toList.drop p).takeWhile q).length=N)(hm:m<s.size)(hp:p≤m)(hle:m≤p+N):m<p+N↔q (s[m]'hm)=true:=by
 subst hN
 obtain⟨k,rfl⟩:∃ k,m=p+k:=⟨m - p,by omega⟩
 have:=wP q (s.data.toList.drop p) k (by omega);rw[List.getElem?_drop,zw hm] at this
 constructor
 ·intro h
  obtain⟨c,h1,h2⟩:=this.1 (by omega)
  injection h1 with h1
  rw[h1];exact h2
 ·intro h
  have:=this.2 ⟨_,rfl,h⟩;omega
theorem M8 {q:UInt8→Bool}{s:ByteArray}{p N:Nat}(hN:((s.data.toList.drop p).takeWhile q).length=N):(s.extract p (p+N)).data.toList=(s.data.toList.drop p).takeWhile q:=by
 rw[dL,List.drop_take,Nat.add_sub_cancel_left,← hN];exact(List.prefix_iff_eq_take.1 (List.takeWhile_prefix q)).symm
theorem XI (q:UInt8→Bool)(s:ByteArray)(p:Nat):((s.data.toList.drop p).takeWhile q).length≤s.size - p:=by
 have:=jF q (s.data.toList.drop p)
 rwa [List.length_drop,← Lib.size_eq] at this
theorem GU (s:ByteArray)(p:Nat)(w:World)(hs:s.size≤1099511627776)(hp:p<s.size)(hl:cZ (s[p]'hp)=true) :
  Calls Tryz.prog 116 #[.string s,.int .i64 p] w fun e w'=>e=.returned (uF p (bR (s.data.toList.drop p)))∧Below w.heap.size w w':=by
 have hq:bR (s.data.toList.drop p)=jm (s.data.toList.drop p):=by rw[drop_byte hp,bR,if_pos hl]
 have HQ:=ay hq;have hn:=XI aS s p;generalize hN:((s.data.toList.drop p).takeWhile aS).length=N at hn;have HN:=ay hN;clear hq hN;go_enter Tryz.func116,Tryz.ntmps116;go_wp2_with (go_at_call 184;refine(eU _ _).mono ?_;rintro e w1 ⟨rfl,rfl⟩)
 go_loop [7] (fun a=>∃ m:Nat,p≤m∧m≤p+N∧a=.int .i64 m) (fun a=>s.size - (intOf a).toNat)
 case atStart=>exact⟨p,bD _,by omega,rfl⟩
 case round =>
  obtain⟨m,hpm,hm,rfl⟩:=hrel;clear hl
  by_cases hlt:m<s.size
  ·have hst:=SK (q:=aS) HN.out hlt hpm hm
   have hI:(m:Int) < ↑s.size:=by omega
   by_cases hin:aS (s[m]'hlt)=true
   ·have hlt2:m+1≤p+N:=hst.2 hin
    cases hL:cZ (s[m]'hlt) with
    | true =>
     clear hst hin;go_wp2_with (go_at_call 184;refine(eU _ _).mono ?_;rintro e w1 ⟨rfl,rfl⟩)
     go_round
     case rel=>exact⟨m+1,by omega,by omega,by go_num⟩
     case measure=>simp[intOf];omega
    | false =>
     cases hD:aP (s[m]'hlt) with
     | true =>
      clear hst hin;go_wp2_with (first|(go_at_call 184;refine(eU _ _).mono ?_;rintro e w1 ⟨rfl,rfl⟩)|(go_at_call 185;refine(dM _ _).mono ?_;rintro e w1 ⟨rfl,rfl⟩))
      go_round
      case rel=>exact⟨m+1,by omega,by omega,by go_num⟩
      case measure=>simp[intOf];omega
     | false =>
      have t1:(((s[m]'hlt).toNat:Int) == 95)=true:=by
       rw[aS,hL,hD,Bool.false_or,Bool.false_or,SB] at hin;exact hin
      clear hst hin;go_wp2_with (first|(go_at_call 184;refine(eU _ _).mono ?_;rintro e w1 ⟨rfl,rfl⟩)|(go_at_call 185;refine(dM _ _).mono ?_;rintro e w1 ⟨rfl,rfl⟩))
      go_round
      case rel=>exact⟨m+1,by omega,by omega,by go_num⟩
      case measure=>simp[intOf];omega
   ·have hin':aS (s[m]'hlt)=false:=by simpa using hin
    have hmN:m=p+N:=by
     rcases Nat.lt_or_ge m (p+N) with h|h
     ·exact absurd (hst.1 h) hin
     ·omega
    rw[aS] at hin';simp only[Bool.or_eq_false_iff] at hin';obtain⟨⟨hL,hD⟩,hU⟩:=hin';rw[SB] at hU;have t1:(((s[m]'hlt).toNat:Int) == 95)=false:=hU;clear hin hU;subst hmN
    by_cases Pw:40<N
    ·have hw:jm (s.data.toList.drop p)=(0,0,20):=by
      unfold jm;exact if_pos (by rw[HN.out];exact Pw)
     have HW:=ay (HQ.out.trans hw)
     have hd:(40:Int)<((p+N:Nat):Int) - (p:Int):=by omega
     clear hw hst;go_wp2_with (first|(go_at_call 184;refine(eU _ _).mono ?_;rintro e w1 ⟨rfl,rfl⟩)|(go_at_call 185;refine(dM _ _).mono ?_;rintro e w1 ⟨rfl,rfl⟩));go_ret3
     refine⟨dQ (t:=bR (s.data.toList.drop p)) ?_ ?_ ?_,bI _ _⟩<;>rw[HW.out]<;>rfl
    ·have hw:jm (s.data.toList.drop p)=if (s.data.toList.drop p).takeWhile aS∈lD then (2,N,0) else (1,N,0):=by
      unfold jm;simp only[HN.out];rw[if_neg Pw]
     have hd:((p+N:Nat):Int) - (p:Int)≤40:=by omega
     have hd2:(p:Int)≤((p+N:Nat):Int):=by omega
     have hd3:((p+N:Nat):Int)≤(s.size:Int):=by omega
     have hk:∀ w,Calls Tryz.prog 186 #[.string (s.extract p (p+N))] w (M4 (decide ((s.extract p (p+N)).data.toList∈lD)) w):=El (s.extract p (p+N));rw[M8 HN.out] at hk;have HK:=ay hk
     by_cases hkey:(s.data.toList.drop p).takeWhile aS∈lD
     ·rw[if_pos hkey] at hw
      have HW:=ay (HQ.out.trans hw);have HY:=ay hkey;clear hw hk hkey hst;go_wp2_with (first|(go_at_call 184;refine(eU _ _).mono ?_;rintro e w1 ⟨rfl,rfl⟩)|(go_at_call 185;refine(dM _ _).mono ?_;rintro e w1 ⟨rfl,rfl⟩)|(go_at_call 186;refine(HK.out _).mono ?_));rintro e w2 ⟨he,hb⟩
      obtain rfl:e=.returned (.bool true):=by rw[he,iX HY.out]
      clear he;go_wp2;go_ret3
      refine⟨dQ (t:=bR (s.data.toList.drop p)) ?_ ?_ ?_,hb⟩<;>rw[HW.out]<;>rfl
     ·rw[if_neg hkey] at hw
      have HW:=ay (HQ.out.trans hw);have HY:=ay hkey;clear hw hk hkey hst;go_wp2_with (first|(go_at_call 184;refine(eU _ _).mono ?_;rintro e w1 ⟨rfl,rfl⟩)|(go_at_call 185;refine(dM _ _).mono ?_;rintro e w1 ⟨rfl,rfl⟩)|(go_at_call 186;refine(HK.out _).mono ?_));rintro e w2 ⟨he,hb⟩
      obtain rfl:e=.returned (.bool false):=by rw[he,dA HY.out]
      clear he;go_wp2;go_ret3
      refine⟨dQ (t:=bR (s.data.toList.drop p)) ?_ ?_ ?_,hb⟩<;>rw[HW.out]<;>rfl
  ·have hmN:m=p+N:=by omega
   have hI:decide ((m:Int) < ↑s.size)=false:=dA (by omega);have hst:=trivial;subst hmN
   by_cases Pw:40<N
   ·have hw:jm (s.data.toList.drop p)=(0,0,20):=by
     unfold jm;exact if_pos (by rw[HN.out];exact Pw)
    have HW:=ay (HQ.out.trans hw)
    have hd:(40:Int)<((p+N:Nat):Int) - (p:Int):=by omega
    clear hw hst;go_wp2;go_ret3
    refine⟨dQ (t:=bR (s.data.toList.drop p)) ?_ ?_ ?_,bI _ _⟩<;>rw[HW.out]<;>rfl
   ·have hw:jm (s.data.toList.drop p)=if (s.data.toList.drop p).takeWhile aS∈lD then (2,N,0) else (1,N,0):=by
     unfold jm;simp only[HN.out];rw[if_neg Pw]
    have hd:((p+N:Nat):Int) - (p:Int)≤40:=by omega
    have hd2:(p:Int)≤((p+N:Nat):Int):=by omega
    have hd3:((p+N:Nat):Int)≤(s.size:Int):=by omega
    have hk:∀ w,Calls Tryz.prog 186 #[.string (s.extract p (p+N))] w (M4 (decide ((s.extract p (p+N)).data.toList∈lD)) w):=El (s.extract p (p+N));rw[M8 HN.out] at hk;have HK:=ay hk
    by_cases hkey:(s.data.toList.drop p).takeWhile aS∈lD
    ·rw[if_pos hkey] at hw
     have HW:=ay (HQ.out.trans hw);have HY:=ay hkey;clear hw hk hkey hst;go_wp2_with (first|(go_at_call 186;refine(HK.out _).mono ?_));rintro e w2 ⟨he,hb⟩
     obtain rfl:e=.returned (.bool true):=by rw[he,iX HY.out]
     clear he;go_wp2;go_ret3
     refine⟨dQ (t:=bR (s.data.toList.drop p)) ?_ ?_ ?_,hb⟩<;>rw[HW.out]<;>rfl
    ·rw[if_neg hkey] at hw
     have HW:=ay (HQ.out.trans hw);have HY:=ay hkey;clear hw hk hkey hst;go_wp2_with (first|(go_at_call 186;refine(HK.out _).mono ?_));rintro e w2 ⟨he,hb⟩
     obtain rfl:e=.returned (.bool false):=by rw[he,dA HY.out]
     clear he;go_wp2;go_ret3
     refine⟨dQ (t:=bR (s.data.toList.drop p)) ?_ ?_ ?_,hb⟩<;>rw[HW.out]<;>rfl
theorem JV (s:ByteArray)(p:Nat)(w:World)(hs:s.size≤1099511627776)(hp:p<s.size)(hl:cZ (s[p]'hp)=false)(hdg:aP (s[p]'hp)=true) :
  Calls Tryz.prog 116 #[.string s,.int .i64 p] w fun e w'=>e=.returned (uF p (bR (s.data.toList.drop p)))∧Below w.heap.size w w':=by
 have hq:bR (s.data.toList.drop p)=jD (s.data.toList.drop p):=by rw[drop_byte hp,bR,if_neg (by rw[hl];decide),if_pos hdg]
 have hf:((s.data.toList.drop p).takeWhile aP)[0]?=some (s[p]'hp):=by rw[drop_byte hp,List.takeWhile_cons_of_pos hdg];rfl
 have HQ:=ay hq;have HF:=ay hf;have hn:=XI aP s p;generalize hN:((s.data.toList.drop p).takeWhile aP).length=N at hn;have HN:=ay hN;clear hq hN hf;go_enter Tryz.func116,Tryz.ntmps116;go_wp2_with (first|(go_at_call 184;refine(eU _ _).mono ?_;rintro e w1 ⟨rfl,rfl⟩)|(go_at_call 185;refine(dM _ _).mono ?_;rintro e w1 ⟨rfl,rfl⟩))
 go_loop [7] (fun a=>∃ m:Nat,p≤m∧m≤p+N∧a=.int .i64 m) (fun a=>s.size - (intOf a).toNat)
 case atStart=>exact⟨p,bD _,by omega,rfl⟩
 case round =>
  obtain⟨m,hpm,hm,rfl⟩:=hrel;clear hl hdg
  by_cases hlt:m<s.size
  ·have hst:=SK (q:=aP) HN.out hlt hpm hm
   have hI:(m:Int) < ↑s.size:=by omega
   by_cases hD:aP (s[m]'hlt)=true
   ·have hlt2:m+1≤p+N:=hst.2 hD
    clear hst;go_wp2_with (first|(go_at_call 185;refine(dM _ _).mono ?_;rintro e w1 ⟨rfl,rfl⟩))
    go_round
    case rel=>exact⟨m+1,by omega,by omega,by go_num⟩
    case measure=>simp[intOf];omega
   ·have hD':aP (s[m]'hlt)=false:=by simpa using hD
    have hmN:m=p+N:=by
     rcases Nat.lt_or_ge m (p+N) with h|h
     ·exact absurd (hst.1 h) hD
     ·omega
    clear hD;subst hmN
    by_cases Ay:60<N
    ·have hw:jD (s.data.toList.drop p)=(0,0,21):=by
      unfold jD;exact if_pos (.inl (by rw[HN.out];exact Ay))
     have HW:=ay (HQ.out.trans hw);have hd:decide (60<(p:Int)+(N:Int) - (p:Int))=true:=iX (by omega);clear hw hst;go_wp2_with (first|(go_at_call 185;refine(dM _ _).mono ?_;rintro e w1 ⟨rfl,rfl⟩));go_ret3
     refine⟨dQ (t:=bR (s.data.toList.drop p)) ?_ ?_ ?_,bI _ _⟩<;>rw[HW.out]<;>rfl
    ·have hd:((p+N:Nat):Int) - (p:Int)≤60:=by omega
     have hd':decide (60<(p:Int)+(N:Int) - (p:Int))=false:=dA (by omega)
     by_cases h1:1<N
     ·have hd1:decide (1<(p:Int)+(N:Int) - (p:Int))=true:=iX (by omega)
      by_cases h0:(s[p]'hp)=48
      ·have hw:jD (s.data.toList.drop p)=(0,0,21):=by
        unfold jD;exact if_pos (.inr ⟨by rw[HN.out];exact h1,by rw[HF.out,h0]⟩)
       have HW:=ay (HQ.out.trans hw)
       have t0:(((s[p]'hp).toNat:Int) == 48)=true:=by rw[h0];rfl
       clear hw hst h0;go_wp2_with (first|(go_at_call 185;refine(dM _ _).mono ?_;rintro e w1 ⟨rfl,rfl⟩));go_ret3
       refine⟨dQ (t:=bR (s.data.toList.drop p)) ?_ ?_ ?_,bI _ _⟩<;>rw[HW.out]<;>rfl
      ·have hw:jD (s.data.toList.drop p)=(3,N,0):=by
        unfold jD;simp only[HN.out];refine if_neg ?_;rintro(h|⟨_,h⟩)
        ·exact Ay h
        ·rw[HF.out] at h;injection h with h;exact h0 h
       have HW:=ay (HQ.out.trans hw)
       have t0:(((s[p]'hp).toNat:Int) == 48)=false:=by
        rw[← Bool.not_eq_true,beq_iff_eq];intro q;exact h0 (UInt8.toNat_inj.1 (by have e1:(48:UInt8).toNat=48:=rfl;omega))
       clear hw hst h0;go_wp2_with (first|(go_at_call 185;refine(dM _ _).mono ?_;rintro e w1 ⟨rfl,rfl⟩));go_ret3
       refine⟨dQ (t:=bR (s.data.toList.drop p)) ?_ ?_ ?_,bI _ _⟩<;>rw[HW.out]<;>rfl
     ·have hw:jD (s.data.toList.drop p)=(3,N,0):=by
       unfold jD;simp only[HN.out];refine if_neg ?_;rintro(h|⟨h,_⟩)
       ·exact Ay h
       ·exact h1 h
      have HW:=ay (HQ.out.trans hw);have hd1:decide (1<(p:Int)+(N:Int) - (p:Int))=false:=dA (by omega);clear hw hst;go_wp2_with (first|(go_at_call 185;refine(dM _ _).mono ?_;rintro e w1 ⟨rfl,rfl⟩));go_ret3
      refine⟨dQ (t:=bR (s.data.toList.drop p)) ?_ ?_ ?_,bI _ _⟩<;>rw[HW.out]<;>rfl
  ·have hmN:m=p+N:=by omega
   have hI:decide ((m:Int) < ↑s.size)=false:=dA (by omega);have hst:=trivial;subst hmN
   by_cases Ay:60<N
   ·have hw:jD (s.data.toList.drop p)=(0,0,21):=by
     unfold jD;exact if_pos (.inl (by rw[HN.out];exact Ay))
    have HW:=ay (HQ.out.trans hw);have hd:decide (60<(p:Int)+(N:Int) - (p:Int))=true:=iX (by omega);clear hw hst;go_wp2;go_ret3
    refine⟨dQ (t:=bR (s.data.toList.drop p)) ?_ ?_ ?_,bI _ _⟩<;>rw[HW.out]<;>rfl
   ·have hd:((p+N:Nat):Int) - (p:Int)≤60:=by omega
    have hd':decide (60<(p:Int)+(N:Int) - (p:Int))=false:=dA (by omega)
    by_cases h1:1<N
    ·have hd1:decide (1<(p:Int)+(N:Int) - (p:Int))=true:=iX (by omega)
     by_cases h0:(s[p]'hp)=48
     ·have hw:jD (s.data.toList.drop p)=(0,0,21):=by
       unfold jD;exact if_pos (.inr ⟨by rw[HN.out];exact h1,by rw[HF.out,h0]⟩)
      have HW:=ay (HQ.out.trans hw)
      have t0:(((s[p]'hp).toNat:Int) == 48)=true:=by rw[h0];rfl
      clear hw hst h0;go_wp2;go_ret3
      refine⟨dQ (t:=bR (s.data.toList.drop p)) ?_ ?_ ?_,bI _ _⟩<;>rw[HW.out]<;>rfl
     ·have hw:jD (s.data.toList.drop p)=(3,N,0):=by
       unfold jD;simp only[HN.out];refine if_neg ?_;rintro(h|⟨_,h⟩)
       ·exact Ay h
       ·rw[HF.out] at h;injection h with h;exact h0 h
      have HW:=ay (HQ.out.trans hw)
      have t0:(((s[p]'hp).toNat:Int) == 48)=false:=by
       rw[← Bool.not_eq_true,beq_iff_eq];intro q;exact h0 (UInt8.toNat_inj.1 (by have e1:(48:UInt8).toNat=48:=rfl;omega))
      clear hw hst h0;go_wp2;go_ret3
      refine⟨dQ (t:=bR (s.data.toList.drop p)) ?_ ?_ ?_,bI _ _⟩<;>rw[HW.out]<;>rfl
    ·have hw:jD (s.data.toList.drop p)=(3,N,0):=by
      unfold jD;simp only[HN.out];refine if_neg ?_;rintro(h|⟨h,_⟩)
      ·exact Ay h
      ·exact h1 h
     have HW:=ay (HQ.out.trans hw);have hd1:decide (1<(p:Int)+(N:Int) - (p:Int))=false:=dA (by omega);clear hw hst;go_wp2;go_ret3
     refine⟨dQ (t:=bR (s.data.toList.drop p)) ?_ ?_ ?_,bI _ _⟩<;>rw[HW.out]<;>rfl
theorem JW (s:ByteArray)(p:Nat)(w:World)(hs:s.size≤1099511627776)(hp:p<s.size)(hl:cZ (s[p]'hp)=false)(hdg:aP (s[p]'hp)=false) :
  Calls Tryz.prog 116 #[.string s,.int .i64 p] w fun e w'=>e=.returned (uF p (bR (s.data.toList.drop p)))∧Below w.heap.size w w':=by
 have hq:bR (s.data.toList.drop p)=xX (s.data.toList.drop p):=by rw[drop_byte hp,bR,if_neg (by rw[hl];decide),if_neg (by rw[hdg];decide)]
 have hz:=M0 s p w hs hp
 have hlen:lN (s.data.toList.drop p)≤s.size - p:=by
  unfold lN
  cases hf:nT (s.data.toList.drop p) with
  | none=>exact lI _
  | some x =>
   have:=(uo hf).1.length_le
   rwa [List.length_drop,← Lib.size_eq] at this
 have hsy:xX (s.data.toList.drop p)=if lN (s.data.toList.drop p)=0 then (0,0,20) else (4,lN (s.data.toList.drop p),0):=by
  unfold xX lN
  cases hf:nT (s.data.toList.drop p) with
  | none=>rfl
  | some x =>
   have:=(uo hf).2.1;simp only;rw[if_neg (by omega)]
 generalize lN (s.data.toList.drop p)=n at hz hlen hsy;have HZ:=ay hz;clear hz
 by_cases h0:n=0
 ·have HW:=ay (hq.trans (hsy.trans (if_pos h0)))
  subst h0;clear hq hsy;go_enter Tryz.func116,Tryz.ntmps116;go_wp2_with (first|(go_at_call 184;refine(eU _ _).mono ?_;rintro e w1 ⟨rfl,rfl⟩)|(go_at_call 185;refine(dM _ _).mono ?_;rintro e w1 ⟨rfl,rfl⟩)|(go_at_call 187;refine HZ.out.mono ?_;rintro e w1 ⟨rfl,hb⟩));go_ret3
  refine⟨dQ (t:=bR (s.data.toList.drop p)) ?_ ?_ ?_,hb⟩<;>rw[HW.out]<;>rfl
 ·have HW:=ay (hq.trans (hsy.trans (if_neg h0)))
  have t0:((n:Int) == 0)=false:=by rw[← Bool.not_eq_true,beq_iff_eq];omega
  clear hq hsy h0;go_enter Tryz.func116,Tryz.ntmps116;go_wp2_with (first|(go_at_call 184;refine(eU _ _).mono ?_;rintro e w1 ⟨rfl,rfl⟩)|(go_at_call 185;refine(dM _ _).mono ?_;rintro e w1 ⟨rfl,rfl⟩)|(go_at_call 187;refine HZ.out.mono ?_;rintro e w1 ⟨rfl,hb⟩));go_ret3
  refine⟨dQ (t:=bR (s.data.toList.drop p)) ?_ ?_ ?_,hb⟩<;>rw[HW.out]<;>rfl
theorem JX (s:ByteArray)(p:Nat)(w:World)(hs:s.size≤1099511627776)(hp:p<s.size) :
  Calls Tryz.prog 116 #[.string s,.int .i64 p] w fun e w'=>e=.returned (uF p (bR (s.data.toList.drop p)))∧Below w.heap.size w w':=by
 cases hl:cZ (s[p]'hp) with
 | true=>exact GU s p w hs hp hl
 | false =>
  cases hd:aP (s[p]'hp) with
  | true=>exact JV s p w hs hp hl hd
  | false=>exact JW s p w hs hp hl hd
def M9 (S:List UInt8)(w:World)(e:Ending)(w':World):Prop :=
 Below w.heap.size w w'∧match bO S with
 | .ok l=>∃ v,e=.returned (.tuple #[v,.int .i64 0,.int .i64 0])∧Rec w'.heap.size w' v 4 bV l
 | .error x=>e=.returned (.tuple #[.slice none 0 0,.int .i64 x.1,.int .i64 x.2])
theorem Qm (T:List UInt8)(h:T≠[]):(bR T).1≠5:=fun q=>h (LJ T q)
theorem Qn (s:ByteArray)(w:World)(hs:s.size≤1099511627776):Calls Tryz.prog 67 #[.string s] w (M9 s.data.toList w):=by
 obtain⟨i0,hi,hz0,hz1,hz2⟩:=info_parts Tryz.Qd
 by_cases hbig:65536<s.size
 ·have hI:(65536:Int) < ↑s.size:=by omega
  have hq:bO s.data.toList=.error (11,0):=by rw[bO,if_pos (by rw[← Lib.size_eq];exact hbig)]
  have HQ:=ay hq;clear hq;go_enter Tryz.func67,Tryz.ntmps67;go_wp2;go_ret3;refine⟨bI _ _,?_⟩;rw[HQ.out]
  rfl
 ·have hI:¬ (65536:Int) < ↑s.size:=by omega
  have hq:bO s.data.toList=kX (s.size+1) s.data.toList 0:=by rw[bO,if_neg (by rw[← Lib.size_eq];exact hbig),← Lib.size_eq]
  have HQ:=ay hq;clear hq;go_enter Tryz.func67,Tryz.ntmps67;go_wp2
  go_loopw [5,6] (fun out at0 wr=>∃ (p m:Nat) (acc:List Tok),at0=.int .i64 p∧p≤s.size∧s.size<p+m∧kX (s.size+1) s.data.toList 0=Ml acc (kX m (s.data.toList.drop p) p)∧acc.length≤p ∧
   wr.ownsRow w.heap.size 140 4 out acc.length (acc.flatMap bV)∧Below w.heap.size w wr) (fun _ at0 _=>s.size - (intOf at0).toNat)
  case atStart=>exact⟨0,s.size+1,[],rfl,lI _,by omega,(Mq _).symm,bD _,World.ownsRow_nil _ _ _ _,bI _ _⟩
  case round =>
   obtain⟨p,m,acc,rfl,hp,hm,hl,hal,hown,hb⟩:=hrel;have hz:=hb.size
   obtain⟨m,rfl⟩:∃ m',m=m'+1:=⟨m - 1,by omega⟩
   have hld:=fun w=>MS s p w hs hp
   have hkl:bE false (s.data.toList.drop p)≤s.size - p:=by have:=mY false (s.data.toList.drop p);rwa [List.length_drop,← Lib.size_eq] at this
   generalize hk:bE false (s.data.toList.drop p)=k at hld hkl;generalize hf:p+k=f at hld
   have hfs:f≤s.size:=by omega
   have hpf:p≤f:=by omega
   have HLD:=ay hld;have HK:=ay hk;have HL:=ay hl;have HF:=ay hf;clear hld hk hl hf
   by_cases hend:f=s.size
   ·subst hend
    have hT:s.data.toList.drop (p+k)=[]:=by rw[HF.out,List.drop_eq_nil_iff,← Lib.size_eq];exact bD _
    have hq:=HL.out
    have htk:bR ((s.data.toList.drop p).drop k)=(5,0,0):=by rw[List.drop_drop,hT];rfl
    rw[Ms _ _ _ _ _ HK.out htk rfl rfl,HF.out] at hq
    have hyl:(s.extract p s.size).data.toList=(s.data.toList.drop p).take k:=by rw[dL,Au (by rw[← Lib.size_eq];exact bD _),Au];rw[List.length_drop,← Lib.size_eq];have:=HF.out;omega
    have hcl:[Value.int .i64 5,.string (s.extract p s.size),.string ⟨#[]⟩,.int .i64 s.size]=bV ⟨5,(s.data.toList.drop p).take k,[],s.size⟩:=AP (kd:=5) (pk:=s.size) hyl (by rfl:(ByteArray.mk #[]).data.toList=[]) (rfl:((s.size:Nat):Int)=((s.size:Nat):Int));have GL:=ay hq;have AU:=ay hcl;have HYL:=ay hyl;clear hT hq htk hcl hyl;go_wp2_with (first|(go_at_call 115;refine(HLD.out _).mono ?_;rintro e w2 ⟨rfl,rfl⟩)|(at_builtin;refine wpList_append_own _ rfl _ _ 137 rfl w.heap.size 140 i0 (.agg #[.int .i64 0,.string ByteArray.empty,.string ByteArray.empty,.int .i64 0]) 4 48 Tryz.underlying137 hi hz0 hz1 hz2 rfl (by decide) _ _ _ rfl (hown.alloc _) ⟨w2.heap.size,0,none⟩ 1 1 [.int .i64 5,.string (s.extract p s.size),.string ⟨#[]⟩,.int .i64 s.size] rfl rfl ?c1 ?c2 ?c3 ?c4 ?c5 ?_))
    case c1=>exact D9 (by go_simp) (by go_simp) (by go_simp) (by go_simp)
    case c2=>intro u hu;simp at hu;rcases hu with rfl|rfl|rfl|rfl<;>rfl
    case c3=>unfold maxLen;omega
    case c4=>omega
    case c5=>simp;omega
    intro v' w4 hown' hgrow _;have hb4:Below w.heap.size w w4:=(hb.alloc hz _).grown hgrow (by simp;omega) (fun q hq=>(hown.lt q hq).1);rw[AU.out] at hown'
    have vJ:w4.ownsRow w.heap.size 140 4 v' (acc++[Tok.mk 5 ((s.data.toList.drop p).take k) [] s.size]).length ((acc++[Tok.mk 5 ((s.data.toList.drop p).take k) [] s.size]).flatMap bV):=by
     rw[List.flatMap_append,bN];exact hown'
    clear hgrow hown' hown;go_wp2;go_ret3;refine⟨hb4,?_⟩;rw[HQ.out,GL.out];exact⟨_,rfl,Sl.fZ vJ⟩
   ·have hfl:f<s.size:=by omega
    have hne:((f:Int) == (s.size:Int))=false:=by rw[← Bool.not_eq_true,beq_iff_eq];omega
    have htk:=fun w=>JX s f w hs hfl
    have htl:(bR (s.data.toList.drop f)).2.1≤s.size - f:=by have:=vE (s.data.toList.drop f);rwa [List.length_drop,← Lib.size_eq] at this
    have h5:(bR (s.data.toList.drop f)).1≠5:=Qm _ (by rw[drop_byte hfl];simp);have hps:=vF (s.data.toList.drop f);generalize ht:bR (s.data.toList.drop f)=t at htk htl h5 hps;obtain⟨kd,n,er⟩:=t;simp only at htl h5 hps
    have hT:bR ((s.data.toList.drop p).drop k)=(kd,n,er):=by rw[List.drop_drop,HF.out];exact ht
    have HT:=ay htk;clear htk ht hend
    by_cases her:er=0
    ·subst her
     have hn0:0<n:=hps rfl h5;have hq:=HL.out;rw[Ij _ _ _ _ _ HK.out hT rfl h5,Ii,List.drop_drop,List.drop_drop,← Nat.add_assoc p k,HF.out] at hq;generalize hg:f+n=g at hq
     have hgs:g≤s.size:=by omega
     have hfg:f<g:=by omega
     have hrt:uF f (kd,n,0)=.tuple #[.int .i64 kd,.int .i64 g,.int .i64 0]:=by rw[uF];simp only[if_pos];rw[hg];rfl
     have hyl:(s.extract p f).data.toList=(s.data.toList.drop p).take k:=by rw[dL,← HF.out,List.drop_take,Nat.add_sub_cancel_left]
     have hzl:(s.extract f g).data.toList=(s.data.toList.drop f).take n:=by rw[dL,← hg,List.drop_take,Nat.add_sub_cancel_left]
     have hcl:=AP (kd:=kd) (pk:=f) hyl hzl (rfl:((f:Nat):Int)=((f:Nat):Int));have GL:=ay hq;have AU:=ay hcl;have HRT:=ay hrt;clear hT hq hcl hyl hzl hg hrt hps;go_wp2_with (first|(go_at_call 115;refine(HLD.out _).mono ?_;rintro e w2 ⟨rfl,rfl⟩)|(go_at_call 116;refine(HT.out _).mono ?_));rintro e w3 ⟨he,hb3⟩;rw[HRT.out] at he;subst he;go_wp2
     have g1:0≤(p:Int):=by omega
     have g2:(p:Int)≤(f:Int):=by omega
     have g3:(f:Int)≤(s.size:Int):=by omega
     have g4:(f:Int)≤(g:Int):=by omega
     have g5:(g:Int)≤(s.size:Int):=by omega
     have zD:Below w.heap.size w w3:=hb.trans (hb3.mono hz);have jX:=own_below hown hb3;have zF:=zD.size;clear hb3 hb hown
     go_region_held3 (fun w'=>True) (first|go_keep|trivial)
      ((refine step_append_lies _ (by rfl) _ _ _ (by rfl) w.heap.size 140 i0 _ 4 48 Tryz.underlying137 hi hz0 hz1 hz2 rfl (by omega) u5 acc.length _ (by rfl) (nZ (jX.alloc _)) ⟨w3.heap.size,0,none⟩ 1 1 [.int .i64 kd,.string (s.extract p f),.string (s.extract f g),.int .i64 f] (by rfl) (by rfl) (vv (cs:=#[.int .i64 kd,.string (s.extract p f),.string (s.extract f g),.int .i64 f]) (t:=140) (fr:=(0,0)) (aY w3 _)) (by simp[Value.oneCell']) (by omega) (by unfold maxLen;omega) (by omega) (by simp;omega) (w3.heap.size+1) (by simp) ?_;intro gg kE w5 hown' hgrow vL JK))
     have hb5:Below w.heap.size w w5:=((zD.alloc zF _).drew).grown hgrow (by simp;omega) (fun q hq=>(jX.lt q hq).1);rw[AU.out] at hown'
     have gq:w5.ownsRow w.heap.size 140 4 (.slice (some ⟨gg,0,none⟩) (acc.length+1) kE) (acc++[Tok.mk kd ((s.data.toList.drop p).take k) ((s.data.toList.drop f).take n) f]).length ((acc++[Tok.mk kd ((s.data.toList.drop p).take k) ((s.data.toList.drop f).take n) f]).flatMap bV):=by
      rw[List.flatMap_append,bN];exact hown'
     clear hgrow hown' jX;go_wp2
     go_roundw
     case rel=>exact⟨g,m,_,rfl,hgs,by omega,GL.out,by rw[bN];simp;omega,gq,hb5⟩
     case measure=>simp[intOf];omega
    ·have hq:=HL.out
     rw[Mr _ _ _ _ _ HK.out hT her,HF.out] at hq
     have hne2:((er:Int) != 0)=true:=by rw[bne_iff_ne];omega
     have GL:=ay hq;clear hT hq hps;go_wp2_with (first|(go_at_call 115;refine(HLD.out _).mono ?_;rintro e w2 ⟨rfl,rfl⟩)|(go_at_call 116;refine(HT.out _).mono ?_));rintro e w3 ⟨he,hb3⟩;rw[uF] at he;subst he;go_wp2;go_ret3;refine⟨hb.trans (hb3.mono hz),?_⟩;rw[HQ.out,GL.out]
     rfl
end Go.Proofs.YtmhdgeekclhbbaaGreatDoor

namespace Go.Proofs.YtmhdgeekclhbbaaGreatDoor
inductive PZ where
 | mk (op:Int) (name module:List UInt8) (num:Int) (yes:Bool) (aA:List PZ) (at_:Int)
def PZ.op:PZ→Int | .mk o _ _ _ _ _ _=>o
def PZ.name:PZ→List UInt8 | .mk _ n _ _ _ _ _=>n
def PZ.module:PZ→List UInt8 | .mk _ _ m _ _ _ _=>m
def PZ.num:PZ→Int | .mk _ _ _ n _ _ _=>n
def PZ.yes:PZ→Bool | .mk _ _ _ _ y _ _=>y
def PZ.aA:PZ→List PZ | .mk _ _ _ _ _ k _=>k
def PZ.at_:PZ→Int | .mk _ _ _ _ _ _ a=>a
def bf (w:List UInt8):Bool:=match bO w with
 | .ok [t,_]=>decide (t.kind=1) && decide (t.text=w)
 | _=>false
def Ip (op:Int):Int :=
 if op=5 then 8 else if op=6 then 4 else if op=7∨op=8 then 6 else if 9≤op∧op≤11 then 7 else if 12≤op∧op≤17 then 5
 else if op=18 then 3 else if op=19 then 2 else if op=20 then 1 else if 21≤op∧op≤23 then 0 else 9
def vP (op:Int):Int:=if Ip op=5 then 6 else if Ip op=1 then 2 else Ip op
def zG (op:Int):Int:=if Ip op=1 then 1 else Ip op+1
def countB (op:Int)(n:Nat):Bool :=
 if op≤4 then decide (n=0) else if op≤6 then decide (n=1) else if op≤20∨op=22∨op=23 then decide (n=2) else if op=21 then decide (n=3) else decide (n≤8)
def kY (op:Int)(nm md:List UInt8):Bool :=
 if op=3∨op=22 then bf nm && decide (md=[]) else if op=24 then bf nm && (decide (md=[]) || bf md) else decide (nm=[]) && decide (md=[])
def rV (op num:Int)(yes:Bool):Bool :=
 if op=1 then decide (0≤num) && decide ((jG num).length≤60) && !yes else decide (num=0) && (decide (op=2) || !yes)
def UG (fm:Bool)(op:Int):Bool:=if fm=true then decide (op≤20) else decide (op≠4)
def Iq (fm:Bool)(op:Int)(nm md:List UInt8)(num:Int)(yes:Bool)(n:Nat):Bool :=
 decide (1≤op) && decide (op≤24) && UG fm op && kY op nm md && rV op num yes && countB op n
mutual
def PZ.right (fm:Bool):PZ→Bool
 | .mk op nm md num yes aA _=>Iq fm op nm md num yes aA.length && j3 fm aA
def j3 (fm:Bool):List PZ→Bool
 | []=>true
 | e :: l=>e.right fm && j3 fm l
end
def sZ (op:Int):List UInt8:=([[43],[45],[42],[47],[37],[61],[60,62],[60],[60,61],[62],[62,61],[38,38],[124,124],[61,62]]:List (List UInt8)).getD (op.toNat - 7) []
def rF (least:Int)(k:Int × List UInt8):List UInt8:=if Ip k.1<least then [40]++k.2++[41] else k.2
def bM:List (List UInt8)→List UInt8
 | []=>[]
 | [t]=>t
 | t :: s :: l=>t++[44,32]++bM (s :: l)
def nW (op:Int)(nm md:List UInt8)(num:Int)(yes:Bool)(ks:List (Int × List UInt8)):List UInt8 :=
 if op=1 then jG num
 else if op=2 then (if yes=true then [116,114,117,101] else [102,97,108,115,101])
 else if op=3 then nm
 else if op=4 then [114,101,115]
 else if op=5 then [45]++rF 9 (ks.getD 0 (0,[]))
 else if op=6 then [110,111,116,32]++rF 4 (ks.getD 0 (0,[]))
 else if op=21 then [105,102,32]++(ks.getD 0 (0,[])).2++[32,116,104,101,110,32]++(ks.getD 1 (0,[])).2++[32,101,108,115,101,32]++(ks.getD 2 (0,[])).2
 else if op=22 then [108,101,116,32]++nm++[32,61,32]++(ks.getD 0 (0,[])).2++[32,105,110,32]++(ks.getD 1 (0,[])).2
 else if op=23 then [97,115,115,101,114,116,32]++(ks.getD 0 (0,[])).2++[32,105,110,32]++(ks.getD 1 (0,[])).2
 else if op=24 then (if md=[] then [] else md++[46])++nm++[40]++bM (ks.map Prod.snd)++[41]
 else rF (vP op) (ks.getD 0 (0,[]))++[32]++sZ op++[32]++rF (zG op) (ks.getD 1 (0,[]))
mutual
def PZ.text:PZ→List UInt8
 | .mk op nm md num yes aA _=>nW op nm md num yes (iG aA)
def iG:List PZ→List (Int × List UInt8)
 | []=>[]
 | e :: l=>(e.op,e.text) :: iG l
end
theorem PZ.Ir (fm:Bool)(e:PZ):e.right fm=(Iq fm e.op e.name e.module e.num e.yes e.aA.length && j3 fm e.aA):=by cases e;rw[PZ.right];rfl
theorem PZ.o8 (e:PZ):e.text=nW e.op e.name e.module e.num e.yes (iG e.aA):=by cases e;rw[PZ.text];rfl
theorem vQ {fm:Bool}:∀ {l:List PZ},j3 fm l=true↔∀ e∈l,e.right fm=true
 | []=>by simp[j3]
 | e :: l=>by rw[j3,Bool.and_eq_true,vQ];simp
theorem qI:∀ l:List PZ,iG l=l.map fun e=>(e.op,e.text)
 | []=>rfl
 | e :: l=>by rw[iG,qI l];rfl
theorem lX {l:List PZ}{i:Nat}(h:i<l.length):(iG l).getD i (0,[])=(l[i].op,l[i].text):=by
 rw[qI,List.getD_eq_getElem?_getD,List.getElem?_map,yV h];rfl
mutual
def PE.z:PE→PZ
 | .mk op nm md num _ yes aA a=>.mk op nm md num yes (SL aA) a
def SL:List PE→List PZ
 | []=>[]
 | e :: l=>e.z :: SL l
end
theorem JY:∀ l:List PE,SL l=l.map PE.z
 | []=>rfl
 | e :: l=>by rw[SL,JY l];rfl
end Go.Proofs.YtmhdgeekclhbbaaGreatDoor

namespace Go.Proofs.YtmhdgeekclhbbaaGreatDoor
open Go.RowKit Go
theorem Iu (a:List UInt8)(s:ByteArray):(a == s.toList)=decide (a=s.data.toList):=by
 rw[Go.ByteArray.toList_eq]
 by_cases h:a=s.data.toList
 ·rw[iX h,beq_iff_eq];exact h
 ·rw[dA h,← Bool.not_eq_true,beq_iff_eq];exact h
theorem Na (k:Nat):((k:Int) == 1)=decide (k=1):=by
 by_cases h:k=1
 ·subst h;rfl
 ·rw[dA h];exact BU.2 (by omega)
theorem Em {s:List UInt8}{l:List Tok}(h:bO s=.ok l)(hl:l.length≠2):bf s=false:=by
 unfold bf;rw[h]
 match l,hl with
 | [],_=>rfl
 | [_],_=>rfl
 | [_,_],h=>exact absurd rfl h
 | _ :: _ :: _ :: _,_=>rfl
theorem lY (s:ByteArray)(w:World)(hs:s.size≤1099511627776) :
  Calls Tryz.prog 42 #[.string s] w fun e w'=>e=.returned (.bool (bf s.data.toList))∧Below w.heap.size w w':=by
 have hL:=JI s w hs;unfold SC at hL
 cases hl:bO s.data.toList with
 | error x =>
  rw[hl] at hL
  have hp:bf s.data.toList=false:=by unfold bf;rw[hl]
  have h0:((x.1:Int) == 0)=false:=BU.2 (by have:=(qj hl).2;omega);rw[hp];have HL:=ay hL;clear hl hp hL;go_enter Tryz.func42,Tryz.ntmps42;go_wp2_with (go_at_call 69;refine HL.out.mono ?_;rintro e w1 ⟨hb1,rfl⟩);go_ret;exact⟨rfl,hb1.trans ((aB w1 _).mono hb1.size)⟩
 | ok l =>
  rw[hl] at hL
  by_cases h2:l.length=2
  ·match l,h2 with
   | [t,u],_ =>
    have hp:bf s.data.toList=(decide (t.kind=1) && decide (t.text=s.data.toList)):=by unfold bf;rw[hl]
    rw[hp];have HL:=ay hL;clear hl hp hL;have hk1:=Na t.kind;have hs1:=Iu t.text s;generalize decide (t.kind=1)=kb at hk1 ⊢;generalize decide (t.text=s.data.toList)=tb at hs1 ⊢;go_enter Tryz.func42,Tryz.ntmps42
    go_upto_region 2 with (go_at_call 69;refine HL.out.mono ?_;rintro e w1 ⟨hb1,v,rfl,hv⟩;obtain⟨ao,cap,rfl,hcap,hf⟩:=hv.form (fun _=>rfl);obtain⟨b,off,rfl,hb,hcell⟩:=hf (by simp);have hal:=aB w1 (.cells #[.int .i64 0,.int .i64 0] 71);have x0:=(hal.cell (p:=⟨b,off,none⟩) hb).trans (by simpa using hcell 0 0 _ (by simp) rfl);have x2:=(hal.cell (p:=⟨b,off+2,none⟩) hb).trans (by simpa using hcell 0 2 _ (by simp) rfl))
    clear hcell hf hv
    cases kb<;>cases tb<;>(go_wp2;go_ret;exact⟨rfl,hb1.trans (hal.mono hb1.size)⟩)
  ·have hp:=Em hl h2
   have h2I:((l.length:Int) == 2)=false:=BU.2 (by omega);rw[hp];have HL:=ay hL;clear hl hp hL h2;go_enter Tryz.func42,Tryz.ntmps42;go_wp2_with (go_at_call 69;refine HL.out.mono ?_;rintro e w1 ⟨hb1,v,rfl,hv⟩;obtain⟨ao,cap,rfl,hcap,hf⟩:=hv.form (fun _=>rfl);clear hf hv);go_ret;exact⟨rfl,hb1.trans ((aB w1 _).mono hb1.size)⟩
theorem Qo (s:ByteArray)(w:World)(hs:s.size≤1099511627776) :
  Calls Tryz.prog 38 #[.string s] w fun e w'=>e=.returned (.bool (bf s.data.toList))∧Below w.heap.size w w':=by
 have hL:=Qn s w hs;unfold M9 at hL
 cases hl:bO s.data.toList with
 | error x =>
  rw[hl] at hL
  have hp:bf s.data.toList=false:=by unfold bf;rw[hl]
  have h0:((x.1:Int) == 0)=false:=BU.2 (by have:=(qj hl).2;omega);rw[hp];have HL:=ay hL;clear hl hp hL;go_enter Tryz.func38,Tryz.ntmps38;go_wp2_with (go_at_call 67;refine HL.out.mono ?_;rintro e w1 ⟨hb1,rfl⟩);go_ret;exact⟨rfl,hb1⟩
 | ok l =>
  rw[hl] at hL
  by_cases h2:l.length=2
  ·match l,h2 with
   | [t,u],_ =>
    have hp:bf s.data.toList=(decide (t.kind=1) && decide (t.text=s.data.toList)):=by unfold bf;rw[hl]
    rw[hp];have HL:=ay hL;clear hl hp hL;have hk1:=Na t.kind;have hs1:=Iu t.text s;generalize decide (t.kind=1)=kb at hk1 ⊢;generalize decide (t.text=s.data.toList)=tb at hs1 ⊢;go_enter Tryz.func38,Tryz.ntmps38
    go_upto_region 2 with (go_at_call 67;refine HL.out.mono ?_;rintro e w1 ⟨hb1,v,rfl,hv⟩;obtain⟨ao,cap,rfl,hcap,hf⟩:=hv.form (fun _=>rfl);obtain⟨b,off,rfl,hb,hcell⟩:=hf (by simp);have x0:w1.cell? ⟨b,off,none⟩=_:=(by simpa using hcell 0 0 _ (by simp) rfl);have x2:w1.cell? ⟨b,off+2,none⟩=_:=(by simpa using hcell 0 2 _ (by simp) rfl))
    clear hcell hf hv
    cases kb<;>cases tb<;>(go_wp2;go_ret;exact⟨rfl,hb1⟩)
  ·have hp:=Em hl h2
   have h2I:((l.length:Int) == 2)=false:=BU.2 (by omega);rw[hp];have HL:=ay hL;clear hl hp hL h2;go_enter Tryz.func38,Tryz.ntmps38;go_wp2_with (go_at_call 67;refine HL.out.mono ?_;rintro e w1 ⟨hb1,v,rfl,hv⟩;obtain⟨ao,cap,rfl,hcap,hf⟩:=hv.form (fun _=>rfl);clear hf hv);go_ret;exact⟨rfl,hb1⟩
end Go.Proofs.YtmhdgeekclhbbaaGreatDoor

namespace Go.Proofs.YtmhdgeekclhbbaaGreatDoor
open Go.RowKit
theorem oo.Qp {aj:List Nd}{n:Int}{u:Nat}(h:oo aj n u .leaf):∃ i:Nat,n=i∧aj[i]?=some ⟨19,(u:Nat),[]⟩:=by
 rw[oo] at h;exact⟨n.toNat,by omega,h.2⟩
theorem aZ.tok {B:Nat}{w:World}{tv nv:Value}{ah:List Tok}{aj:List Nd}(h:aZ B w (.agg #[tv,nv]) ah aj){u:Nat}(hu:u<ah.length) :
  ∃ b off cap,tv=.slice (some ⟨b,off,none⟩) ah.length cap∧b<B∧w.cell? ⟨b,off+u * 4,none⟩=some (.int .i64 ah[u].kind)∧w.cell? ⟨b,off+u * 4+1,none⟩=some (dJ ah[u].lead)∧w.cell? ⟨b,off+u * 4+2,none⟩=some (dJ ah[u].text)∧w.cell? ⟨b,off+u * 4+3,none⟩=some (.int .i64 ah[u].place):=by
 obtain⟨tv',nv',l,h1,h2,h3,h4,h5⟩:=h
 obtain⟨rfl,rfl⟩:tv=tv'∧nv=nv':=by simpa using h1
 obtain⟨ao,cap,rfl,_,hf⟩:=h2.form (fun _=>rfl);obtain⟨b,off,rfl,hb,hc⟩:=hf (by omega);exact⟨b,off,cap,rfl,hb,hc u 0 _ hu rfl,hc u 1 _ hu rfl,hc u 2 _ hu rfl,hc u 3 _ hu rfl⟩
def pQ (t:Tok):Value:=.agg #[.int .i64 t.kind,dJ t.lead,dJ t.text,.int .i64 t.place]
theorem kF (B:Nat)(tv nv:Value)(ah:List Tok)(aj:List Nd)(i u:Nat)(w:World)(h:aZ B w (.agg #[tv,nv]) ah aj)(_hB:B≤w.heap.size)(hn:aj[i]?=some ⟨19,(u:Nat),[]⟩)(hu:u<ah.length) :
  Calls Tryz.prog 61 #[.agg #[tv,nv],.int .i64 i] w fun e w'=>e=.returned (pQ ah[u])∧Below w.heap.size w w':=by
 obtain⟨hi,hni⟩:=pJ hn;obtain⟨b,off,cap,kv,rfl,hb,_,x1,_,_⟩:=h.node hi;obtain⟨b2,off2,cap2,rfl,hb2,t0,t1,t2,t3⟩:=h.tok hu;rw[hni] at x1;simp only at x1;generalize ah[u]=t at t0 t1 t2 t3;obtain⟨c,x,y,q⟩:=t;simp only[dJ] at t0 t1 t2 t3;have hal:=((bI w.heap.size w).alloc (bD _) (.cells #[.slice (some ⟨b2,off2,none⟩) ah.length cap2,.slice (some ⟨b,off,none⟩) aj.length cap] 126)).alloc (by simp) (.cells #[.int .i64 0,.string ⟨#[]⟩,.string ⟨#[]⟩,.int .i64 0] 131);have x1':=iW hal x1;have y0:=iW hal t0;have y1:=iW hal t1;have y2:=iW hal t2;have y3:=iW hal t3
 have i1:(i:Int)<(aj.length:Int):=by omega
 have i2:(u:Int)<(ah.length:Int):=by omega
 have hnr:((w.alloc (.cells #[.slice (some ⟨b2,off2,none⟩) ah.length cap2,.slice (some ⟨b,off,none⟩) aj.length cap] 126)).alloc (.cells #[.int .i64 0,.string ⟨#[]⟩,.string ⟨#[]⟩,.int .i64 0] 131)).heap[w.heap.size]?=some (.cells #[.slice (some ⟨b2,off2,none⟩) ah.length cap2,.slice (some ⟨b,off,none⟩) aj.length cap] 126 (0,0)):=(gY _ _ _ (by simp)).trans (aY w _);have hnw:=aY (w.alloc (.cells #[.slice (some ⟨b2,off2,none⟩) ah.length cap2,.slice (some ⟨b,off,none⟩) aj.length cap] 126)) (.cells #[.int .i64 0,.string ⟨#[]⟩,.string ⟨#[]⟩,.int .i64 0] 131);rw[oP] at hnw;clear t0 t1 t2 t3 x1 hn hni h;go_enter Tryz.func61,Tryz.ntmps61;go_wp2;generalize (w.alloc _).alloc _=w1 at hnr hnw hal x1' y0 y1 y2 y3 ⊢
 have r0:w1.cell? ⟨w.heap.size,0,none⟩=some (.slice (some ⟨b2,off2,none⟩) ah.length cap2):=by rw[aV hnr];rfl
 have r1:w1.cell? ⟨w.heap.size,1,none⟩=some (.slice (some ⟨b,off,none⟩) aj.length cap):=by rw[aV hnr];rfl
 go_still_tail 12,(by kernel_rfl)
 change wpList _ _ _ _ _ w1.drew;have Xu:=hal.drew;have yu:w1.drew.heap[w.heap.size+1]?=some (.cells #[.int .i64 0,.string ⟨#[]⟩,.string ⟨#[]⟩,.int .i64 0] 131 (0,0)):=hnw;generalize w1.drew=w2 at Xu yu ⊢
 have f0:w2.cell? ⟨w.heap.size+1,0,none⟩=some (.int .i64 0):=by rw[aV yu];rfl
 have f1:w2.cell? ⟨w.heap.size+1,1,none⟩=some (.string ⟨#[]⟩):=by rw[aV yu];rfl
 have f2:w2.cell? ⟨w.heap.size+1,2,none⟩=some (.string ⟨#[]⟩):=by rw[aV yu];rfl
 have f3:w2.cell? ⟨w.heap.size+1,3,none⟩=some (.int .i64 0):=by rw[aV yu];rfl
 have z0:∀ j,w2.frozen? ⟨w.heap.size+1,j,none⟩=false:=by intro j;simp[World.frozen?,yu]
 clear hnw yu i1 i2 y0 y1 y2 y3 r0 r1 x1';go_wp2;refine bodyPost_ret (v:=.agg #[.int .i64 c,.string ⟨x.toArray⟩,.string ⟨y.toArray⟩,.int .i64 q]) (by simp[results,Tryz.results61,go_sem,f0,f1,f2,f3]) rfl ⟨rfl,?_⟩;exact(((Xu.setCell (by simp) _).setCell (by simp) _).setCell (by simp) _).setCell (by simp) _
theorem Tryz.UH (a b c d:Value)(w:World):(Instr.field 131 (.agg #[a,b,c,d]) 2).run Tryz.prog w=.ok c w:=by kernel_rfl
theorem wS (B:Nat)(tv nv:Value)(ah:List Tok)(aj:List Nd)(i u:Nat)(w:World)(h:aZ B w (.agg #[tv,nv]) ah aj)(hB:B≤w.heap.size)(hn:aj[i]?=some ⟨19,(u:Nat),[]⟩)(hu:u<ah.length) :
  Calls Tryz.prog 105 #[.agg #[tv,nv],.int .i64 i] w fun e w'=>e=.returned (dJ ah[u].text)∧Below w.heap.size w w':=by
 have hb1:=(bI w.heap.size w).alloc (bD _) (.cells #[tv,nv] 126);have HT:=ay (kF B tv nv ah aj i u _ (h.below (hb1.mono hB)) (by have:=hb1.size;omega) hn hu);obtain⟨a1,c1,a2,c2,e⟩:=h.slices
 obtain⟨rfl,rfl⟩:tv=_∧nv=_:=by simpa using e
 generalize ah[u]=t at HT ⊢
 have hf:=fun w=>Tryz.UH (.int .i64 t.kind) (dJ t.lead) (dJ t.text) (.int .i64 t.place) w
 unfold pQ at HT;clear h hn e;go_enter Tryz.func105,Tryz.ntmps105;go_wp2_with (go_at_call 61;refine HT.out.mono ?_;rintro e w1 ⟨rfl,hb2⟩);go_ret;exact⟨rfl,hb1.trans (hb2.mono hb1.size)⟩
theorem Tryz.nG:(Tryz.prog.info? 3).map (fun i=>(i.zero,i.size,i.bytes))=some (some (.int .i64 0),1,8):=by kernel_rfl
theorem Nb (aj:List Nd)(ks:List Int)(k:Int):gJ aj (ks++[k])=gJ aj ks++if (aj[k.toNat]?.map (·.kind)).getD 19 != 19 then [k] else []:=by
 unfold gJ;rw[List.filter_append]
 congr 1
 rw[List.filter_cons,List.filter_nil]
def ael (ks:List Int)(w:World)(e:Ending)(w':World):Prop:=∃ v,e=.returned v∧nV (fun b=>w.heap.size≤b) w' v 1 ks.length (ks.map (Value.int .i64))∧Below w.heap.size w w'
theorem nV.ints {P:Nat→Prop}{w:World}{v:Value}{ks:List Int}(h:nV P w v 1 ks.length (ks.map (Value.int .i64))):∃ ao cap,v=.slice ao ks.length cap∧ks.length≤cap ∧
  (0<ks.length→∃ b off,ao=some ⟨b,off,none⟩∧P b∧b<w.heap.size∧∀ j,(hj:j<ks.length)→w.cell? ⟨b,off+j,none⟩=some (.int .i64 ks[j])):=by
 obtain⟨ao,cap,hv,hn,hl,hc⟩:=h;refine⟨ao,cap,hv,hn,fun h0=>?_⟩;obtain⟨b,off,ha,hP,hlt,hcell⟩:=hc h0;exact⟨b,off,ha,hP,hlt,fun j hj=>by rw[hcell j (by simpa using hj)];simp⟩
theorem Qq (B:Nat)(tv nv:Value)(ah:List Tok)(aj:List Nd)(i:Nat)(w:World)(h:aZ B w (.agg #[tv,nv]) ah aj)(hB:B≤w.heap.size)(hi:i<aj.length)
  (hk:∀ k∈aj[i].aA,0≤k∧k<(aj.length:Int)) (hl:aj[i].aA.length≤1099511627776) :
  Calls Tryz.prog 236 #[.agg #[tv,nv],.int .i64 i] w (ael (gJ aj aj[i].aA) w):=by
 obtain⟨i0,XJ,hz0,hz1,hz2⟩:=info_parts Tryz.nG;have HT:=ay h;obtain⟨a1,c1,_,_,e⟩:=h.slices;obtain⟨b,off,cap,kv,rfl,hb,_,_,x2,hkv⟩:=h.node hi
 obtain⟨rfl,-⟩:tv=.slice a1 ah.length c1∧_:=by simpa using e
 generalize aj[i].aA=ks at hk hl hkv ⊢;obtain⟨ak,ck,rfl,_,hf⟩:=hkv.form;have HF:=ay hf;have HK:=ay hk;have hal:=(bI w.heap.size w).alloc (bD _) (.cells #[.slice a1 ah.length c1,.slice (some ⟨b,off,none⟩) aj.length cap] 126);have x2':=iW hal x2;have hnr:=aY w (.cells #[.slice a1 ah.length c1,.slice (some ⟨b,off,none⟩) aj.length cap] 126)
 have r0:(w.alloc (.cells #[.slice a1 ah.length c1,.slice (some ⟨b,off,none⟩) aj.length cap] 126)).cell? ⟨w.heap.size,1,none⟩=some (.slice (some ⟨b,off,none⟩) aj.length cap):=by rw[aV hnr];rfl
 have i1:(i:Int)<(aj.length:Int):=by omega
 clear hf hk h e hkv x2;go_enter Tryz.func236,Tryz.ntmps236;go_wp2;generalize w.alloc _=w1 at hnr hal r0 x2' ⊢;have hsz1:=hal.size
 go_loopw [5,16] (fun v k wr=>∃ j:Nat,j≤ks.length∧k=.int .i64 j∧wr.ownsRow w.heap.size 3 1 v (gJ aj (ks.take j)).length ((gJ aj (ks.take j)).map (Value.int .i64))∧wr.heap[w.heap.size]?=some (.cells #[.slice a1 ah.length c1,.slice (some ⟨b,off,none⟩) aj.length cap] 126 (0,0))∧Below w.heap.size w wr) (fun _ k _=>ks.length - (intOf k).toNat)
 case atStart=>exact⟨0,lI _,rfl,World.ownsRow_nil _ _ _ _,hnr,hal⟩
 case round =>
  obtain⟨j,hj,rfl,hown,hrr,hbl⟩:=hrel;have hz:=hbl.size;have hlt:=(bS hrr).1
  by_cases hjl:j<ks.length
  ·obtain⟨bk,ok,rfl,hbk,hcell⟩:=HF.out (by omega)
   have hx:=(hbl.cell (p:=⟨bk,ok+j,none⟩) (by show bk<_;omega)).trans (hcell j hjl);have hkj:=HK.out ks[j] (mX hjl);have hsn:=Nb aj (ks.take j) ks[j];rw[← Dg hjl] at hsn
   have JZ:(j:Int)<(ks.length:Int):=by omega
   generalize ks[j]=q at hx hkj hsn
   obtain⟨m,rfl⟩:∃ m:Nat,q=(m:Int):=⟨q.toNat,by omega⟩
   have hm:m<aj.length:=by omega
   obtain⟨b',off',jE,kv',e',_,y0,_,_,_⟩:=HT.out.node hm;simp only[Value.slice.injEq,Option.some.injEq,Addr.mk.injEq,and_true] at e'
   obtain⟨⟨rfl,rfl⟩,rfl⟩:(b=b'∧off=off')∧cap=jE:=by simpa using e'
   have y0':=(hbl.cell (p:=⟨b,off+m * 3,none⟩) (by show b<_;omega)).trans y0
   have hmI:(m:Int)<(aj.length:Int):=by omega
   have r1:wr.cell? ⟨w.heap.size,1,none⟩=some (.slice (some ⟨b,off,none⟩) aj.length cap):=by rw[aV hrr];rfl
   have hlen:(gJ aj (ks.take j)).length≤j:=by
    have:=List.length_filter_le (fun k:Int=>(aj[k.toNat]?.map (·.kind)).getD 19 != 19) (ks.take j);rw[qZ] at this;show (List.filter _ _).length≤j;omega
   simp only[Int.toNat_natCast,yV hm,Option.map_some,Option.getD_some] at hsn;generalize aj[m].kind=kd at y0' hsn;clear y0 hcell e'
   by_cases hd:kd=19
   ·subst hd
    simp only[bne_self_eq_false,Bool.false_eq_true,if_false,List.append_nil] at hsn;have HS:=ay hsn;clear hsn;go_wp2
    go_roundw
    case rel=>exact⟨j+1,by omega,by go_num,by rw[HS.out];exact hown,hrr,hbl⟩
    case measure=>simp[intOf];omega
   ·have hd1:(kd != 19)=true:=by simp[hd]
    have hd2:(kd == 19)=false:=by simp[hd]
    rw[hd1] at hsn;simp only[if_true] at hsn;have HS:=ay hsn;clear hsn;generalize gJ aj (ks.take j)=acc at hown hlen HS;go_wp2_with (at_builtin;refine wpList_append_own _ rfl _ _ 127 rfl w.heap.size 3 i0 (.int .i64 0) 1 8 Tryz.underlying127 XJ hz0 hz1 hz2 rfl (by decide) _ _ _ rfl (hown.alloc _) ⟨wr.heap.size,0,none⟩ 1 1 [.int .i64 m] rfl rfl ?c1 ?c2 ?c3 ?c4 ?c5 ?_)
    case c1 =>
     intro j' u hj';have:=vv (cs:=#[.int .i64 (m:Int)]) (t:=3) (fr:=(0,0)) (aY wr _) j' u (by simpa using hj');exact this
    case c2=>simp[Value.oneCell']
    case c3=>unfold maxLen;omega
    case c4=>omega
    case c5=>simp;omega
    intro v' w2 hown2 hgrow2 _;have hb2:Below w.heap.size w w2:=(hbl.alloc hz _).grown hgrow2 (by simp;omega) (fun q hq=>by have:=(hown.lt q hq).1;omega);have UJ:=iI (hown.alloc _) hgrow2 ((gY wr (.cells #[.int .i64 m] 3) _ hlt).trans hrr) (by decide);have H2:=ay hown2;clear hgrow2 hown2 hown;go_wp2
    go_roundw
    case rel=>exact⟨j+1,by omega,by go_num,by rw[HS.out,bN,List.map_append];exact H2.out,UJ,hb2⟩
    case measure=>simp[intOf];omega
  ·have:j=ks.length:=by omega
   subst this;rw[List.take_length] at hown;have JZ:decide ((ks.length:Int)<(ks.length:Int))=false:=dA (by omega);go_wp2;go_ret;exact⟨_,rfl,nV.fZ hown (fun b hb=>hb),hbl⟩
theorem UK (E:bG)(hE:E.ok)(g:Nat)(ih:CU E g)(aF:Nat)(st:aJ)(r:Int × aJ)(w:World)(h:run E.ah E.depth (g+1) (.expr aF) st=some r)(hw:PW E st w)(hn:r.2.aj.length+1≤1099511627776)(acU:aF≤E.depth+1) :
  Calls Tryz.prog 167 #[.pointer (some ⟨E.pb,0,none⟩),.int .i64 aF] w (dZ E r w):=by
 have vg:=hE.2.2;have HD:=ay (Ec E hE aF st w hw)
 have hnd:(aX E.ah E.depth aF st).fE=0→aF≤E.depth:=fun q=>by
  unfold aX at q
  split at q
  ·exact(ny (by decide) _ q).elim
  ·omega
 rw[run] at h;generalize aX E.ah E.depth aF st=s at HD h hnd
 by_cases hf:s.fE=0
 ·rw[if_neg (by simp[hf])] at h
  have XK:=hnd hf;have hok:okB s=true:=iX hf;have HD':Hid (Calls Tryz.prog 229 #[.pointer (some ⟨E.pb,0,none⟩),.int .i64 aF] w (sW E s false w)):=ay (HD.out.mono fun e w' ⟨he,hp⟩=>⟨by rw[he,hok];rfl,hp⟩);clear HD hnd hok
  by_cases hcl:s.aC=true
  ·rw[if_pos hcl] at h
   have HI:=ay (fun w' hp=>ih _ _ _ w' h hp hn XK);clear h;go_enter Tryz.func167,Tryz.ntmps167;go_wp2_with (go_at_call 229;refine HD'.out.mono ?_);rintro e w1 ⟨rfl,hp1,hk1⟩;obtain⟨_,_,c2,_,_,_⟩:=hp1.cells;rw[hcl] at c2;clear hcl;go_wp2_with (go_at_call 230;refine(HI.out _ hp1).mono ?_);rintro e w2 ⟨rfl,hp2,hk2⟩;go_wp2;go_ret;exact⟨rfl,hp2,hk1.trans hk2⟩
  ·rw[if_neg hcl] at h
   have hcl':s.aC=false:=by simpa using hcl
   clear hcl
   have hHI:∀ (t:Task) (st:aJ) (r:Int × aJ),run E.ah E.depth g t st=some r→r.2.aj.length+1≤1099511627776→yw E t→∀ w,PW E st w→oq E r w t:=fun t st r h1 h2 h3 w h4=>ih t st r w h1 h4 h2 h3
   have ex:=bg E.ah E.depth g
   have fin:∀ a b:aJ,dP a b→b.aj.length+1≤1099511627776→a.aj.length+1≤1099511627776:=fun a b h1 h2=>by have:=h1.2.2.2;omega
   have N1:=ay (fun w hp=>vN E hE ⟨#[108,101,116]⟩ s w hp);have N2:=ay (fun w hp=>vN E hE ⟨#[105,102]⟩ s w hp);have N3:=ay (fun w hp=>vN E hE ⟨#[97,115,115,101,114,116]⟩ s w hp)
   by_cases hl:bF E.ah s [ad8]=true
   ·rw[if_pos hl] at h
    have e1:bF E.ah s [(⟨#[108,101,116]⟩:ByteArray).data.toList]=true:=hl;obtain⟨d,h1,h⟩:=cK h;obtain⟨f,h2,h⟩:=cK h
    injection h with h;subst h
    have n6:=fin _ _ (aL _ _ _) hn;have n5:=fin _ _ (ex _ _ _ h2) n6;have n4:=fin _ _ (aM _ _ _) n5;have n3:=fin _ _ (ex _ _ _ h1) n4;have n2:=fin _ _ (aM _ _ _) n3;have n1:=fin _ _ (fA _ _ _) n2;have n0:=fin _ _ (aO _ _) n1;have C1:=ay (fun w hp=>bT E s w hp hE.1 hE.2.1 n0);have C2:=ay (fun w hp=>sV E hE 1 (aD E.ah s).2 w hp n1);have C3:=ay (fun w hp=>eu E hE ⟨#[61]⟩ (bA E.ah 1 (aD E.ah s).2).2 w hp n2);have C4:=ay (hHI _ _ _ h1 n4 (by show aF+1≤_;omega));have C5:=ay (fun w hp=>eu E hE ⟨#[105,110]⟩ d.2 w hp n4);have C6:=ay (hHI _ _ _ h2 n6 (by show aF+1≤_;omega));have C7:=ay (fun w hp=>iQ E 7 [(aD E.ah s).1,(bA E.ah 1 (aD E.ah s).2).1,(aH E.ah [[61]] (bA E.ah 1 (aD E.ah s).2).2).1,d.1,(aH E.ah [WT] d.2).1,f.1] 6 _ f.2 w hp rfl rfl (by omega) n6);have E1:=ay e1;clear h1 h2 hl e1 n0 n1 n2 n3 n4 n5 n6 hHI ex fin ih hn;go_enter Tryz.func167,Tryz.ntmps167;go_wp2_with (go_at_call 229;refine HD'.out.mono ?_);rintro e w1 ⟨rfl,hp1,hk1⟩;obtain⟨_,_,c2,_,_,_⟩:=hp1.cells;rw[hcl'] at c2;go_wp2_with (go_at_call 160;refine(N1.out w1 hp1).mono ?_);rintro e w2 ⟨rfl,hp2,hk2⟩;rw[E1.out];obtain⟨d0,_,_,_,_,_⟩:=hp2.cells;clear c2;go_wp2_with (go_at_call 162;refine(C1.out w2 hp2).mono ?_);rintro e w3 ⟨rfl,hp3,gM⟩;go_wp2_with (go_at_call 102;refine(C2.out w3 hp3).mono ?_);rintro e w4 ⟨rfl,qo,hk4⟩;go_wp2_with (go_at_call 163;refine(C3.out w4 qo).mono ?_);rintro e w5 ⟨rfl,uG,lM⟩;go_wp2_with (go_at_call 167;refine(C4.out w5 uG).mono ?_);rintro e w6 ⟨rfl,En,vw⟩;go_wp2_with (go_at_call 163;refine(C5.out w6 En).mono ?_);rintro e w7 ⟨rfl,GV,Dk⟩;go_wp2_with (go_at_call 167;refine(C6.out w7 GV).mono ?_);rintro e w8 ⟨rfl,UL,CY⟩;go_wp2_with (go_at_call 101;refine(C7.out w8 UL).mono ?_);rintro e w9 ⟨rfl,hp9,XL⟩;go_wp2;go_ret;exact⟨rfl,hp9,((((((hk1.trans hk2).trans gM).trans hk4).trans lM).trans vw).trans Dk).trans (CY.trans XL)⟩
   ·rw[if_neg hl] at h
    have e1:bF E.ah s [(⟨#[108,101,116]⟩:ByteArray).data.toList]=false:=eq_false_of_ne_true hl;clear hl
    by_cases hi:bF E.ah s [tIf]=true
    ·rw[if_pos hi] at h
     have e2:bF E.ah s [(⟨#[105,102]⟩:ByteArray).data.toList]=true:=hi;obtain⟨b,h0,h⟩:=cK h;obtain⟨d,h1,h⟩:=cK h;obtain⟨f,h2,h⟩:=cK h
     injection h with h;subst h
     have n6:=fin _ _ (aL _ _ _) hn;have n5:=fin _ _ (ex _ _ _ h2) n6;have n4:=fin _ _ (aM _ _ _) n5;have n3:=fin _ _ (ex _ _ _ h1) n4;have n2:=fin _ _ (aM _ _ _) n3;have n1:=fin _ _ (ex _ _ _ h0) n2;have n0:=fin _ _ (aO _ _) n1;have C1:=ay (fun w hp=>bT E s w hp hE.1 hE.2.1 n0);have C2:=ay (hHI _ _ _ h0 n2 (by show aF+1≤_;omega));have C3:=ay (fun w hp=>eu E hE ⟨#[116,104,101,110]⟩ b.2 w hp n2);have C4:=ay (hHI _ _ _ h1 n4 (by show aF+1≤_;omega));have C5:=ay (fun w hp=>eu E hE ⟨#[101,108,115,101]⟩ d.2 w hp n4);have C6:=ay (hHI _ _ _ h2 n6 (by show aF+1≤_;omega));have C7:=ay (fun w hp=>iQ E 8 [(aD E.ah s).1,b.1,(aH E.ah [Hz] b.2).1,d.1,(aH E.ah [H7] d.2).1,f.1] 6 _ f.2 w hp rfl rfl (by omega) n6);have E1:=ay e1;have E2:=ay e2;clear h0 h1 h2 hi e1 e2 n0 n1 n2 n3 n4 n5 n6 hHI ex fin ih hn;go_enter Tryz.func167,Tryz.ntmps167;go_wp2_with (go_at_call 229;refine HD'.out.mono ?_);rintro e w1 ⟨rfl,hp1,hk1⟩;obtain⟨_,_,c2,_,_,_⟩:=hp1.cells;rw[hcl'] at c2;go_wp2_with (go_at_call 160;refine(N1.out w1 hp1).mono ?_);rintro e w2 ⟨rfl,hp2,hk2⟩;rw[E1.out];obtain⟨_,_,d2,_,_,_⟩:=hp2.cells;rw[hcl'] at d2;clear c2;go_wp2_with (go_at_call 160;refine(N2.out w2 hp2).mono ?_);rintro e w3 ⟨rfl,hp3,gM⟩;rw[E2.out];obtain⟨d0,_,_,_,_,_⟩:=hp3.cells;clear d2;go_wp2_with (go_at_call 162;refine(C1.out w3 hp3).mono ?_);rintro e w4 ⟨rfl,qo,hk4⟩;go_wp2_with (go_at_call 167;refine(C2.out w4 qo).mono ?_);rintro e w5 ⟨rfl,uG,lM⟩;go_wp2_with (go_at_call 163;refine(C3.out w5 uG).mono ?_);rintro e w6 ⟨rfl,En,vw⟩;go_wp2_with (go_at_call 167;refine(C4.out w6 En).mono ?_);rintro e w7 ⟨rfl,GV,Dk⟩;go_wp2_with (go_at_call 163;refine(C5.out w7 GV).mono ?_);rintro e w8 ⟨rfl,UL,CY⟩;go_wp2_with (go_at_call 167;refine(C6.out w8 UL).mono ?_);rintro e w9 ⟨rfl,hp9,XL⟩;go_wp2_with (go_at_call 101;refine(C7.out w9 hp9).mono ?_);rintro e mH ⟨rfl,abt,hk10⟩;go_wp2;go_ret
     exact⟨rfl,abt,((((((((hk1.trans hk2).trans gM).trans hk4).trans lM).trans vw).trans Dk).trans CY).trans XL).trans hk10⟩
    ·rw[if_neg hi] at h
     have e2:bF E.ah s [(⟨#[105,102]⟩:ByteArray).data.toList]=false:=eq_false_of_ne_true hi;clear hi
     by_cases ha:bF E.ah s [Sv]=true
     ·rw[if_pos ha] at h
      have e3:bF E.ah s [(⟨#[97,115,115,101,114,116]⟩:ByteArray).data.toList]=true:=ha;obtain⟨b,h0,h⟩:=cK h;obtain⟨d,h1,h⟩:=cK h
      injection h with h;subst h
      have n4:=fin _ _ (aL _ _ _) hn;have n3:=fin _ _ (ex _ _ _ h1) n4;have n2:=fin _ _ (aM _ _ _) n3;have n1:=fin _ _ (ex _ _ _ h0) n2;have n0:=fin _ _ (aO _ _) n1;have C1:=ay (fun w hp=>bT E s w hp hE.1 hE.2.1 n0);have C2:=ay (hHI _ _ _ h0 n2 (by show aF+1≤_;omega));have C3:=ay (fun w hp=>eu E hE ⟨#[105,110]⟩ b.2 w hp n2);have C4:=ay (hHI _ _ _ h1 n4 (by show aF+1≤_;omega));have C5:=ay (fun w hp=>iQ E 9 [(aD E.ah s).1,b.1,(aH E.ah [WT] b.2).1,d.1] 4 _ d.2 w hp rfl rfl (by omega) n4);have E1:=ay e1;have E2:=ay e2;have E3:=ay e3;clear h0 h1 ha e1 e2 e3 n0 n1 n2 n3 n4 hHI ex fin ih hn;go_enter Tryz.func167,Tryz.ntmps167;go_wp2_with (go_at_call 229;refine HD'.out.mono ?_);rintro e w1 ⟨rfl,hp1,hk1⟩;obtain⟨_,_,c2,_,_,_⟩:=hp1.cells;rw[hcl'] at c2;go_wp2_with (go_at_call 160;refine(N1.out w1 hp1).mono ?_);rintro e w2 ⟨rfl,hp2,hk2⟩;rw[E1.out];go_wp2_with (go_at_call 160;refine(N2.out w2 hp2).mono ?_);rintro e w3 ⟨rfl,hp3,gM⟩;rw[E2.out];go_wp2_with (go_at_call 160;refine(N3.out w3 hp3).mono ?_);rintro e w4 ⟨rfl,qo,hk4⟩;rw[E3.out];obtain⟨d0,_,_,_,_,_⟩:=qo.cells;clear c2;go_wp2_with (go_at_call 162;refine(C1.out w4 qo).mono ?_);rintro e w5 ⟨rfl,uG,lM⟩;go_wp2_with (go_at_call 167;refine(C2.out w5 uG).mono ?_);rintro e w6 ⟨rfl,En,vw⟩;go_wp2_with (go_at_call 163;refine(C3.out w6 En).mono ?_);rintro e w7 ⟨rfl,GV,Dk⟩;go_wp2_with (go_at_call 167;refine(C4.out w7 GV).mono ?_);rintro e w8 ⟨rfl,UL,CY⟩;go_wp2_with (go_at_call 101;refine(C5.out w8 UL).mono ?_);rintro e w9 ⟨rfl,hp9,XL⟩;go_wp2;go_ret;exact⟨rfl,hp9,(((((((hk1.trans hk2).trans gM).trans hk4).trans lM).trans vw).trans Dk).trans CY).trans XL⟩
     ·rw[if_neg ha] at h
      have e3:bF E.ah s [(⟨#[97,115,115,101,114,116]⟩:ByteArray).data.toList]=false:=eq_false_of_ne_true ha;have HI:=ay (hHI _ _ _ h hn XK);have E1:=ay e1;have E2:=ay e2;have E3:=ay e3;clear h ha e1 e2 e3 hHI ex fin ih hn;go_enter Tryz.func167,Tryz.ntmps167;go_wp2_with (go_at_call 229;refine HD'.out.mono ?_);rintro e w1 ⟨rfl,hp1,hk1⟩;obtain⟨_,_,c2,_,_,_⟩:=hp1.cells;rw[hcl'] at c2;go_wp2_with (go_at_call 160;refine(N1.out w1 hp1).mono ?_);rintro e w2 ⟨rfl,hp2,hk2⟩;rw[E1.out];go_wp2_with (go_at_call 160;refine(N2.out w2 hp2).mono ?_);rintro e w3 ⟨rfl,hp3,gM⟩;rw[E2.out];go_wp2_with (go_at_call 160;refine(N3.out w3 hp3).mono ?_);rintro e w4 ⟨rfl,qo,hk4⟩;rw[E3.out];go_wp2_with (go_at_call 230;refine(HI.out w4 qo).mono ?_);rintro e w5 ⟨rfl,uG,lM⟩;go_wp2;go_ret;exact⟨rfl,uG,(((hk1.trans hk2).trans gM).trans hk4).trans lM⟩
 ·rw[if_pos hf] at h
  injection h with h
  subst h;have hok:okB s=false:=dA hf;have HD':Hid (Calls Tryz.prog 229 #[.pointer (some ⟨E.pb,0,none⟩),.int .i64 aF] w (sW E s true w)):=ay (HD.out.mono fun e w' ⟨he,hp⟩=>⟨by rw[he,hok];rfl,hp⟩);clear HD hnd hok hf;go_enter Tryz.func167,Tryz.ntmps167;go_wp2_with (go_at_call 229;refine HD'.out.mono ?_);rintro e w1 ⟨rfl,hp1,hk1⟩;go_wp2;go_ret;exact⟨rfl,hp1,hk1⟩
theorem jW (E:bG)(st:aJ)(hf:st.fE=0)(w:World)(h:PW E st w):Calls Tryz.prog 96 #[.pointer (some ⟨E.pb,0,none⟩)] w (sW E st true w) :=
 (uE E st w h).mono fun e w' ⟨he,hw⟩=>by subst hw;exact⟨by rw[he,show okB st=true from iX hf],h,Kp.refl _ _⟩
theorem uT (E:bG)(st:aJ)(hf:st.fE≠0)(w:World)(h:PW E st w):Calls Tryz.prog 96 #[.pointer (some ⟨E.pb,0,none⟩)] w (sW E st false w) :=
 (uE E st w h).mono fun e w' ⟨he,hw⟩=>by subst hw;exact⟨by rw[he,show okB st=false from dA hf],h,Kp.refl _ _⟩
theorem J2 (E:bG)(hE:E.ok)(aF:Nat)(st:aJ)(hf:(aX E.ah E.depth aF st).fE=0)(w:World)(h:PW E st w) :
  Calls Tryz.prog 229 #[.pointer (some ⟨E.pb,0,none⟩),.int .i64 aF] w (sW E (aX E.ah E.depth aF st) false w) :=
 (Ec E hE aF st w h).mono fun e w' ⟨he,hp⟩=>⟨by rw[he,show okB _=true from iX hf];rfl,hp⟩
theorem Eo (E:bG)(hE:E.ok)(aF:Nat)(st:aJ)(hf:(aX E.ah E.depth aF st).fE≠0)(w:World)(h:PW E st w) :
  Calls Tryz.prog 229 #[.pointer (some ⟨E.pb,0,none⟩),.int .i64 aF] w (sW E (aX E.ah E.depth aF st) true w) :=
 (Ec E hE aF st w h).mono fun e w' ⟨he,hp⟩=>⟨by rw[he,show okB _=false from dA hf];rfl,hp⟩
theorem AZ (E:bG)(aF:Nat)(st:aJ)(hf:(aX E.ah E.depth aF st).fE=0):aF≤E.depth:=by
 unfold aX at hf
 split at hf
 ·exact(ny (by decide) _ hf).elim
 ·omega
theorem aK {a b:aJ}(h1:dP a b)(h2:b.aj.length+1≤1099511627776):a.aj.length+1≤1099511627776:=by have:=h1.2.2.2;omega
theorem dW (E:bG)(hE:E.ok)(b:ByteArray)(st:aJ)(x:Bool)(hx:bF E.ah st [b.data.toList]=x)(w:World)(h:PW E st w) :
  Calls Tryz.prog 160 #[.pointer (some ⟨E.pb,0,none⟩),.slice (some ⟨w.heap.size,0,none⟩) 1 1] (w.alloc (.cells #[.string b] 9)) (sW E st x w):=by
 subst hx;exact vN E hE b st w h
theorem J3 (E:bG)(hE:E.ok)(g:Nat)(ih:CU E g)(aF:Nat)(st:aJ)(r:Int × aJ)(w:World)(h:run E.ah E.depth (g+1) (.formula aF) st=some r)(hp:PW E st w)(hn:r.2.aj.length+1≤1099511627776)(dG:aF≤E.depth) :
  Calls Tryz.prog 230 #[.pointer (some ⟨E.pb,0,none⟩),.int .i64 aF] w (dZ E r w):=by
 have vg:=hE.2.2
 have hHI:∀ (t:Task) (st:aJ) (r:Int × aJ),run E.ah E.depth g t st=some r→r.2.aj.length+1≤1099511627776→yw E t→∀ w,PW E st w→oq E r w t:=fun t st r h1 h2 h3 w h4=>ih t st r w h1 h4 h2 h3
 have ex:=bg E.ah E.depth g;rw[run] at h;obtain⟨a,h0,h⟩:=cK h
 by_cases hf:a.2.fE=0
 ·by_cases hx:bF E.ah a.2 [[61,62]]=true
  ·rw[if_pos ⟨hf,hx⟩] at h
   by_cases hd:(aX E.ah E.depth (aF+1) (aD E.ah a.2).2).fE=0
   ·rw[if_neg (by simp[hd])] at h
    obtain⟨b,h1,h⟩:=cK h
    injection h with h;subst h
    have n4:=aK (aL _ _ _) hn;have n3:=aK (ex _ _ _ h1) n4;have n2:=aK (fK _ _ _ _) n3;have n1:=aK (aO _ _) n2;have HR:=ay (hHI _ _ _ h0 n1 ⟨by decide,dG⟩);have HO:=ay (jW E a.2 hf);have HX:=ay (dW E hE ⟨#[61,62]⟩ a.2 true hx);have HL:=ay (fun w hp=>bT E a.2 w hp hE.1 hE.2.1 n1);have HD:=ay (J2 E hE (aF+1) _ hd);have HF:=ay (hHI _ _ _ h1 n4 (AZ E _ _ hd));have HN:=ay (fun w hp=>iQ E 10 [a.1,(aD E.ah a.2).1,b.1] 3 _ b.2 w hp rfl rfl (by omega) n4);clear h0 h1 hf hx hd n1 n2 n3 n4 hHI ex ih hn;go_enter Tryz.func230,Tryz.ntmps230;go_wp2_with (go_at_call 273;refine(HR.out w hp).mono ?_);rintro e w1 ⟨rfl,hp1,hk1⟩;go_wp2_with (go_at_call 96;refine(HO.out w1 hp1).mono ?_);rintro e w2 ⟨rfl,hp2,hk2⟩;go_wp2_with (go_at_call 160;refine(HX.out w2 hp2).mono ?_);rintro e w3 ⟨rfl,hp3,gM⟩;obtain⟨d0,_,_,_,_,_⟩:=hp3.cells;go_wp2_with (go_at_call 162;refine(HL.out w3 hp3).mono ?_);rintro e w4 ⟨rfl,qo,hk4⟩;clear d0;go_wp2_with (go_at_call 229;refine(HD.out w4 qo).mono ?_);rintro e w5 ⟨rfl,uG,lM⟩;go_wp2_with (go_at_call 230;refine(HF.out w5 uG).mono ?_);rintro e w6 ⟨rfl,En,vw⟩;go_wp2_with (go_at_call 101;refine(HN.out w6 En).mono ?_);rintro e w7 ⟨rfl,GV,Dk⟩;go_wp2;go_ret;exact⟨rfl,GV,(((((hk1.trans hk2).trans gM).trans hk4).trans lM).trans vw).trans Dk⟩
   ·rw[if_pos hd] at h
    injection h with h;subst h
    have n2:=aK (fK _ _ _ _) hn;have n1:=aK (aO _ _) n2;have HR:=ay (hHI _ _ _ h0 n1 ⟨by decide,dG⟩);have HO:=ay (jW E a.2 hf);have HX:=ay (dW E hE ⟨#[61,62]⟩ a.2 true hx);have HL:=ay (fun w hp=>bT E a.2 w hp hE.1 hE.2.1 n1);have HD:=ay (Eo E hE (aF+1) _ hd);clear h0 hf hx hd n1 n2 hHI ex ih hn;go_enter Tryz.func230,Tryz.ntmps230;go_wp2_with (go_at_call 273;refine(HR.out w hp).mono ?_);rintro e w1 ⟨rfl,hp1,hk1⟩;go_wp2_with (go_at_call 96;refine(HO.out w1 hp1).mono ?_);rintro e w2 ⟨rfl,hp2,hk2⟩;go_wp2_with (go_at_call 160;refine(HX.out w2 hp2).mono ?_);rintro e w3 ⟨rfl,hp3,gM⟩;obtain⟨d0,_,_,_,_,_⟩:=hp3.cells;go_wp2_with (go_at_call 162;refine(HL.out w3 hp3).mono ?_);rintro e w4 ⟨rfl,qo,hk4⟩;clear d0;go_wp2_with (go_at_call 229;refine(HD.out w4 qo).mono ?_);rintro e w5 ⟨rfl,uG,lM⟩;go_wp2;go_ret;exact⟨rfl,uG,(((hk1.trans hk2).trans gM).trans hk4).trans lM⟩
  ·rw[if_neg (fun q=>hx q.2)] at h
   injection h with h;subst h
   have HR:=ay (hHI _ _ _ h0 hn ⟨by decide,dG⟩);have HO:=ay (jW E a.2 hf);have HX:=ay (dW E hE ⟨#[61,62]⟩ a.2 false (eq_false_of_ne_true hx));clear h0 hf hx hHI ex ih hn;go_enter Tryz.func230,Tryz.ntmps230;go_wp2_with (go_at_call 273;refine(HR.out w hp).mono ?_);rintro e w1 ⟨rfl,hp1,hk1⟩;go_wp2_with (go_at_call 96;refine(HO.out w1 hp1).mono ?_);rintro e w2 ⟨rfl,hp2,hk2⟩;go_wp2_with (go_at_call 160;refine(HX.out w2 hp2).mono ?_);rintro e w3 ⟨rfl,hp3,gM⟩;go_wp2;go_ret;exact⟨rfl,hp3,(hk1.trans hk2).trans gM⟩
 ·rw[if_neg (fun q=>hf q.1)] at h
  injection h with h;subst h
  have HR:=ay (hHI _ _ _ h0 hn ⟨by decide,dG⟩);have HO:=ay (uT E a.2 hf);clear h0 hf hHI ex ih hn;go_enter Tryz.func230,Tryz.ntmps230;go_wp2_with (go_at_call 273;refine(HR.out w hp).mono ?_);rintro e w1 ⟨rfl,hp1,hk1⟩;go_wp2_with (go_at_call 96;refine(HO.out w1 hp1).mono ?_);rintro e w2 ⟨rfl,hp2,hk2⟩;go_wp2;go_ret;exact⟨rfl,hp2,hk1.trans hk2⟩
theorem UM (E:bG)(g:Nat)(ih:CU E g)(l aF:Nat)(st:aJ)(r:Int × aJ)(w:World)(h:run E.ah E.depth (g+1) (.part l aF) st=some r)(hp:PW E st w)(hn:r.2.aj.length+1≤1099511627776)(dG:l≤4∧aF≤E.depth) :
  Calls Tryz.prog 294 #[.pointer (some ⟨E.pb,0,none⟩),.int .i64 l,.int .i64 aF] w (dZ E r w):=by
 have hHI:∀ (t:Task) (st:aJ) (r:Int × aJ),run E.ah E.depth g t st=some r→r.2.aj.length+1≤1099511627776→yw E t→∀ w,PW E st w→oq E r w t:=fun t st r h1 h2 h3 w h4=>ih t st r w h1 h4 h2 h3
 rw[run] at h;obtain⟨hl,dG⟩:=dG
 by_cases h1:l=1
 ·rw[if_pos h1] at h
  subst h1;have HR:=ay (hHI _ _ _ h hn dG);clear h hHI ih hn;go_enter Tryz.func294,Tryz.ntmps294;go_wp2_with (go_at_call 306;refine(HR.out w hp).mono ?_);rintro e w1 ⟨rfl,hp1,hk1⟩;go_wp2;go_ret;exact⟨rfl,hp1,hk1⟩
 ·rw[if_neg h1] at h
  by_cases h4:l=4
  ·rw[if_pos h4] at h
   subst h4;have HR:=ay (hHI _ _ _ h hn dG);clear h hHI ih hn h1;go_enter Tryz.func294,Tryz.ntmps294;go_wp2_with (go_at_call 307;refine(HR.out w hp).mono ?_);rintro e w1 ⟨rfl,hp1,hk1⟩;go_wp2;go_ret;exact⟨rfl,hp1,hk1⟩
  ·rw[if_neg h4] at h
   have HR:=ay (hHI _ _ _ h hn ⟨by omega,dG⟩);clear h hHI ih hn
   have af2:l=0∨l=2∨l=3:=by omega
   rcases af2 with rfl|rfl|rfl
   ·clear h1 h4 hl
    go_enter Tryz.func294,Tryz.ntmps294;go_wp2_with (go_at_call 273;refine(HR.out w hp).mono ?_);rintro e w1 ⟨rfl,hp1,hk1⟩;go_wp2;go_ret;exact⟨rfl,hp1,hk1⟩
   ·clear h1 h4 hl
    go_enter Tryz.func294,Tryz.ntmps294;go_wp2_with (go_at_call 273;refine(HR.out w hp).mono ?_);rintro e w1 ⟨rfl,hp1,hk1⟩;go_wp2;go_ret;exact⟨rfl,hp1,hk1⟩
   ·clear h1 h4 hl
    go_enter Tryz.func294,Tryz.ntmps294;go_wp2_with (go_at_call 273;refine(HR.out w hp).mono ?_);rintro e w1 ⟨rfl,hp1,hk1⟩;go_wp2;go_ret;exact⟨rfl,hp1,hk1⟩
