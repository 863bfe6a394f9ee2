/- Walks and plain laws: RefLex1, RefLex2, RefLex3, RefLex4, RefLex5, RefLex6. -/
import Derived.Test.YtknicmmigbhpcaaGreatDoorF06
set_option maxHeartbeats 16000000
set_option maxRecDepth 100000
set_option linter.unusedVariables false
set_option linter.unusedSimpArgs false
namespace Go.Proofs.YtknicmmigbhpcaaGreatDoor
open Go.RowKit
theorem Hw (c:UInt8):dn c=((c.toNat:Int) == 32 || (c.toNat:Int) == 9 || (c.toNat:Int) == 13 || (c.toNat:Int) == 10):=by
  simp only[dn,Qw]
  rfl
theorem lN (c:UInt8)(w:World):Calls Tryz.prog 188 #[.int .u8 c.toNat] w fun e w'=>e=.returned (.bool (dn c))∧w'=w:=by
  rw[Hw];generalize h1:((c.toNat:Int) == 32)=b1;generalize h2:((c.toNat:Int) == 9)=b2;generalize h3:((c.toNat:Int) == 13)=b3;generalize h4:((c.toNat:Int) == 10)=b4
  cases b1<;>cases b2<;>cases b3<;>cases b4<;>
  (go_enter Tryz.func188,Tryz.ntmps188
   go_wp2;go_ret
   exact⟨rfl,rfl⟩)
theorem dV (c:UInt8)(w:World):Calls Tryz.prog 189 #[.int .u8 c.toNat] w fun e w'=>e=.returned (.bool (bT c))∧w'=w:=by
  rw[vN];go_enter Tryz.func189,Tryz.ntmps189;go_wp2
  all_goals (go_ret;refine⟨aM ?_,rfl⟩;simp;try omega)
theorem dw (c:UInt8)(w:World):Calls Tryz.prog 190 #[.int .u8 c.toNat] w fun e w'=>e=.returned (.bool (aJ c))∧w'=w:=by
  rw[xK];go_enter Tryz.func190,Tryz.ntmps190;go_wp2
  all_goals (go_ret;refine⟨aM ?_,rfl⟩;simp;try omega)
theorem drop_byte {s:ByteArray}{k:Nat}(h:k<s.size):s.data.toList.drop k=(s[k]'h) :: s.data.toList.drop (k+1):=by
  have h':k<s.data.toList.length:=by rw[← Lib.size_eq];exact h
  rw[List.drop_eq_getElem_cons h']
  rfl
theorem KH (s:ByteArray)(p:Nat)(w:World)(hs:s.size≤1099511627776)(hp:p≤s.size) :
    Calls Tryz.prog 120 #[.string s,.int .i64 p] w fun e w'=>e=.returned (.int .i64 (p+bf false (s.data.toList.drop p):Nat))∧w'=w:=by
  generalize hR:p+bf false (s.data.toList.drop p)=R;have HR:=ah hR;clear hR;go_enter Tryz.func120,Tryz.ntmps120;go_wp2
  go_loop [1] (fun a=>∃ k:Nat,k≤s.size∧a=.int .i64 k∧k+bf false (s.data.toList.drop k)=R) (fun a=>s.size - (intOf a).toNat)
  case atStart=>exact⟨p,hp,rfl,HR.out⟩
  case round =>
    clear HR;obtain⟨k,hk,rfl,hR⟩:=hrel
    by_cases hlt:k<s.size
    · rw[drop_byte hlt] at hR
      have hI:(k:Int) < ↑s.size:=by omega
      by_cases hb:dn (s[k]'hlt)=true
      · rw[bf,if_pos hb] at hR
        have HR:=ah hR;clear hR;go_wp2_with (go_at_call 188;refine(lN _ _).mono ?_;rintro e w1 ⟨rfl,rfl⟩)
        go_round
        case rel=>exact⟨k+1,by omega,by go_num,by have:=HR.out;omega⟩
        case measure=>simp[intOf];omega
      · rw[bf,if_neg hb] at hR
        have hb':dn (s[k]'hlt)=false:=by simpa using hb
        clear hb
        by_cases hlt2:k+1<s.size
        · rw[drop_byte hlt2] at hR
          have hI2:(k:Int)+1 < ↑s.size:=by omega
          by_cases hm:(s[k]'hlt)=45∧(s[k+1]'hlt2)=45
          · rw[if_pos ⟨hm.1,by rw[List.head?_cons,hm.2]⟩,← drop_byte hlt2] at hR
            have t1:(((s[k]'hlt).toNat:Int) == 45)=true:=by rw[hm.1];rfl
            have t2:(((s[k+1]'hlt2).toNat:Int) == 45)=true:=by rw[hm.2];rfl
            have HR:=ah hR;have HM:=ah hm;clear hR hm;go_wp2_with (go_at_call 188;refine(lN _ _).mono ?_;rintro e w1 ⟨rfl,rfl⟩)
            go_loop [1] (fun a=>∃ j:Nat,k≤j∧j≤s.size∧a=.int .i64 j∧j+bf true (s.data.toList.drop j)=R) (fun a=>s.size - (intOf a).toNat)
            case atStart =>
              refine⟨k,Nat.le_refl _,hk,rfl,?_⟩;have h1:=HR.out;have h2:=HM.out;rw[drop_byte hlt,bf,if_neg (by rw[h2.1];decide)];omega
            case round =>
              obtain⟨j,hkj,hj,rfl,hq⟩:=hrel;clear t1 t2
              by_cases hjt:j<s.size
              · have hJ:(j:Int) < ↑s.size:=by omega
                rw[drop_byte hjt,bf] at hq
                by_cases EN:(s[j]'hjt)=10
                · rw[if_pos EN] at hq
                  have hjk:k+1≤j:=by
                    rcases Nat.lt_or_ge k j with h|h
                    · exact h
                    · obtain rfl:j=k:=by omega
                      have:=HM.out.1;rw[EN] at this;exact absurd this (by decide)
                  have hq2:j+bf false (s.data.toList.drop j)=R:=by
                    rw[drop_byte hjt,bf,if_pos (by rw[EN];decide)];exact hq
                  have t3:(((s[j]'hjt).toNat:Int) != 10)=false:=by rw[EN];rfl
                  have HQ:=ah hq2;have KI:=ah EN;clear hq hq2 EN;go_wp2
                  go_round
                  case rel=>exact⟨j,hj,rfl,HQ.out⟩
                  case measure=>simp[intOf];omega
                · rw[if_neg EN] at hq
                  have t3:(((s[j]'hjt).toNat:Int) != 10)=true:=by
                    rw[bne_iff_ne];intro q;exact EN (UInt8.toNat_inj.1 (by have e1:(10:UInt8).toNat=10:=rfl;omega))
                  have HQ:=ah hq;have KI:=ah EN;clear hq EN;go_wp2
                  go_round
                  case rel=>exact⟨j+1,by omega,by omega,by go_num,by have:=HQ.out;omega⟩
                  case measure=>simp[intOf];omega
              · obtain rfl:j=s.size:=by omega
                have hjk:k+1≤s.size:=hlt
                have hq2:s.size+bf false (s.data.toList.drop s.size)=R:=by
                  have e:s.data.toList.drop s.size=[]:=by rw[List.drop_eq_nil_iff,← Lib.size_eq];exact Nat.le_refl _
                  rw[e] at hq ⊢;exact hq
                have HQ:=ah hq2;clear hq hq2;go_wp2
                go_round
                case rel=>exact⟨s.size,Nat.le_refl _,rfl,HQ.out⟩
                case measure=>simp[intOf];omega
          · have hR:k=R:=by
              rw[if_neg (fun q=>hm ⟨q.1,by have:=q.2;rw[List.head?_cons] at this;injection this⟩)] at hR;exact hR
            have HR:=ah hR;clear hR
            by_cases ha:(s[k]'hlt)=45
            · have t1:(((s[k]'hlt).toNat:Int) == 45)=true:=by rw[ha];rfl
              have t2:(((s[k+1]'hlt2).toNat:Int) == 45)=false:=by
                rw[← Bool.not_eq_true,beq_iff_eq];intro q;exact hm ⟨ha,UInt8.toNat_inj.1 (by have e1:(45:UInt8).toNat=45:=rfl;omega)⟩
              clear ha hm;go_wp2_with (go_at_call 188;refine(lN _ _).mono ?_;rintro e w1 ⟨rfl,rfl⟩);go_ret;exact⟨kg (by rw[← HR.out]),rfl⟩
            · have t1:(((s[k]'hlt).toNat:Int) == 45)=false:=by
                rw[← Bool.not_eq_true,beq_iff_eq];intro q;exact ha (UInt8.toNat_inj.1 (by have e1:(45:UInt8).toNat=45:=rfl;omega))
              clear ha hm;go_wp2_with (go_at_call 188;refine(lN _ _).mono ?_;rintro e w1 ⟨rfl,rfl⟩);go_ret;exact⟨kg (by rw[← HR.out]),rfl⟩
        · have hR:k=R:=by
            have e:s.data.toList.drop (k+1)=[]:=by rw[List.drop_eq_nil_iff,← Lib.size_eq];omega
            rw[e,if_neg (by rintro⟨_,q⟩;cases q)] at hR;exact hR
          have HR:=ah hR;clear hR;have hI2:decide ((k:Int)+1 < ↑s.size)=false:=decide_eq_false (by omega);go_wp2_with (go_at_call 188;refine(lN _ _).mono ?_;rintro e w1 ⟨rfl,rfl⟩);go_ret;exact⟨kg (by rw[← HR.out]),rfl⟩
    · have hR:k=R:=by
        have e:s.data.toList.drop k=[]:=by rw[List.drop_eq_nil_iff,← Lib.size_eq];omega
        rw[e] at hR;exact hR
      have HR:=ah hR;clear hR;have hI:decide ((k:Int) < ↑s.size)=false:=decide_eq_false (by omega);go_wp2;go_ret;exact⟨kg (by rw[← HR.out]),rfl⟩
def jF:List (List UInt8):=[[105,109,112,111,114,116],[112,117,98],[102,117,110],[108,101,116],[105,110],[105,102],[116,104,101,110],[101,108,115,101],[97,115,115,101,114,116],[116,114,117,101],[102,97,108,115,101],[110,111,116],[105,110,116],[98,111,111,108],[114,101,115]]
theorem KJ:jF.Perm j5:=by decide
theorem Cn (x:List UInt8):x∈jF↔x∈j5:=KJ.mem_iff
def rowOf (l:List (List UInt8)):Array Value:=(l.map fun x=>Value.string ⟨x.toArray⟩).toArray
theorem KL (l:List (List UInt8))(k:Nat)(h:k<l.length):(rowOf l)[k]?=some (.string ⟨l[k].toArray⟩):=by
 simp[rowOf,h]
theorem Zl {x:List UInt8}{l:List (List UInt8)}(h:∀ j,(hj:j<l.length)→l[j]≠x):x ∉ l:=by
 intro hx;obtain⟨j,hj,e⟩:=List.mem_iff_getElem.1 hx;exact h j hj e
theorem str_eq (x:List UInt8)(s:ByteArray):((ByteArray.mk x.toArray).toList == s.toList)=decide (x=s.data.toList):=by
 rw[Lib.toList_data,Lib.toList_data]
 by_cases h:x=s.data.toList
 ·rw[decide_eq_true h,beq_iff_eq];exact h
 ·rw[decide_eq_false h,← Bool.not_eq_true,beq_iff_eq];exact h
theorem Co (s:ByteArray)(w:World) :
  Calls Tryz.prog 191 #[.string s] w fun e w'=>e=.returned (.bool (decide (s.data.toList∈j5)))∧Below w.heap.size w w':=by
 have hz:∀ k,k<15→k<jF.length:=fun k h=>h
 go_enter Tryz.func191,Tryz.ntmps191;go_wp2;generalize hw:w.alloc _=wx
 have hh:wx.heap[w.heap.size]?=some (.cells (rowOf jF) 306 (0,0)):=by rw[← hw];exact heap_alloc_new w _
 have hb:Below w.heap.size w wx:=by rw[← hw];exact(Below.refl _ _).alloc (Nat.le_refl _) _
 clear hw
 go_loop [4] (fun i=>∃ k:Nat,k≤15∧i=.int .i64 k∧∀ j,(hj:j<jF.length)→j<k→jF[j]≠s.data.toList) (fun i=>15 - (intOf i).toNat)
 case atStart=>exact⟨0,by omega,rfl,fun j _ h=>absurd h (by omega)⟩
 case round =>
  obtain⟨k,hk,rfl,hj⟩:=hrel
  by_cases hlt:k<15
  ·have hkl:=hz k hlt
   have hI:(k:Int)<15:=by omega
   have hc:wx.cell? ⟨w.heap.size,k,none⟩=some (.string ⟨jF[k].toArray⟩):=by rw[Lib.cell_of_heap hh];exact KL _ _ hkl
   have hs:=str_eq jF[k] s
   by_cases he:jF[k]=s.data.toList
   ·have hm:s.data.toList∈j5:=(Cn _).1 (he ▸ List.getElem_mem _)
    rw[decide_eq_true he] at hs;generalize ByteArray.mk jF[k].toArray=y at hc hs;have HM:=ah hm;clear hm he hh hj;go_wp2;go_ret;exact⟨aM (decide_eq_true HM.out).symm,hb⟩
   ·rw[decide_eq_false he] at hs
    have HJ:Hid (∀ j,(hj:j<jF.length)→j<k+1→jF[j]≠s.data.toList):=ah (fun j hjl hjk=>by
     by_cases hkj:j=k
     ·subst hkj;exact he
     ·exact hj j hjl (by omega))
    generalize ByteArray.mk jF[k].toArray=y at hc hs;clear he hh hj;go_wp2
    go_round
    case rel=>exact⟨k+1,by omega,by go_num,HJ.out⟩
    case measure=>simp[intOf];omega
  ·have hm:s.data.toList ∉ j5:=fun q=>Zl (fun j hjl=>hj j hjl (by have:jF.length=15:=rfl;omega)) ((Cn _).2 q)
   have HM:=ah hm;have hI:decide ((k:Int)<15)=false:=decide_eq_false (by omega);clear hm hj hh;go_wp2;go_ret;exact⟨aM (decide_eq_false HM.out).symm,hb⟩
def kr (T:List UInt8):Nat:=match l9 T with
 | some x=>x.length
 | none=>0
theorem Hy:∀ x∈l8,x.length=2:=by decide
theorem KM {T x:List UInt8}(h:x∈l8)(hx:x <+: T):kr T=2:=by
 rw[kr,l9,iw,List.find?_append]
 cases hf:l8.find? (fun x=>x.isPrefixOf T) with
 | none =>
  rw[List.find?_eq_none] at hf;exact absurd (List.isPrefixOf_iff_prefix.2 hx) (hf x h)
 | some y =>
  rw[Option.some_or];exact Hy y (List.mem_of_find?_eq_some hf)
theorem KN {c:UInt8}{r:List UInt8}(h:∀ x∈l8,¬ x <+: c :: r):kr (c :: r)=if c∈G5 then 1 else 0:=by
 rw[kr,l9,iw,List.find?_append]
 have hf:l8.find? (fun x=>x.isPrefixOf (c :: r))=none:=by
  rw[List.find?_eq_none];intro x hx q;exact h x hx (List.isPrefixOf_iff_prefix.1 q)
 rw[hf,Option.none_or]
 by_cases hc:c∈G5
 ·rw[if_pos hc]
  cases hq:(G5.map fun c=>[c]).find? (fun x=>x.isPrefixOf (c :: r)) with
  | none =>
   rw[List.find?_eq_none] at hq;exact absurd (List.isPrefixOf_iff_prefix.2 ⟨r,rfl⟩) (hq [c] (List.mem_map.2 ⟨c,hc,rfl⟩))
  | some y =>
   obtain⟨d,_,rfl⟩:=List.mem_map.1 (List.mem_of_find?_eq_some hq)
   rfl
 ·rw[if_neg hc]
  have hq:(G5.map fun c=>[c]).find? (fun x=>x.isPrefixOf (c :: r))=none:=by
   rw[List.find?_eq_none];intro x hx q;obtain⟨d,hd,rfl⟩:=List.mem_map.1 hx;have:=List.isPrefixOf_iff_prefix.1 q;obtain⟨t,e⟩:=this
   injection e with e1 e2
   exact hc (e1 ▸ hd)
  rw[hq]
theorem Sg {x:List UInt8}(hx:x∈l8)(c:UInt8):¬ x <+: [c]:=fun q=>by
 have:=q.length_le;rw[Hy x hx] at this;simp at this
theorem KO {x:List UInt8}(hx:x∈l8)(c d:UInt8)(r:List UInt8):x <+: c :: d :: r↔x=[c,d]:=by
 constructor
 ·intro q
  have h1:=List.prefix_iff_eq_take.1 q;rw[Hy x hx] at h1;exact h1
 ·rintro rfl
  exact⟨r,rfl⟩
theorem KP (s:ByteArray)(p:Nat)(w:World)(hs:s.size≤1099511627776)(hp:p<s.size) :
  Calls Tryz.prog 192 #[.string s,.int .i64 p] w fun e w'=>e=.returned (.int .i64 (kr (s.data.toList.drop p)))∧Below w.heap.size w w':=by
 generalize hR:kr (s.data.toList.drop p)=R;rw[drop_byte hp] at hR;have HR:=ah hR;clear hR;go_enter Tryz.func192,Tryz.ntmps192;go_wp2;generalize hw:w.alloc _=wx
 have hh:wx.heap[w.heap.size]?=some (.cells (rowOf l8) 307 (0,0)):=by rw[← hw];exact heap_alloc_new w _
 have hb:Below w.heap.size w wx:=by rw[← hw];exact(Below.refl _ _).alloc (Nat.le_refl _) _
 clear hw
 go_loopw [6] (fun i wr=>∃ k:Nat,k≤6∧i=.int .i64 k∧(∀ j,(hj:j<l8.length)→j<k→¬ l8[j] <+: (s[p]'hp) :: s.data.toList.drop (p+1))∧wr.heap[w.heap.size]?=some (.cells (rowOf l8) 307 (0,0))∧Below w.heap.size w wr) (fun i _=>6 - (intOf i).toNat)
 case atStart=>exact⟨0,by omega,rfl,fun j _ h=>absurd h (by omega),hh,hb⟩
 case round =>
  clear hh hb;obtain⟨k,hk,rfl,hj,hh,hb⟩:=hrel
  by_cases hlt:k<6
  ·have hkl:k<l8.length:=hlt
   have hI:(k:Int)<6:=by omega
   have hc:wr.cell? ⟨w.heap.size,k,none⟩=some (.string ⟨l8[k].toArray⟩):=by rw[Lib.cell_of_heap hh];exact KL _ _ hkl
   have w1:IntKind.i64.wrap ((p:Int)+1)=(p:Int)+1:=IntWalk.i64_in _ (by omega);have w2:IntKind.i64.wrap ((p:Int)+2)=(p:Int)+2:=IntWalk.i64_in _ (by omega);have HH:=ah hh
   by_cases hlt2:p+1<s.size
   ·have hd:=drop_byte hlt2
    have hI2:(p:Int)+1 < ↑s.size:=by omega
    have hI3:(p:Int)+2≤↑s.size:=by omega
    have hI4:((p:Int)+2).toNat=p+2:=by omega
    have hy:(s.extract p (p+2)).data.toList=[s[p]'hp,s[p+1]'hlt2]:=by
     rw[dh,List.drop_take,drop_byte hp,hd]
     simp
    have hs2:((s.extract p (p+2)).toList == (ByteArray.mk l8[k].toArray).toList)=decide (l8[k]=[s[p]'hp,s[p+1]'hlt2]):=by
     rw[Lib.toList_data,Lib.toList_data,hy]
     by_cases q:l8[k]=[s[p]'hp,s[p+1]'hlt2]
     ·rw[decide_eq_true q,beq_iff_eq];exact q.symm
     ·rw[decide_eq_false q,← Bool.not_eq_true,beq_iff_eq];exact fun e=>q e.symm
    by_cases he:l8[k]=[s[p]'hp,s[p+1]'hlt2]
    ·rw[decide_eq_true he] at hs2
     have hR2:R=2:=by
      rw[← HR.out];refine KM (List.getElem_mem hkl) ?_;rw[hd];exact(KO (List.getElem_mem hkl) _ _ _).2 he
     generalize ByteArray.mk l8[k].toArray=y at hc hs2;have HR2:=ah hR2;clear hR2 he hh hj hd hy;go_wp2
     go_quiet (fail)
     go_wp2;go_ret;exact⟨kg (by rw[HR2.out];rfl),below_drewN hb _⟩
    ·rw[decide_eq_false he] at hs2
     have HJ:Hid (∀ j,(hj:j<l8.length)→j<k+1→¬ l8[j] <+: (s[p]'hp) :: s.data.toList.drop (p+1)):=ah (fun j hjl hjk=>by
      by_cases hkj:j=k
      ·subst hkj
       rw[hd,KO (List.getElem_mem hjl)];exact he
      ·exact hj j hjl (by omega))
     generalize ByteArray.mk l8[k].toArray=y at hc hs2;clear he hh hj hd hy;go_wp2
     go_quiet (fail)
     go_wp2
     go_roundw
     case rel=>exact⟨k+1,by omega,by go_num,HJ.out,HH.out,below_drewN hb _⟩
     case measure=>simp[intOf];omega
   ·have hI2:decide ((p:Int)+1 < ↑s.size)=false:=decide_eq_false (by omega)
    have HJ:Hid (∀ j,(hj:j<l8.length)→j<k+1→¬ l8[j] <+: (s[p]'hp) :: s.data.toList.drop (p+1)):=ah (fun j hjl hjk=>by
     have e:s.data.toList.drop (p+1)=[]:=by rw[List.drop_eq_nil_iff,← Lib.size_eq];omega
     rw[e]
     exact Sg (List.getElem_mem hjl) _)
    generalize ByteArray.mk l8[k].toArray=y at hc;clear hh hj;go_wp2
    go_quiet (fail)
    go_wp2
    go_roundw
    case rel=>exact⟨k+1,by omega,by go_num,HJ.out,HH.out,below_drewN hb _⟩
    case measure=>simp[intOf];omega
  ·have hI:decide ((k:Int)<6)=false:=decide_eq_false (by omega)
   have hno:∀ x∈l8,¬ x <+: (s[p]'hp) :: s.data.toList.drop (p+1):=by
    intro x hx;obtain⟨j,hjl,e⟩:=List.mem_iff_getElem.1 hx;exact e ▸ hj j hjl (by have:l8.length=6:=rfl;omega)
   have hR1:=HR.out;rw[KN hno] at hR1;have HR1:=ah hR1;clear hR1 hno hj hh;go_wp2
   obtain⟨o,ho⟩:∃ o:ByteArray,o=⟨#[40,41,123,125,44,58,59,46,43,45,42,47,37,61,60,62]⟩:=⟨_,rfl⟩
   rw[← ho]
   have hos:o.size≤16:=by rw[ho];exact Nat.le_refl 16
   have hol:o.data.toList=G5:=by rw[ho];rfl
   clear ho
   go_loopw [8] (fun i wq=>∃ j:Nat,j≤o.size∧i=.int .i64 j∧(∀ m,(hm:m<o.size)→m<j→o[m]'hm≠s[p]'hp)∧Below w.heap.size w wq) (fun i _=>o.size - (intOf i).toNat)
   case atStart=>exact⟨0,by omega,rfl,fun m _ h=>absurd h (by omega),hb⟩
   case round =>
    clear hb hI;obtain⟨j,hj,rfl,hm,hb⟩:=hrel
    by_cases hlt:j<o.size
    ·have hJ:(j:Int) < ↑o.size:=by omega
     by_cases he:o[j]'hlt=s[p]'hp
     ·have hc:(s[p]'hp)∈G5:=by rw[← hol,← he];exact List.getElem_mem (l:=o.data.toList) _
      have t1:(((s[p]'hp).toNat:Int) == ((o[j]'hlt).toNat:Int))=true:=by rw[he,beq_iff_eq]
      have HC:=ah hc;clear hc he hm hol;go_wp2
      go_quiet (fail)
      go_wp2;go_ret;exact⟨kg (by rw[← HR1.out,if_pos HC.out];rfl),below_drewN hb _⟩
     ·have t1:(((s[p]'hp).toNat:Int) == ((o[j]'hlt).toNat:Int))=false:=by
       rw[← Bool.not_eq_true,beq_iff_eq];intro q;exact he (UInt8.toNat_inj.1 (by omega))
      have HM:Hid (∀ m,(hm:m<o.size)→m<j+1→o[m]'hm≠s[p]'hp):=ah (fun m hmo hmj=>by
       by_cases hmk:m=j
       ·subst hmk;exact he
       ·exact hm m hmo (by omega))
      clear he hm hol;go_wp2
      go_quiet (fail)
      go_wp2
      go_roundw
      case rel=>exact⟨j+1,by omega,by go_num,HM.out,below_drewN hb _⟩
      case measure=>simp[intOf];omega
    ·have hJ:decide ((j:Int) < ↑o.size)=false:=decide_eq_false (by omega)
     have hc:¬ (s[p]'hp)∈G5:=by
      rw[← hol];intro q;obtain⟨m,hml,e⟩:=List.mem_iff_getElem.1 q
      have hmo:m<o.size:=by rw[Lib.size_eq];exact hml
      exact hm m hmo (by omega) e
     have HC:=ah hc;clear hc hm hol;go_wp2;go_ret;exact⟨kg (by rw[← HR1.out,if_neg HC.out];rfl),hb⟩
def rU (p:Nat)(t:Nat × Nat × Nat):Value:=.tuple #[.int .i64 t.1,.int .i64 (if t.2.2=0 then p+t.2.1 else 0:Nat),.int .i64 t.2.2]
theorem dD {p:Nat}{t:Nat × Nat × Nat}{a b c:Int}(h1:a=t.1)(h2:b=((if t.2.2=0 then p+t.2.1 else 0:Nat):Int))(h3:c=t.2.2):Ending.returned (.tuple #[.int .i64 a,.int .i64 b,.int .i64 c])=.returned (rU p t):=by
 rw[rU,h1,h2,h3]
def KQ (b:Bool)(w:World)(e:Ending)(w':World):Prop:=e=.returned (.bool b)∧Below w.heap.size w w'
theorem QB {q:UInt8→Bool}{s:ByteArray}{p m N:Nat}(hN:((s.data.toList.drop p).takeWhile q).length=N)(hm:m<s.size)(hp:p≤m)(hle:m≤p+N):m<p+N↔q (s[m]'hm)=true:=by
 subst hN
 obtain⟨k,rfl⟩:∃ k,m=p+k:=⟨m - p,by omega⟩
 have:=uT q (s.data.toList.drop p) k (by omega);rw[List.getElem?_drop,xL hm] at this
 constructor
 ·intro h
  obtain⟨c,h1,h2⟩:=this.1 (by omega)
  injection h1 with h1
  rw[h1];exact h2
 ·intro h
  have:=this.2 ⟨_,rfl,h⟩;omega
theorem KR {q:UInt8→Bool}{s:ByteArray}{p N:Nat}(hN:((s.data.toList.drop p).takeWhile q).length=N):(s.extract p (p+N)).data.toList=(s.data.toList.drop p).takeWhile q:=by
 rw[dh,List.drop_take,Nat.add_sub_cancel_left,← hN];exact(List.prefix_iff_eq_take.1 (List.takeWhile_prefix q)).symm
theorem Vz (q:UInt8→Bool)(s:ByteArray)(p:Nat):((s.data.toList.drop p).takeWhile q).length≤s.size - p:=by
 have:=je q (s.data.toList.drop p)
 rwa [List.length_drop,← Lib.size_eq] at this
theorem EO (s:ByteArray)(p:Nat)(w:World)(hs:s.size≤1099511627776)(hp:p<s.size)(hl:bT (s[p]'hp)=true) :
  Calls Tryz.prog 121 #[.string s,.int .i64 p] w fun e w'=>e=.returned (rU p (bG (s.data.toList.drop p)))∧Below w.heap.size w w':=by
 have hq:bG (s.data.toList.drop p)=iP (s.data.toList.drop p):=by rw[drop_byte hp,bG,if_pos hl]
 have HQ:=ah hq;have hn:=Vz aL s p;generalize hN:((s.data.toList.drop p).takeWhile aL).length=N at hn;have HN:=ah hN;clear hq hN;go_enter Tryz.func121,Tryz.ntmps121;go_wp2_with (go_at_call 189;refine(dV _ _).mono ?_;rintro e w1 ⟨rfl,rfl⟩)
 go_loop [7] (fun a=>∃ m:Nat,p≤m∧m≤p+N∧a=.int .i64 m) (fun a=>s.size - (intOf a).toNat)
 case atStart=>exact⟨p,Nat.le_refl _,by omega,rfl⟩
 case round =>
  obtain⟨m,hpm,hm,rfl⟩:=hrel;clear hl
  by_cases hlt:m<s.size
  ·have hst:=QB (q:=aL) HN.out hlt hpm hm
   have hI:(m:Int) < ↑s.size:=by omega
   by_cases hin:aL (s[m]'hlt)=true
   ·have hlt2:m+1≤p+N:=hst.2 hin
    cases hL:bT (s[m]'hlt) with
    | true =>
     clear hst hin;go_wp2_with (go_at_call 189;refine(dV _ _).mono ?_;rintro e w1 ⟨rfl,rfl⟩)
     go_round
     case rel=>exact⟨m+1,by omega,by omega,by go_num⟩
     case measure=>simp[intOf];omega
    | false =>
     cases hD:aJ (s[m]'hlt) with
     | true =>
      clear hst hin;go_wp2_with (first|(go_at_call 189;refine(dV _ _).mono ?_;rintro e w1 ⟨rfl,rfl⟩)|(go_at_call 190;refine(dw _ _).mono ?_;rintro e w1 ⟨rfl,rfl⟩))
      go_round
      case rel=>exact⟨m+1,by omega,by omega,by go_num⟩
      case measure=>simp[intOf];omega
     | false =>
      have t1:(((s[m]'hlt).toNat:Int) == 95)=true:=by
       rw[aL,hL,hD,Bool.false_or,Bool.false_or,Qw] at hin;exact hin
      clear hst hin;go_wp2_with (first|(go_at_call 189;refine(dV _ _).mono ?_;rintro e w1 ⟨rfl,rfl⟩)|(go_at_call 190;refine(dw _ _).mono ?_;rintro e w1 ⟨rfl,rfl⟩))
      go_round
      case rel=>exact⟨m+1,by omega,by omega,by go_num⟩
      case measure=>simp[intOf];omega
   ·have hin':aL (s[m]'hlt)=false:=by simpa using hin
    have hmN:m=p+N:=by
     rcases Nat.lt_or_ge m (p+N) with h|h
     ·exact absurd (hst.1 h) hin
     ·omega
    rw[aL] at hin';simp only[Bool.or_eq_false_iff] at hin';obtain⟨⟨hL,hD⟩,hU⟩:=hin';rw[Qw] at hU;have t1:(((s[m]'hlt).toNat:Int) == 95)=false:=hU;clear hin hU;subst hmN
    by_cases Nj:40<N
    ·have hw:iP (s.data.toList.drop p)=(0,0,20):=by
      unfold iP;exact if_pos (by rw[HN.out];exact Nj)
     have HW:=ah (HQ.out.trans hw)
     have hd:(40:Int)<((p+N:Nat):Int) - (p:Int):=by omega
     clear hw hst;go_wp2_with (first|(go_at_call 189;refine(dV _ _).mono ?_;rintro e w1 ⟨rfl,rfl⟩)|(go_at_call 190;refine(dw _ _).mono ?_;rintro e w1 ⟨rfl,rfl⟩));go_ret3
     refine⟨dD (t:=bG (s.data.toList.drop p)) ?_ ?_ ?_,Below.refl _ _⟩<;>rw[HW.out]<;>rfl
    ·have hw:iP (s.data.toList.drop p)=if (s.data.toList.drop p).takeWhile aL∈j5 then (2,N,0) else (1,N,0):=by
      unfold iP;simp only[HN.out];rw[if_neg Nj]
     have hd:((p+N:Nat):Int) - (p:Int)≤40:=by omega
     have hd2:(p:Int)≤((p+N:Nat):Int):=by omega
     have hd3:((p+N:Nat):Int)≤(s.size:Int):=by omega
     have hk:∀ w,Calls Tryz.prog 191 #[.string (s.extract p (p+N))] w (KQ (decide ((s.extract p (p+N)).data.toList∈j5)) w):=Co (s.extract p (p+N));rw[KR HN.out] at hk;have HK:=ah hk
     by_cases hkey:(s.data.toList.drop p).takeWhile aL∈j5
     ·rw[if_pos hkey] at hw
      have HW:=ah (HQ.out.trans hw);have HY:=ah hkey;clear hw hk hkey hst;go_wp2_with (first|(go_at_call 189;refine(dV _ _).mono ?_;rintro e w1 ⟨rfl,rfl⟩)|(go_at_call 190;refine(dw _ _).mono ?_;rintro e w1 ⟨rfl,rfl⟩)|(go_at_call 191;refine(HK.out _).mono ?_));rintro e w2 ⟨he,hb⟩
      obtain rfl:e=.returned (.bool true):=by rw[he,decide_eq_true HY.out]
      clear he;go_wp2;go_ret3
      refine⟨dD (t:=bG (s.data.toList.drop p)) ?_ ?_ ?_,hb⟩<;>rw[HW.out]<;>rfl
     ·rw[if_neg hkey] at hw
      have HW:=ah (HQ.out.trans hw);have HY:=ah hkey;clear hw hk hkey hst;go_wp2_with (first|(go_at_call 189;refine(dV _ _).mono ?_;rintro e w1 ⟨rfl,rfl⟩)|(go_at_call 190;refine(dw _ _).mono ?_;rintro e w1 ⟨rfl,rfl⟩)|(go_at_call 191;refine(HK.out _).mono ?_));rintro e w2 ⟨he,hb⟩
      obtain rfl:e=.returned (.bool false):=by rw[he,decide_eq_false HY.out]
      clear he;go_wp2;go_ret3
      refine⟨dD (t:=bG (s.data.toList.drop p)) ?_ ?_ ?_,hb⟩<;>rw[HW.out]<;>rfl
  ·have hmN:m=p+N:=by omega
   have hI:decide ((m:Int) < ↑s.size)=false:=decide_eq_false (by omega);have hst:=trivial;subst hmN
   by_cases Nj:40<N
   ·have hw:iP (s.data.toList.drop p)=(0,0,20):=by
     unfold iP;exact if_pos (by rw[HN.out];exact Nj)
    have HW:=ah (HQ.out.trans hw)
    have hd:(40:Int)<((p+N:Nat):Int) - (p:Int):=by omega
    clear hw hst;go_wp2;go_ret3
    refine⟨dD (t:=bG (s.data.toList.drop p)) ?_ ?_ ?_,Below.refl _ _⟩<;>rw[HW.out]<;>rfl
   ·have hw:iP (s.data.toList.drop p)=if (s.data.toList.drop p).takeWhile aL∈j5 then (2,N,0) else (1,N,0):=by
     unfold iP;simp only[HN.out];rw[if_neg Nj]
    have hd:((p+N:Nat):Int) - (p:Int)≤40:=by omega
    have hd2:(p:Int)≤((p+N:Nat):Int):=by omega
    have hd3:((p+N:Nat):Int)≤(s.size:Int):=by omega
    have hk:∀ w,Calls Tryz.prog 191 #[.string (s.extract p (p+N))] w (KQ (decide ((s.extract p (p+N)).data.toList∈j5)) w):=Co (s.extract p (p+N));rw[KR HN.out] at hk;have HK:=ah hk
    by_cases hkey:(s.data.toList.drop p).takeWhile aL∈j5
    ·rw[if_pos hkey] at hw
     have HW:=ah (HQ.out.trans hw);have HY:=ah hkey;clear hw hk hkey hst;go_wp2_with (first|(go_at_call 191;refine(HK.out _).mono ?_));rintro e w2 ⟨he,hb⟩
     obtain rfl:e=.returned (.bool true):=by rw[he,decide_eq_true HY.out]
     clear he;go_wp2;go_ret3
     refine⟨dD (t:=bG (s.data.toList.drop p)) ?_ ?_ ?_,hb⟩<;>rw[HW.out]<;>rfl
    ·rw[if_neg hkey] at hw
     have HW:=ah (HQ.out.trans hw);have HY:=ah hkey;clear hw hk hkey hst;go_wp2_with (first|(go_at_call 191;refine(HK.out _).mono ?_));rintro e w2 ⟨he,hb⟩
     obtain rfl:e=.returned (.bool false):=by rw[he,decide_eq_false HY.out]
     clear he;go_wp2;go_ret3
     refine⟨dD (t:=bG (s.data.toList.drop p)) ?_ ?_ ?_,hb⟩<;>rw[HW.out]<;>rfl
theorem Hz (s:ByteArray)(p:Nat)(w:World)(hs:s.size≤1099511627776)(hp:p<s.size)(hl:bT (s[p]'hp)=false)(hdg:aJ (s[p]'hp)=true) :
  Calls Tryz.prog 121 #[.string s,.int .i64 p] w fun e w'=>e=.returned (rU p (bG (s.data.toList.drop p)))∧Below w.heap.size w w':=by
 have hq:bG (s.data.toList.drop p)=jc (s.data.toList.drop p):=by rw[drop_byte hp,bG,if_neg (by rw[hl];decide),if_pos hdg]
 have hf:((s.data.toList.drop p).takeWhile aJ)[0]?=some (s[p]'hp):=by rw[drop_byte hp,List.takeWhile_cons_of_pos hdg];rfl
 have HQ:=ah hq;have HF:=ah hf;have hn:=Vz aJ s p;generalize hN:((s.data.toList.drop p).takeWhile aJ).length=N at hn;have HN:=ah hN;clear hq hN hf;go_enter Tryz.func121,Tryz.ntmps121;go_wp2_with (first|(go_at_call 189;refine(dV _ _).mono ?_;rintro e w1 ⟨rfl,rfl⟩)|(go_at_call 190;refine(dw _ _).mono ?_;rintro e w1 ⟨rfl,rfl⟩))
 go_loop [7] (fun a=>∃ m:Nat,p≤m∧m≤p+N∧a=.int .i64 m) (fun a=>s.size - (intOf a).toNat)
 case atStart=>exact⟨p,Nat.le_refl _,by omega,rfl⟩
 case round =>
  obtain⟨m,hpm,hm,rfl⟩:=hrel;clear hl hdg
  by_cases hlt:m<s.size
  ·have hst:=QB (q:=aJ) HN.out hlt hpm hm
   have hI:(m:Int) < ↑s.size:=by omega
   by_cases hD:aJ (s[m]'hlt)=true
   ·have hlt2:m+1≤p+N:=hst.2 hD
    clear hst;go_wp2_with (first|(go_at_call 190;refine(dw _ _).mono ?_;rintro e w1 ⟨rfl,rfl⟩))
    go_round
    case rel=>exact⟨m+1,by omega,by omega,by go_num⟩
    case measure=>simp[intOf];omega
   ·have hD':aJ (s[m]'hlt)=false:=by simpa using hD
    have hmN:m=p+N:=by
     rcases Nat.lt_or_ge m (p+N) with h|h
     ·exact absurd (hst.1 h) hD
     ·omega
    clear hD;subst hmN
    by_cases yU:60<N
    ·have hw:jc (s.data.toList.drop p)=(0,0,21):=by
      unfold jc;exact if_pos (.inl (by rw[HN.out];exact yU))
     have HW:=ah (HQ.out.trans hw);have hd:decide (60<(p:Int)+(N:Int) - (p:Int))=true:=decide_eq_true (by omega);clear hw hst;go_wp2_with (first|(go_at_call 190;refine(dw _ _).mono ?_;rintro e w1 ⟨rfl,rfl⟩));go_ret3
     refine⟨dD (t:=bG (s.data.toList.drop p)) ?_ ?_ ?_,Below.refl _ _⟩<;>rw[HW.out]<;>rfl
    ·have hd:((p+N:Nat):Int) - (p:Int)≤60:=by omega
     have hd':decide (60<(p:Int)+(N:Int) - (p:Int))=false:=decide_eq_false (by omega)
     by_cases h1:1<N
     ·have hd1:decide (1<(p:Int)+(N:Int) - (p:Int))=true:=decide_eq_true (by omega)
      by_cases h0:(s[p]'hp)=48
      ·have hw:jc (s.data.toList.drop p)=(0,0,21):=by
        unfold jc;exact if_pos (.inr ⟨by rw[HN.out];exact h1,by rw[HF.out,h0]⟩)
       have HW:=ah (HQ.out.trans hw)
       have t0:(((s[p]'hp).toNat:Int) == 48)=true:=by rw[h0];rfl
       clear hw hst h0;go_wp2_with (first|(go_at_call 190;refine(dw _ _).mono ?_;rintro e w1 ⟨rfl,rfl⟩));go_ret3
       refine⟨dD (t:=bG (s.data.toList.drop p)) ?_ ?_ ?_,Below.refl _ _⟩<;>rw[HW.out]<;>rfl
      ·have hw:jc (s.data.toList.drop p)=(3,N,0):=by
        unfold jc;simp only[HN.out];refine if_neg ?_;rintro(h|⟨_,h⟩)
        ·exact yU h
        ·rw[HF.out] at h;injection h with h;exact h0 h
       have HW:=ah (HQ.out.trans hw)
       have t0:(((s[p]'hp).toNat:Int) == 48)=false:=by
        rw[← Bool.not_eq_true,beq_iff_eq];intro q;exact h0 (UInt8.toNat_inj.1 (by have e1:(48:UInt8).toNat=48:=rfl;omega))
       clear hw hst h0;go_wp2_with (first|(go_at_call 190;refine(dw _ _).mono ?_;rintro e w1 ⟨rfl,rfl⟩));go_ret3
       refine⟨dD (t:=bG (s.data.toList.drop p)) ?_ ?_ ?_,Below.refl _ _⟩<;>rw[HW.out]<;>rfl
     ·have hw:jc (s.data.toList.drop p)=(3,N,0):=by
       unfold jc;simp only[HN.out];refine if_neg ?_;rintro(h|⟨h,_⟩)
       ·exact yU h
       ·exact h1 h
      have HW:=ah (HQ.out.trans hw);have hd1:decide (1<(p:Int)+(N:Int) - (p:Int))=false:=decide_eq_false (by omega);clear hw hst;go_wp2_with (first|(go_at_call 190;refine(dw _ _).mono ?_;rintro e w1 ⟨rfl,rfl⟩));go_ret3
      refine⟨dD (t:=bG (s.data.toList.drop p)) ?_ ?_ ?_,Below.refl _ _⟩<;>rw[HW.out]<;>rfl
  ·have hmN:m=p+N:=by omega
   have hI:decide ((m:Int) < ↑s.size)=false:=decide_eq_false (by omega);have hst:=trivial;subst hmN
   by_cases yU:60<N
   ·have hw:jc (s.data.toList.drop p)=(0,0,21):=by
     unfold jc;exact if_pos (.inl (by rw[HN.out];exact yU))
    have HW:=ah (HQ.out.trans hw);have hd:decide (60<(p:Int)+(N:Int) - (p:Int))=true:=decide_eq_true (by omega);clear hw hst;go_wp2;go_ret3
    refine⟨dD (t:=bG (s.data.toList.drop p)) ?_ ?_ ?_,Below.refl _ _⟩<;>rw[HW.out]<;>rfl
   ·have hd:((p+N:Nat):Int) - (p:Int)≤60:=by omega
    have hd':decide (60<(p:Int)+(N:Int) - (p:Int))=false:=decide_eq_false (by omega)
    by_cases h1:1<N
    ·have hd1:decide (1<(p:Int)+(N:Int) - (p:Int))=true:=decide_eq_true (by omega)
     by_cases h0:(s[p]'hp)=48
     ·have hw:jc (s.data.toList.drop p)=(0,0,21):=by
       unfold jc;exact if_pos (.inr ⟨by rw[HN.out];exact h1,by rw[HF.out,h0]⟩)
      have HW:=ah (HQ.out.trans hw)
      have t0:(((s[p]'hp).toNat:Int) == 48)=true:=by rw[h0];rfl
      clear hw hst h0;go_wp2;go_ret3
      refine⟨dD (t:=bG (s.data.toList.drop p)) ?_ ?_ ?_,Below.refl _ _⟩<;>rw[HW.out]<;>rfl
     ·have hw:jc (s.data.toList.drop p)=(3,N,0):=by
       unfold jc;simp only[HN.out];refine if_neg ?_;rintro(h|⟨_,h⟩)
       ·exact yU h
       ·rw[HF.out] at h;injection h with h;exact h0 h
      have HW:=ah (HQ.out.trans hw)
      have t0:(((s[p]'hp).toNat:Int) == 48)=false:=by
       rw[← Bool.not_eq_true,beq_iff_eq];intro q;exact h0 (UInt8.toNat_inj.1 (by have e1:(48:UInt8).toNat=48:=rfl;omega))
      clear hw hst h0;go_wp2;go_ret3
      refine⟨dD (t:=bG (s.data.toList.drop p)) ?_ ?_ ?_,Below.refl _ _⟩<;>rw[HW.out]<;>rfl
    ·have hw:jc (s.data.toList.drop p)=(3,N,0):=by
      unfold jc;simp only[HN.out];refine if_neg ?_;rintro(h|⟨h,_⟩)
      ·exact yU h
      ·exact h1 h
     have HW:=ah (HQ.out.trans hw);have hd1:decide (1<(p:Int)+(N:Int) - (p:Int))=false:=decide_eq_false (by omega);clear hw hst;go_wp2;go_ret3
     refine⟨dD (t:=bG (s.data.toList.drop p)) ?_ ?_ ?_,Below.refl _ _⟩<;>rw[HW.out]<;>rfl
theorem H7 (s:ByteArray)(p:Nat)(w:World)(hs:s.size≤1099511627776)(hp:p<s.size)(hl:bT (s[p]'hp)=false)(hdg:aJ (s[p]'hp)=false) :
  Calls Tryz.prog 121 #[.string s,.int .i64 p] w fun e w'=>e=.returned (rU p (bG (s.data.toList.drop p)))∧Below w.heap.size w w':=by
 have hq:bG (s.data.toList.drop p)=vZ (s.data.toList.drop p):=by rw[drop_byte hp,bG,if_neg (by rw[hl];decide),if_neg (by rw[hdg];decide)]
 have hz:=KP s p w hs hp
 have hlen:kr (s.data.toList.drop p)≤s.size - p:=by
  unfold kr
  cases hf:l9 (s.data.toList.drop p) with
  | none=>exact Nat.zero_le _
  | some x =>
   have:=(rM hf).1.length_le
   rwa [List.length_drop,← Lib.size_eq] at this
 have hsy:vZ (s.data.toList.drop p)=if kr (s.data.toList.drop p)=0 then (0,0,20) else (4,kr (s.data.toList.drop p),0):=by
  unfold vZ kr
  cases hf:l9 (s.data.toList.drop p) with
  | none=>rfl
  | some x =>
   have:=(rM hf).2.1;simp only;rw[if_neg (by omega)]
 generalize kr (s.data.toList.drop p)=n at hz hlen hsy;have HZ:=ah hz;clear hz
 by_cases h0:n=0
 ·have HW:=ah (hq.trans (hsy.trans (if_pos h0)))
  subst h0;clear hq hsy;go_enter Tryz.func121,Tryz.ntmps121;go_wp2_with (first|(go_at_call 189;refine(dV _ _).mono ?_;rintro e w1 ⟨rfl,rfl⟩)|(go_at_call 190;refine(dw _ _).mono ?_;rintro e w1 ⟨rfl,rfl⟩)|(go_at_call 192;refine HZ.out.mono ?_;rintro e w1 ⟨rfl,hb⟩));go_ret3
  refine⟨dD (t:=bG (s.data.toList.drop p)) ?_ ?_ ?_,hb⟩<;>rw[HW.out]<;>rfl
 ·have HW:=ah (hq.trans (hsy.trans (if_neg h0)))
  have t0:((n:Int) == 0)=false:=by rw[← Bool.not_eq_true,beq_iff_eq];omega
  clear hq hsy h0;go_enter Tryz.func121,Tryz.ntmps121;go_wp2_with (first|(go_at_call 189;refine(dV _ _).mono ?_;rintro e w1 ⟨rfl,rfl⟩)|(go_at_call 190;refine(dw _ _).mono ?_;rintro e w1 ⟨rfl,rfl⟩)|(go_at_call 192;refine HZ.out.mono ?_;rintro e w1 ⟨rfl,hb⟩));go_ret3
  refine⟨dD (t:=bG (s.data.toList.drop p)) ?_ ?_ ?_,hb⟩<;>rw[HW.out]<;>rfl
theorem H8 (s:ByteArray)(p:Nat)(w:World)(hs:s.size≤1099511627776)(hp:p<s.size) :
  Calls Tryz.prog 121 #[.string s,.int .i64 p] w fun e w'=>e=.returned (rU p (bG (s.data.toList.drop p)))∧Below w.heap.size w w':=by
 cases hl:bT (s[p]'hp) with
 | true=>exact EO s p w hs hp hl
 | false =>
  cases hd:aJ (s[p]'hp) with
  | true=>exact Hz s p w hs hp hl hd
  | false=>exact H7 s p w hs hp hl hd
def KS (S:List UInt8)(w:World)(e:Ending)(w':World):Prop :=
 Below w.heap.size w w'∧match bH S with
 | .ok l=>∃ v,e=.returned (.tuple #[v,.int .i64 0,.int .i64 0])∧Rec w'.heap.size w' v 4 bK l
 | .error x=>e=.returned (.tuple #[.slice none 0 0,.int .i64 x.1,.int .i64 x.2])
theorem Oa (T:List UInt8)(h:T≠[]):(bG T).1≠5:=fun q=>h (JJ T q)
theorem Ob (s:ByteArray)(w:World)(hs:s.size≤1099511627776):Calls Tryz.prog 72 #[.string s] w (KS s.data.toList w):=by
 obtain⟨i0,hi,hz0,hz1,hz2⟩:=info_parts Tryz.NR
 by_cases hbig:65536<s.size
 ·have hI:(65536:Int) < ↑s.size:=by omega
  have hq:bH s.data.toList=.error (11,0):=by rw[bH,if_pos (by rw[← Lib.size_eq];exact hbig)]
  have HQ:=ah hq;clear hq;go_enter Tryz.func72,Tryz.ntmps72;go_wp2;go_ret3;refine⟨Below.refl _ _,?_⟩;rw[HQ.out]
  rfl
 ·have hI:¬ (65536:Int) < ↑s.size:=by omega
  have hq:bH s.data.toList=nD (s.size+1) s.data.toList 0:=by rw[bH,if_neg (by rw[← Lib.size_eq];exact hbig),← Lib.size_eq]
  have HQ:=ah hq;clear hq;go_enter Tryz.func72,Tryz.ntmps72;go_wp2
  go_loopw [5,6] (fun out at0 wr=>∃ (p m:Nat) (acc:List Tok),at0=.int .i64 p∧p≤s.size∧s.size<p+m∧nD (s.size+1) s.data.toList 0=Ke acc (nD m (s.data.toList.drop p) p)∧acc.length≤p ∧
   wr.ownsRow w.heap.size 144 4 out acc.length (acc.flatMap bK)∧Below w.heap.size w wr) (fun _ at0 _=>s.size - (intOf at0).toNat)
  case atStart=>exact⟨0,s.size+1,[],rfl,Nat.zero_le _,by omega,(Kg _).symm,Nat.le_refl _,World.ownsRow_nil _ _ _ _,Below.refl _ _⟩
  case round =>
   obtain⟨p,m,acc,rfl,hp,hm,hl,hal,hown,hb⟩:=hrel;have hz:=hb.size
   obtain⟨m,rfl⟩:∃ m',m=m'+1:=⟨m - 1,by omega⟩
   have hld:=fun w=>KH s p w hs hp
   have hkl:bf false (s.data.toList.drop p)≤s.size - p:=by have:=lG false (s.data.toList.drop p);rwa [List.length_drop,← Lib.size_eq] at this
   generalize hk:bf false (s.data.toList.drop p)=k at hld hkl;generalize hf:p+k=f at hld
   have hfs:f≤s.size:=by omega
   have hpf:p≤f:=by omega
   have HLD:=ah hld;have HK:=ah hk;have HL:=ah hl;have HF:=ah hf;clear hld hk hl hf
   by_cases hend:f=s.size
   ·subst hend
    have hT:s.data.toList.drop (p+k)=[]:=by rw[HF.out,List.drop_eq_nil_iff,← Lib.size_eq];exact Nat.le_refl _
    have hq:=HL.out
    have htk:bG ((s.data.toList.drop p).drop k)=(5,0,0):=by rw[List.drop_drop,hT];rfl
    rw[Kj _ _ _ _ _ HK.out htk rfl rfl,HF.out] at hq
    have hyl:(s.extract p s.size).data.toList=(s.data.toList.drop p).take k:=by rw[dh,List.take_of_length_le (by rw[← Lib.size_eq];exact Nat.le_refl _),List.take_of_length_le];rw[List.length_drop,← Lib.size_eq];have:=HF.out;omega
    have hcl:[Value.int .i64 5,.string (s.extract p s.size),.string ⟨#[]⟩,.int .i64 s.size]=bK ⟨5,(s.data.toList.drop p).take k,[],s.size⟩:=zf (kd:=5) (pk:=s.size) hyl (by rfl:(ByteArray.mk #[]).data.toList=[]) (rfl:((s.size:Nat):Int)=((s.size:Nat):Int));have EL:=ah hq;have NV:=ah hcl;have HYL:=ah hyl;clear hT hq htk hcl hyl;go_wp2_with (first|(go_at_call 120;refine(HLD.out _).mono ?_;rintro e w2 ⟨rfl,rfl⟩)|(at_builtin;refine wpList_append_own _ rfl _ _ 141 rfl w.heap.size 144 i0 (.agg #[.int .i64 0,.string ByteArray.empty,.string ByteArray.empty,.int .i64 0]) 4 48 Tryz.underlying141 hi hz0 hz1 hz2 rfl (by decide) _ _ _ rfl (hown.alloc _) ⟨w2.heap.size,0,none⟩ 1 1 [.int .i64 5,.string (s.extract p s.size),.string ⟨#[]⟩,.int .i64 s.size] rfl rfl ?c1 ?c2 ?c3 ?c4 ?c5 ?_))
    case c1=>exact Cb (by go_simp) (by go_simp) (by go_simp) (by go_simp)
    case c2=>intro u hu;simp at hu;rcases hu with rfl|rfl|rfl|rfl<;>rfl
    case c3=>unfold maxLen;omega
    case c4=>omega
    case c5=>simp;omega
    intro v' w4 hown' hgrow _;have hb4:Below w.heap.size w w4:=(hb.alloc hz _).grown hgrow (by simp;omega) (fun q hq=>(hown.lt q hq).1);rw[NV.out] at hown'
    have tQ:w4.ownsRow w.heap.size 144 4 v' (acc++[Tok.mk 5 ((s.data.toList.drop p).take k) [] s.size]).length ((acc++[Tok.mk 5 ((s.data.toList.drop p).take k) [] s.size]).flatMap bK):=by
     rw[List.flatMap_append,bC];exact hown'
    clear hgrow hown' hown;go_wp2;go_ret3;refine⟨hb4,?_⟩;rw[HQ.out,EL.out];exact⟨_,rfl,Sl.eP tQ⟩
   ·have hfl:f<s.size:=by omega
    have hne:((f:Int) == (s.size:Int))=false:=by rw[← Bool.not_eq_true,beq_iff_eq];omega
    have htk:=fun w=>H8 s f w hs hfl
    have htl:(bG (s.data.toList.drop f)).2.1≤s.size - f:=by have:=tJ (s.data.toList.drop f);rwa [List.length_drop,← Lib.size_eq] at this
    have h5:(bG (s.data.toList.drop f)).1≠5:=Oa _ (by rw[drop_byte hfl];simp);have hps:=tK (s.data.toList.drop f);generalize ht:bG (s.data.toList.drop f)=t at htk htl h5 hps;obtain⟨kd,n,er⟩:=t;simp only at htl h5 hps
    have hT:bG ((s.data.toList.drop p).drop k)=(kd,n,er):=by rw[List.drop_drop,HF.out];exact ht
    have HT:=ah htk;clear htk ht hend
    by_cases her:er=0
    ·subst her
     have hn0:0<n:=hps rfl h5;have hq:=HL.out;rw[FL _ _ _ _ _ HK.out hT rfl h5,FJ,List.drop_drop,List.drop_drop,← Nat.add_assoc p k,HF.out] at hq;generalize hg:f+n=g at hq
     have hgs:g≤s.size:=by omega
     have hfg:f<g:=by omega
     have hrt:rU f (kd,n,0)=.tuple #[.int .i64 kd,.int .i64 g,.int .i64 0]:=by rw[rU];simp only[if_pos];rw[hg];rfl
     have hyl:(s.extract p f).data.toList=(s.data.toList.drop p).take k:=by rw[dh,← HF.out,List.drop_take,Nat.add_sub_cancel_left]
     have hzl:(s.extract f g).data.toList=(s.data.toList.drop f).take n:=by rw[dh,← hg,List.drop_take,Nat.add_sub_cancel_left]
     have hcl:=zf (kd:=kd) (pk:=f) hyl hzl (rfl:((f:Nat):Int)=((f:Nat):Int));have EL:=ah hq;have NV:=ah hcl;have HRT:=ah hrt;clear hT hq hcl hyl hzl hg hrt hps;go_wp2_with (first|(go_at_call 120;refine(HLD.out _).mono ?_;rintro e w2 ⟨rfl,rfl⟩)|(go_at_call 121;refine(HT.out _).mono ?_));rintro e w3 ⟨he,hb3⟩;rw[HRT.out] at he;subst he;go_wp2
     have g1:0≤(p:Int):=by omega
     have g2:(p:Int)≤(f:Int):=by omega
     have g3:(f:Int)≤(s.size:Int):=by omega
     have g4:(f:Int)≤(g:Int):=by omega
     have g5:(g:Int)≤(s.size:Int):=by omega
     have xS:Below w.heap.size w w3:=hb.trans (hb3.mono hz);have hown3:=own_below hown hb3;have zn:=xS.size;clear hb3 hb hown
     go_region_held3 (fun w'=>True) (first|go_keep|trivial)
      ((refine step_append_lies _ (by rfl) _ _ _ (by rfl) w.heap.size 144 i0 _ 4 48 Tryz.underlying141 hi hz0 hz1 hz2 rfl (by omega) u5 acc.length _ (by rfl) (oq (hown3.alloc _)) ⟨w3.heap.size,0,none⟩ 1 1 [.int .i64 kd,.string (s.extract p f),.string (s.extract f g),.int .i64 f] (by rfl) (by rfl) (World.news_of_block (cs:=#[.int .i64 kd,.string (s.extract p f),.string (s.extract f g),.int .i64 f]) (t:=144) (fr:=(0,0)) (heap_alloc_new w3 _)) (by simp[Value.oneCell']) (by omega) (by unfold maxLen;omega) (by omega) (by simp;omega) (w3.heap.size+1) (by simp) ?_;intro gg cap5 w5 hown' hgrow xM Kn))
     have hb5:Below w.heap.size w w5:=((xS.alloc zn _).drew).grown hgrow (by simp;omega) (fun q hq=>(hown3.lt q hq).1);rw[NV.out] at hown'
     have hown5:w5.ownsRow w.heap.size 144 4 (.slice (some ⟨gg,0,none⟩) (acc.length+1) cap5) (acc++[Tok.mk kd ((s.data.toList.drop p).take k) ((s.data.toList.drop f).take n) f]).length ((acc++[Tok.mk kd ((s.data.toList.drop p).take k) ((s.data.toList.drop f).take n) f]).flatMap bK):=by
      rw[List.flatMap_append,bC];exact hown'
     clear hgrow hown' hown3;go_wp2
     go_roundw
     case rel=>exact⟨g,m,_,rfl,hgs,by omega,EL.out,by rw[bC];simp;omega,hown5,hb5⟩
     case measure=>simp[intOf];omega
    ·have hq:=HL.out
     rw[Kh _ _ _ _ _ HK.out hT her,HF.out] at hq
     have hne2:((er:Int) != 0)=true:=by rw[bne_iff_ne];omega
     have EL:=ah hq;clear hT hq hps;go_wp2_with (first|(go_at_call 120;refine(HLD.out _).mono ?_;rintro e w2 ⟨rfl,rfl⟩)|(go_at_call 121;refine(HT.out _).mono ?_));rintro e w3 ⟨he,hb3⟩;rw[rU] at he;subst he;go_wp2;go_ret3;refine⟨hb.trans (hb3.mono hz),?_⟩;rw[HQ.out,EL.out]
     rfl
end Go.Proofs.YtknicmmigbhpcaaGreatDoor
