/- Walks and plain laws: RefLex1, RefLex2, RefLex3, RefLex4, RefLex5. -/
import Derived.Test.YtdednahplodojaaGreatDoorB05
set_option maxHeartbeats 16000000
set_option maxRecDepth 100000
set_option linter.unusedVariables false
set_option linter.unusedSimpArgs false
namespace Go.Proofs.YtdednahplodojaaGreatDoor
open Go.RowKit
theorem blankB_cases (c:UInt8):blankB c=((c.toNat:Int) == 32 || (c.toNat:Int) == 9 || (c.toNat:Int) == 13 || (c.toNat:Int) == 10):=by
  simp only [blankB,u8_eq]
  rfl
theorem refBlank_any (c:UInt8)(w:World):Calls Tryz.prog 176 #[.int .u8 c.toNat] w fun e w'=>e=.returned (.bool (blankB c))∧w'=w:=by
  rw [blankB_cases]
  generalize h1:((c.toNat:Int) == 32)=b1
  generalize h2:((c.toNat:Int) == 9)=b2
  generalize h3:((c.toNat:Int) == 13)=b3
  generalize h4:((c.toNat:Int) == 10)=b4
  cases b1 <;> cases b2 <;> cases b3 <;> cases b4 <;>
  (go_enter Tryz.func176,Tryz.ntmps176
   go_wp2
   go_ret
   exact ⟨rfl,rfl⟩)
theorem refLetter_any (c:UInt8)(w:World):Calls Tryz.prog 177 #[.int .u8 c.toNat] w fun e w'=>e=.returned (.bool (letterB c))∧w'=w:=by
  rw [letterB_cases]
  go_enter Tryz.func177,Tryz.ntmps177
  go_wp2
  all_goals (go_ret;refine ⟨ret_bool ?_,rfl⟩;simp;try omega)
theorem refDigit_any (c:UInt8)(w:World):Calls Tryz.prog 178 #[.int .u8 c.toNat] w fun e w'=>e=.returned (.bool (digitB c))∧w'=w:=by
  rw [digitB_cases]
  go_enter Tryz.func178,Tryz.ntmps178
  go_wp2
  all_goals (go_ret;refine ⟨ret_bool ?_,rfl⟩;simp;try omega)
theorem drop_byte {s:ByteArray}{k:Nat}(h:k<s.size):s.data.toList.drop k=(s[k]'h) :: s.data.toList.drop (k+1):=by
  have h':k<s.data.toList.length:=by rw [← Lib.size_eq];exact h
  rw [List.drop_eq_getElem_cons h']
  rfl
theorem refLead_any (s:ByteArray)(p:Nat)(w:World)(hs:s.size≤1099511627776)(hp:p≤s.size) :
    Calls Tryz.prog 147 #[.string s,.int .i64 p] w fun e w'=>e=.returned (.int .i64 (p+leadF false (s.data.toList.drop p):Nat))∧w'=w:=by
  generalize hR:p+leadF false (s.data.toList.drop p)=R
  have HR:=Lib.hid hR
  clear hR
  go_enter Tryz.func147,Tryz.ntmps147
  go_wp2
  go_loop [1] (fun a=>∃ k:Nat,k≤s.size∧a=.int .i64 k∧k+leadF false (s.data.toList.drop k)=R) (fun a=>s.size - (intOf a).toNat)
  case atStart=>exact ⟨p,hp,rfl,HR.out⟩
  case round =>
    clear HR
    obtain ⟨k,hk,rfl,hR⟩:=hrel
    by_cases hlt:k<s.size
    · rw [drop_byte hlt] at hR
      have hI:(k:Int) < ↑s.size:=by omega
      by_cases hb:blankB (s[k]'hlt)=true
      · rw [leadF,if_pos hb] at hR
        have HR:=Lib.hid hR
        clear hR
        go_wp2_with (go_at_call 176;refine (refBlank_any _ _).mono ?_;rintro e w1 ⟨rfl,rfl⟩)
        go_round
        case rel=>exact ⟨k+1,by omega,by go_num,by have:=HR.out;omega⟩
        case measure=>simp [intOf];omega
      · rw [leadF,if_neg hb] at hR
        have hb':blankB (s[k]'hlt)=false:=by simpa using hb
        clear hb
        by_cases hlt2:k+1<s.size
        · rw [drop_byte hlt2] at hR
          have hI2:(k:Int)+1 < ↑s.size:=by omega
          by_cases hm:(s[k]'hlt)=45∧(s[k+1]'hlt2)=45
          · rw [if_pos ⟨hm.1,by rw [List.head?_cons,hm.2]⟩,← drop_byte hlt2] at hR
            have t1:(((s[k]'hlt).toNat:Int) == 45)=true:=by rw [hm.1];rfl
            have t2:(((s[k+1]'hlt2).toNat:Int) == 45)=true:=by rw [hm.2];rfl
            have HR:=Lib.hid hR
            have HM:=Lib.hid hm
            clear hR hm
            go_wp2_with (go_at_call 176;refine (refBlank_any _ _).mono ?_;rintro e w1 ⟨rfl,rfl⟩)
            go_loop [1] (fun a=>∃ j:Nat,k≤j∧j≤s.size∧a=.int .i64 j∧j+leadF true (s.data.toList.drop j)=R) (fun a=>s.size - (intOf a).toNat)
            case atStart =>
              refine ⟨k,Nat.le_refl _,hk,rfl,?_⟩
              have h1:=HR.out
              have h2:=HM.out
              rw [drop_byte hlt,leadF,if_neg (by rw [h2.1];decide)]
              omega
            case round =>
              obtain ⟨j,hkj,hj,rfl,hq⟩:=hrel
              clear t1 t2
              by_cases hjt:j<s.size
              · have hJ:(j:Int) < ↑s.size:=by omega
                rw [drop_byte hjt,leadF] at hq
                by_cases hten:(s[j]'hjt)=10
                · rw [if_pos hten] at hq
                  have hjk:k+1≤j:=by
                    rcases Nat.lt_or_ge k j with h|h
                    · exact h
                    · obtain rfl:j=k:=by omega
                      have:=HM.out.1
                      rw [hten] at this
                      exact absurd this (by decide)
                  have hq2:j+leadF false (s.data.toList.drop j)=R:=by
                    rw [drop_byte hjt,leadF,if_pos (by rw [hten];decide)]
                    exact hq
                  have t3:(((s[j]'hjt).toNat:Int) != 10)=false:=by rw [hten];rfl
                  have HQ:=Lib.hid hq2
                  have HM2:=Lib.hid hten
                  clear hq hq2 hten
                  go_wp2
                  go_round
                  case rel=>exact ⟨j,hj,rfl,HQ.out⟩
                  case measure=>simp [intOf];omega
                · rw [if_neg hten] at hq
                  have t3:(((s[j]'hjt).toNat:Int) != 10)=true:=by
                    rw [bne_iff_ne]
                    intro q
                    exact hten (UInt8.toNat_inj.1 (by have e1:(10:UInt8).toNat=10:=rfl;omega))
                  have HQ:=Lib.hid hq
                  have HM2:=Lib.hid hten
                  clear hq hten
                  go_wp2
                  go_round
                  case rel=>exact ⟨j+1,by omega,by omega,by go_num,by have:=HQ.out;omega⟩
                  case measure=>simp [intOf];omega
              · obtain rfl:j=s.size:=by omega
                have hjk:k+1≤s.size:=hlt
                have hq2:s.size+leadF false (s.data.toList.drop s.size)=R:=by
                  have e:s.data.toList.drop s.size=[]:=by rw [List.drop_eq_nil_iff,← Lib.size_eq];exact Nat.le_refl _
                  rw [e] at hq ⊢
                  exact hq
                have HQ:=Lib.hid hq2
                clear hq hq2
                go_wp2
                go_round
                case rel=>exact ⟨s.size,Nat.le_refl _,rfl,HQ.out⟩
                case measure=>simp [intOf];omega
          · have hR:k=R:=by
              rw [if_neg (fun q=>hm ⟨q.1,by have:=q.2;rw [List.head?_cons] at this;injection this⟩)] at hR
              exact hR
            have HR:=Lib.hid hR
            clear hR
            by_cases ha:(s[k]'hlt)=45
            · have t1:(((s[k]'hlt).toNat:Int) == 45)=true:=by rw [ha];rfl
              have t2:(((s[k+1]'hlt2).toNat:Int) == 45)=false:=by
                rw [← Bool.not_eq_true,beq_iff_eq]
                intro q
                exact hm ⟨ha,UInt8.toNat_inj.1 (by have e1:(45:UInt8).toNat=45:=rfl;omega)⟩
              clear ha hm
              go_wp2_with (go_at_call 176;refine (refBlank_any _ _).mono ?_;rintro e w1 ⟨rfl,rfl⟩)
              go_ret
              exact ⟨ret_int (by rw [← HR.out]),rfl⟩
            · have t1:(((s[k]'hlt).toNat:Int) == 45)=false:=by
                rw [← Bool.not_eq_true,beq_iff_eq]
                intro q
                exact ha (UInt8.toNat_inj.1 (by have e1:(45:UInt8).toNat=45:=rfl;omega))
              clear ha hm
              go_wp2_with (go_at_call 176;refine (refBlank_any _ _).mono ?_;rintro e w1 ⟨rfl,rfl⟩)
              go_ret
              exact ⟨ret_int (by rw [← HR.out]),rfl⟩
        · have hR:k=R:=by
            have e:s.data.toList.drop (k+1)=[]:=by rw [List.drop_eq_nil_iff,← Lib.size_eq];omega
            rw [e,if_neg (by rintro ⟨_,q⟩;cases q)] at hR
            exact hR
          have HR:=Lib.hid hR
          clear hR
          have hI2:decide ((k:Int)+1 < ↑s.size)=false:=decide_eq_false (by omega)
          go_wp2_with (go_at_call 176;refine (refBlank_any _ _).mono ?_;rintro e w1 ⟨rfl,rfl⟩)
          go_ret
          exact ⟨ret_int (by rw [← HR.out]),rfl⟩
    · have hR:k=R:=by
        have e:s.data.toList.drop k=[]:=by rw [List.drop_eq_nil_iff,← Lib.size_eq];omega
        rw [e] at hR
        exact hR
      have HR:=Lib.hid hR
      clear hR
      have hI:decide ((k:Int) < ↑s.size)=false:=decide_eq_false (by omega)
      go_wp2
      go_ret
      exact ⟨ret_int (by rw [← HR.out]),rfl⟩
def refKeyL:List (List UInt8):=[[105,109,112,111,114,116],[112,117,98],[102,117,110],[108,101,116],[105,110],[105,102],[116,104,101,110],[101,108,115,101],[97,115,115,101,114,116],[116,114,117,101],[102,97,108,115,101],[110,111,116],[105,110,116],[98,111,111,108],[114,101,115]]
theorem refKey_perm:refKeyL.Perm keyL:=by decide
theorem refKey_mem (x:List UInt8):x∈refKeyL↔x∈keyL:=refKey_perm.mem_iff
def rowOf (l:List (List UInt8)):Array Value:=(l.map fun x=>Value.string ⟨x.toArray⟩).toArray
theorem rowOf_at (l:List (List UInt8))(k:Nat)(h:k<l.length):(rowOf l)[k]?=some (.string ⟨l[k].toArray⟩):=by
 simp [rowOf,h]
theorem none_of {x:List UInt8}{l:List (List UInt8)}(h:∀ j,(hj:j<l.length)→l[j]≠x):x ∉ l:=by
 intro hx
 obtain ⟨j,hj,e⟩:=List.mem_iff_getElem.1 hx
 exact h j hj e
theorem str_eq (x:List UInt8)(s:ByteArray):((ByteArray.mk x.toArray).toList == s.toList)=decide (x=s.data.toList):=by
 rw [Lib.toList_data,Lib.toList_data]
 by_cases h:x=s.data.toList
 ·rw [decide_eq_true h,beq_iff_eq];exact h
 ·rw [decide_eq_false h,← Bool.not_eq_true,beq_iff_eq];exact h
theorem refKey_any (s:ByteArray)(w:World) :
  Calls Tryz.prog 179 #[.string s] w fun e w'=>e=.returned (.bool (decide (s.data.toList∈keyL)))∧Below w.heap.size w w':=by
 have hz:∀ k,k<15→k<refKeyL.length:=fun k h=>h
 go_enter Tryz.func179,Tryz.ntmps179
 go_wp2
 generalize hw:w.alloc _=wx
 have hh:wx.heap[w.heap.size]?=some (.cells (rowOf refKeyL) 242 (0,0)):=by rw [← hw];exact heap_alloc_new w _
 have hb:Below w.heap.size w wx:=by rw [← hw];exact (Below.refl _ _).alloc (Nat.le_refl _) _
 clear hw
 go_loop [4] (fun i=>∃ k:Nat,k≤15∧i=.int .i64 k∧∀ j,(hj:j<refKeyL.length)→j<k→refKeyL[j]≠s.data.toList) (fun i=>15 - (intOf i).toNat)
 case atStart=>exact ⟨0,by omega,rfl,fun j _ h=>absurd h (by omega)⟩
 case round =>
  obtain ⟨k,hk,rfl,hj⟩:=hrel
  by_cases hlt:k<15
  ·have hkl:=hz k hlt
   have hI:(k:Int)<15:=by omega
   have hc:wx.cell? ⟨w.heap.size,k,none⟩=some (.string ⟨refKeyL[k].toArray⟩):=by rw [Lib.cell_of_heap hh];exact rowOf_at _ _ hkl
   have hs:=str_eq refKeyL[k] s
   by_cases he:refKeyL[k]=s.data.toList
   ·have hm:s.data.toList∈keyL:=(refKey_mem _).1 (he ▸ List.getElem_mem _)
    rw [decide_eq_true he] at hs
    generalize ByteArray.mk refKeyL[k].toArray=y at hc hs
    have HM:=Lib.hid hm
    clear hm he hh hj
    go_wp2
    go_ret
    exact ⟨ret_bool (decide_eq_true HM.out).symm,hb⟩
   ·rw [decide_eq_false he] at hs
    have HJ:Hid (∀ j,(hj:j<refKeyL.length)→j<k+1→refKeyL[j]≠s.data.toList):=Lib.hid (fun j hjl hjk=>by
     by_cases hkj:j=k
     ·subst hkj;exact he
     ·exact hj j hjl (by omega))
    generalize ByteArray.mk refKeyL[k].toArray=y at hc hs
    clear he hh hj
    go_wp2
    go_round
    case rel=>exact ⟨k+1,by omega,by go_num,HJ.out⟩
    case measure=>simp [intOf];omega
  ·have hm:s.data.toList ∉ keyL:=fun q=>none_of (fun j hjl=>hj j hjl (by have:refKeyL.length=15:=rfl;omega)) ((refKey_mem _).2 q)
   have HM:=Lib.hid hm
   have hI:decide ((k:Int)<15)=false:=decide_eq_false (by omega)
   clear hm hj hh
   go_wp2
   go_ret
   exact ⟨ret_bool (decide_eq_false HM.out).symm,hb⟩
def signLen (T:List UInt8):Nat:=match signF T with
 | some x=>x.length
 | none=>0
theorem two_len:∀ x∈twoL,x.length=2:=by decide
theorem signLen_two {T x:List UInt8}(h:x∈twoL)(hx:x <+: T):signLen T=2:=by
 rw [signLen,signF,signL,List.find?_append]
 cases hf:twoL.find? (fun x=>x.isPrefixOf T) with
 | none =>
  rw [List.find?_eq_none] at hf
  exact absurd (List.isPrefixOf_iff_prefix.2 hx) (hf x h)
 | some y =>
  rw [Option.some_or]
  exact two_len y (List.mem_of_find?_eq_some hf)
theorem signLen_one {c:UInt8}{r:List UInt8}(h:∀ x∈twoL,¬ x <+: c :: r):signLen (c :: r)=if c∈oneL then 1 else 0:=by
 rw [signLen,signF,signL,List.find?_append]
 have hf:twoL.find? (fun x=>x.isPrefixOf (c :: r))=none:=by
  rw [List.find?_eq_none]
  intro x hx q
  exact h x hx (List.isPrefixOf_iff_prefix.1 q)
 rw [hf,Option.none_or]
 by_cases hc:c∈oneL
 ·rw [if_pos hc]
  cases hq:(oneL.map fun c=>[c]).find? (fun x=>x.isPrefixOf (c :: r)) with
  | none =>
   rw [List.find?_eq_none] at hq
   exact absurd (List.isPrefixOf_iff_prefix.2 ⟨r,rfl⟩) (hq [c] (List.mem_map.2 ⟨c,hc,rfl⟩))
  | some y =>
   obtain ⟨d,_,rfl⟩:=List.mem_map.1 (List.mem_of_find?_eq_some hq)
   rfl
 ·rw [if_neg hc]
  have hq:(oneL.map fun c=>[c]).find? (fun x=>x.isPrefixOf (c :: r))=none:=by
   rw [List.find?_eq_none]
   intro x hx q
   obtain ⟨d,hd,rfl⟩:=List.mem_map.1 hx
   have:=List.isPrefixOf_iff_prefix.1 q
   obtain ⟨t,e⟩:=this
   injection e with e1 e2
   exact hc (e1 ▸ hd)
  rw [hq]
theorem two_short {x:List UInt8}(hx:x∈twoL)(c:UInt8):¬ x <+: [c]:=fun q=>by
 have:=q.length_le
 rw [two_len x hx] at this
 simp at this
theorem two_pair {x:List UInt8}(hx:x∈twoL)(c d:UInt8)(r:List UInt8):x <+: c :: d :: r↔x=[c,d]:=by
 constructor
 ·intro q
  have h1:=List.prefix_iff_eq_take.1 q
  rw [two_len x hx] at h1
  exact h1
 ·rintro rfl
  exact ⟨r,rfl⟩
theorem refSign_any (s:ByteArray)(p:Nat)(w:World)(hs:s.size≤1099511627776)(hp:p<s.size) :
  Calls Tryz.prog 180 #[.string s,.int .i64 p] w fun e w'=>e=.returned (.int .i64 (signLen (s.data.toList.drop p)))∧Below w.heap.size w w':=by
 generalize hR:signLen (s.data.toList.drop p)=R
 rw [drop_byte hp] at hR
 have HR:=Lib.hid hR
 clear hR
 go_enter Tryz.func180,Tryz.ntmps180
 go_wp2
 generalize hw:w.alloc _=wx
 have hh:wx.heap[w.heap.size]?=some (.cells (rowOf twoL) 255 (0,0)):=by rw [← hw];exact heap_alloc_new w _
 have hb:Below w.heap.size w wx:=by rw [← hw];exact (Below.refl _ _).alloc (Nat.le_refl _) _
 clear hw
 go_loopw [6] (fun i wr=>∃ k:Nat,k≤6∧i=.int .i64 k∧(∀ j,(hj:j<twoL.length)→j<k→¬ twoL[j] <+: (s[p]'hp) :: s.data.toList.drop (p+1))∧wr.heap[w.heap.size]?=some (.cells (rowOf twoL) 255 (0,0))∧Below w.heap.size w wr) (fun i _=>6 - (intOf i).toNat)
 case atStart=>exact ⟨0,by omega,rfl,fun j _ h=>absurd h (by omega),hh,hb⟩
 case round =>
  clear hh hb
  obtain ⟨k,hk,rfl,hj,hh,hb⟩:=hrel
  by_cases hlt:k<6
  ·have hkl:k<twoL.length:=hlt
   have hI:(k:Int)<6:=by omega
   have hc:wr.cell? ⟨w.heap.size,k,none⟩=some (.string ⟨twoL[k].toArray⟩):=by rw [Lib.cell_of_heap hh];exact rowOf_at _ _ hkl
   have w1:IntKind.i64.wrap ((p:Int)+1)=(p:Int)+1:=IntWalk.i64_in _ (by omega)
   have w2:IntKind.i64.wrap ((p:Int)+2)=(p:Int)+2:=IntWalk.i64_in _ (by omega)
   have HH:=Lib.hid hh
   by_cases hlt2:p+1<s.size
   ·have hd:=drop_byte hlt2
    have hI2:(p:Int)+1 < ↑s.size:=by omega
    have hI3:(p:Int)+2≤↑s.size:=by omega
    have hI4:((p:Int)+2).toNat=p+2:=by omega
    have hy:(s.extract p (p+2)).data.toList=[s[p]'hp,s[p+1]'hlt2]:=by
     rw [extract_list,List.drop_take,drop_byte hp,hd]
     simp
    have hs2:((s.extract p (p+2)).toList == (ByteArray.mk twoL[k].toArray).toList)=decide (twoL[k]=[s[p]'hp,s[p+1]'hlt2]):=by
     rw [Lib.toList_data,Lib.toList_data,hy]
     by_cases q:twoL[k]=[s[p]'hp,s[p+1]'hlt2]
     ·rw [decide_eq_true q,beq_iff_eq];exact q.symm
     ·rw [decide_eq_false q,← Bool.not_eq_true,beq_iff_eq];exact fun e=>q e.symm
    by_cases he:twoL[k]=[s[p]'hp,s[p+1]'hlt2]
    ·rw [decide_eq_true he] at hs2
     have hR2:R=2:=by
      rw [← HR.out]
      refine signLen_two (List.getElem_mem hkl) ?_
      rw [hd]
      exact (two_pair (List.getElem_mem hkl) _ _ _).2 he
     generalize ByteArray.mk twoL[k].toArray=y at hc hs2
     have HR2:=Lib.hid hR2
     clear hR2 he hh hj hd hy
     go_wp2
     go_quiet (fail)
     go_wp2
     go_ret
     exact ⟨ret_int (by rw [HR2.out];rfl),below_drewN hb _⟩
    ·rw [decide_eq_false he] at hs2
     have HJ:Hid (∀ j,(hj:j<twoL.length)→j<k+1→¬ twoL[j] <+: (s[p]'hp) :: s.data.toList.drop (p+1)):=Lib.hid (fun j hjl hjk=>by
      by_cases hkj:j=k
      ·subst hkj
       rw [hd,two_pair (List.getElem_mem hjl)]
       exact he
      ·exact hj j hjl (by omega))
     generalize ByteArray.mk twoL[k].toArray=y at hc hs2
     clear he hh hj hd hy
     go_wp2
     go_quiet (fail)
     go_wp2
     go_roundw
     case rel=>exact ⟨k+1,by omega,by go_num,HJ.out,HH.out,below_drewN hb _⟩
     case measure=>simp [intOf];omega
   ·have hI2:decide ((p:Int)+1 < ↑s.size)=false:=decide_eq_false (by omega)
    have HJ:Hid (∀ j,(hj:j<twoL.length)→j<k+1→¬ twoL[j] <+: (s[p]'hp) :: s.data.toList.drop (p+1)):=Lib.hid (fun j hjl hjk=>by
     have e:s.data.toList.drop (p+1)=[]:=by rw [List.drop_eq_nil_iff,← Lib.size_eq];omega
     rw [e]
     exact two_short (List.getElem_mem hjl) _)
    generalize ByteArray.mk twoL[k].toArray=y at hc
    clear hh hj
    go_wp2
    go_quiet (fail)
    go_wp2
    go_roundw
    case rel=>exact ⟨k+1,by omega,by go_num,HJ.out,HH.out,below_drewN hb _⟩
    case measure=>simp [intOf];omega
  ·have hI:decide ((k:Int)<6)=false:=decide_eq_false (by omega)
   have hno:∀ x∈twoL,¬ x <+: (s[p]'hp) :: s.data.toList.drop (p+1):=by
    intro x hx
    obtain ⟨j,hjl,e⟩:=List.mem_iff_getElem.1 hx
    exact e ▸ hj j hjl (by have:twoL.length=6:=rfl;omega)
   have hR1:=HR.out
   rw [signLen_one hno] at hR1
   have HR1:=Lib.hid hR1
   clear hR1 hno hj hh
   go_wp2
   obtain ⟨o,ho⟩:∃ o:ByteArray,o=⟨#[40,41,123,125,44,58,59,46,43,45,42,47,37,61,60,62]⟩:=⟨_,rfl⟩
   rw [← ho]
   have hos:o.size≤16:=by rw [ho];exact Nat.le_refl 16
   have hol:o.data.toList=oneL:=by rw [ho];rfl
   clear ho
   go_loopw [8] (fun i wq=>∃ j:Nat,j≤o.size∧i=.int .i64 j∧(∀ m,(hm:m<o.size)→m<j→o[m]'hm≠s[p]'hp)∧Below w.heap.size w wq) (fun i _=>o.size - (intOf i).toNat)
   case atStart=>exact ⟨0,by omega,rfl,fun m _ h=>absurd h (by omega),hb⟩
   case round =>
    clear hb hI
    obtain ⟨j,hj,rfl,hm,hb⟩:=hrel
    by_cases hlt:j<o.size
    ·have hJ:(j:Int) < ↑o.size:=by omega
     by_cases he:o[j]'hlt=s[p]'hp
     ·have hc:(s[p]'hp)∈oneL:=by rw [← hol,← he];exact List.getElem_mem (l:=o.data.toList) _
      have t1:(((s[p]'hp).toNat:Int) == ((o[j]'hlt).toNat:Int))=true:=by rw [he,beq_iff_eq]
      have HC:=Lib.hid hc
      clear hc he hm hol
      go_wp2
      go_quiet (fail)
      go_wp2
      go_ret
      exact ⟨ret_int (by rw [← HR1.out,if_pos HC.out];rfl),below_drewN hb _⟩
     ·have t1:(((s[p]'hp).toNat:Int) == ((o[j]'hlt).toNat:Int))=false:=by
       rw [← Bool.not_eq_true,beq_iff_eq]
       intro q
       exact he (UInt8.toNat_inj.1 (by omega))
      have HM:Hid (∀ m,(hm:m<o.size)→m<j+1→o[m]'hm≠s[p]'hp):=Lib.hid (fun m hmo hmj=>by
       by_cases hmk:m=j
       ·subst hmk;exact he
       ·exact hm m hmo (by omega))
      clear he hm hol
      go_wp2
      go_quiet (fail)
      go_wp2
      go_roundw
      case rel=>exact ⟨j+1,by omega,by go_num,HM.out,below_drewN hb _⟩
      case measure=>simp [intOf];omega
    ·have hJ:decide ((j:Int) < ↑o.size)=false:=decide_eq_false (by omega)
     have hc:¬ (s[p]'hp)∈oneL:=by
      rw [← hol]
      intro q
      obtain ⟨m,hml,e⟩:=List.mem_iff_getElem.1 q
      have hmo:m<o.size:=by rw [Lib.size_eq];exact hml
      exact hm m hmo (by omega) e
     have HC:=Lib.hid hc
     clear hc hm hol
     go_wp2
     go_ret
     exact ⟨ret_int (by rw [← HR1.out,if_neg HC.out];rfl),hb⟩
def refTok (p:Nat)(t:Nat × Nat × Nat):Value:=.tuple #[.int .i64 t.1,.int .i64 (if t.2.2=0 then p+t.2.1 else 0:Nat),.int .i64 t.2.2]
theorem ret_refTok {p:Nat}{t:Nat × Nat × Nat}{a b c:Int}(h1:a=t.1)(h2:b=((if t.2.2=0 then p+t.2.1 else 0:Nat):Int))(h3:c=t.2.2):Ending.returned (.tuple #[.int .i64 a,.int .i64 b,.int .i64 c])=.returned (refTok p t):=by
 rw [refTok,h1,h2,h3]
def BoolPost (b:Bool)(w:World)(e:Ending)(w':World):Prop:=e=.returned (.bool b)∧Below w.heap.size w w'
theorem tw_step {q:UInt8→Bool}{s:ByteArray}{p m N:Nat}(hN:((s.data.toList.drop p).takeWhile q).length=N)(hm:m<s.size)(hp:p≤m)(hle:m≤p+N):m<p+N↔q (s[m]'hm)=true:=by
 subst hN
 obtain ⟨k,rfl⟩:∃ k,m=p+k:=⟨m - p,by omega⟩
 have:=take_more q (s.data.toList.drop p) k (by omega)
 rw [List.getElem?_drop,byte_is hm] at this
 constructor
 ·intro h
  obtain ⟨c,h1,h2⟩:=this.1 (by omega)
  injection h1 with h1
  rw [h1];exact h2
 ·intro h
  have:=this.2 ⟨_,rfl,h⟩
  omega
theorem tw_piece {q:UInt8→Bool}{s:ByteArray}{p N:Nat}(hN:((s.data.toList.drop p).takeWhile q).length=N):(s.extract p (p+N)).data.toList=(s.data.toList.drop p).takeWhile q:=by
 rw [extract_list,List.drop_take,Nat.add_sub_cancel_left,← hN]
 exact (List.prefix_iff_eq_take.1 (List.takeWhile_prefix q)).symm
theorem tw_len (q:UInt8→Bool)(s:ByteArray)(p:Nat):((s.data.toList.drop p).takeWhile q).length≤s.size - p:=by
 have:=takeWhile_le q (s.data.toList.drop p)
 rwa [List.length_drop,← Lib.size_eq] at this
theorem refToken_word (s:ByteArray)(p:Nat)(w:World)(hs:s.size≤1099511627776)(hp:p<s.size)(hl:letterB (s[p]'hp)=true) :
  Calls Tryz.prog 148 #[.string s,.int .i64 p] w fun e w'=>e=.returned (refTok p (tokF (s.data.toList.drop p)))∧Below w.heap.size w w':=by
 have hq:tokF (s.data.toList.drop p)=wordF (s.data.toList.drop p):=by rw [drop_byte hp,tokF,if_pos hl]
 have HQ:=Lib.hid hq
 have hn:=tw_len insideB s p
 generalize hN:((s.data.toList.drop p).takeWhile insideB).length=N at hn
 have HN:=Lib.hid hN
 clear hq hN
 go_enter Tryz.func148,Tryz.ntmps148
 go_wp2_with (go_at_call 177;refine (refLetter_any _ _).mono ?_;rintro e w1 ⟨rfl,rfl⟩)
 go_loop [7] (fun a=>∃ m:Nat,p≤m∧m≤p+N∧a=.int .i64 m) (fun a=>s.size - (intOf a).toNat)
 case atStart=>exact ⟨p,Nat.le_refl _,by omega,rfl⟩
 case round =>
  obtain ⟨m,hpm,hm,rfl⟩:=hrel
  clear hl
  by_cases hlt:m<s.size
  ·have hst:=tw_step (q:=insideB) HN.out hlt hpm hm
   have hI:(m:Int) < ↑s.size:=by omega
   by_cases hin:insideB (s[m]'hlt)=true
   ·have hlt2:m+1≤p+N:=hst.2 hin
    cases hL:letterB (s[m]'hlt) with
    | true =>
     clear hst hin
     go_wp2_with (go_at_call 177;refine (refLetter_any _ _).mono ?_;rintro e w1 ⟨rfl,rfl⟩)
     go_round
     case rel=>exact ⟨m+1,by omega,by omega,by go_num⟩
     case measure=>simp [intOf];omega
    | false =>
     cases hD:digitB (s[m]'hlt) with
     | true =>
      clear hst hin
      go_wp2_with (first|(go_at_call 177;refine (refLetter_any _ _).mono ?_;rintro e w1 ⟨rfl,rfl⟩)|(go_at_call 178;refine (refDigit_any _ _).mono ?_;rintro e w1 ⟨rfl,rfl⟩))
      go_round
      case rel=>exact ⟨m+1,by omega,by omega,by go_num⟩
      case measure=>simp [intOf];omega
     | false =>
      have t1:(((s[m]'hlt).toNat:Int) == 95)=true:=by
       rw [insideB,hL,hD,Bool.false_or,Bool.false_or,u8_eq] at hin
       exact hin
      clear hst hin
      go_wp2_with (first|(go_at_call 177;refine (refLetter_any _ _).mono ?_;rintro e w1 ⟨rfl,rfl⟩)|(go_at_call 178;refine (refDigit_any _ _).mono ?_;rintro e w1 ⟨rfl,rfl⟩))
      go_round
      case rel=>exact ⟨m+1,by omega,by omega,by go_num⟩
      case measure=>simp [intOf];omega
   ·have hin':insideB (s[m]'hlt)=false:=by simpa using hin
    have hmN:m=p+N:=by
     rcases Nat.lt_or_ge m (p+N) with h|h
     ·exact absurd (hst.1 h) hin
     ·omega
    rw [insideB] at hin'
    simp only [Bool.or_eq_false_iff] at hin'
    obtain ⟨⟨hL,hD⟩,hU⟩:=hin'
    rw [u8_eq] at hU
    have t1:(((s[m]'hlt).toNat:Int) == 95)=false:=hU
    clear hin hU
    subst hmN
    by_cases h40:40<N
    ·have hw:wordF (s.data.toList.drop p)=(0,0,20):=by
      unfold wordF
      exact if_pos (by rw [HN.out];exact h40)
     have HW:=Lib.hid (HQ.out.trans hw)
     have hd:(40:Int)<((p+N:Nat):Int) - (p:Int):=by omega
     clear hw hst
     go_wp2_with (first|(go_at_call 177;refine (refLetter_any _ _).mono ?_;rintro e w1 ⟨rfl,rfl⟩)|(go_at_call 178;refine (refDigit_any _ _).mono ?_;rintro e w1 ⟨rfl,rfl⟩))
     go_ret3
     refine ⟨ret_refTok (t:=tokF (s.data.toList.drop p)) ?_ ?_ ?_,Below.refl _ _⟩ <;> rw [HW.out] <;> rfl
    ·have hw:wordF (s.data.toList.drop p)=if (s.data.toList.drop p).takeWhile insideB∈keyL then (2,N,0) else (1,N,0):=by
      unfold wordF
      simp only [HN.out]
      rw [if_neg h40]
     have hd:((p+N:Nat):Int) - (p:Int)≤40:=by omega
     have hd2:(p:Int)≤((p+N:Nat):Int):=by omega
     have hd3:((p+N:Nat):Int)≤(s.size:Int):=by omega
     have hk:∀ w,Calls Tryz.prog 179 #[.string (s.extract p (p+N))] w (BoolPost (decide ((s.extract p (p+N)).data.toList∈keyL)) w):=refKey_any (s.extract p (p+N))
     rw [tw_piece HN.out] at hk
     have HK:=Lib.hid hk
     by_cases hkey:(s.data.toList.drop p).takeWhile insideB∈keyL
     ·rw [if_pos hkey] at hw
      have HW:=Lib.hid (HQ.out.trans hw)
      have HY:=Lib.hid hkey
      clear hw hk hkey hst
      go_wp2_with (first|(go_at_call 177;refine (refLetter_any _ _).mono ?_;rintro e w1 ⟨rfl,rfl⟩)|(go_at_call 178;refine (refDigit_any _ _).mono ?_;rintro e w1 ⟨rfl,rfl⟩)|(go_at_call 179;refine (HK.out _).mono ?_))
      rintro e w2 ⟨he,hb⟩
      obtain rfl:e=.returned (.bool true):=by rw [he,decide_eq_true HY.out]
      clear he
      go_wp2
      go_ret3
      refine ⟨ret_refTok (t:=tokF (s.data.toList.drop p)) ?_ ?_ ?_,hb⟩ <;> rw [HW.out] <;> rfl
     ·rw [if_neg hkey] at hw
      have HW:=Lib.hid (HQ.out.trans hw)
      have HY:=Lib.hid hkey
      clear hw hk hkey hst
      go_wp2_with (first|(go_at_call 177;refine (refLetter_any _ _).mono ?_;rintro e w1 ⟨rfl,rfl⟩)|(go_at_call 178;refine (refDigit_any _ _).mono ?_;rintro e w1 ⟨rfl,rfl⟩)|(go_at_call 179;refine (HK.out _).mono ?_))
      rintro e w2 ⟨he,hb⟩
      obtain rfl:e=.returned (.bool false):=by rw [he,decide_eq_false HY.out]
      clear he
      go_wp2
      go_ret3
      refine ⟨ret_refTok (t:=tokF (s.data.toList.drop p)) ?_ ?_ ?_,hb⟩ <;> rw [HW.out] <;> rfl
  ·have hmN:m=p+N:=by omega
   have hI:decide ((m:Int) < ↑s.size)=false:=decide_eq_false (by omega)
   have hst:=trivial
   subst hmN
   by_cases h40:40<N
   ·have hw:wordF (s.data.toList.drop p)=(0,0,20):=by
     unfold wordF
     exact if_pos (by rw [HN.out];exact h40)
    have HW:=Lib.hid (HQ.out.trans hw)
    have hd:(40:Int)<((p+N:Nat):Int) - (p:Int):=by omega
    clear hw hst
    go_wp2
    go_ret3
    refine ⟨ret_refTok (t:=tokF (s.data.toList.drop p)) ?_ ?_ ?_,Below.refl _ _⟩ <;> rw [HW.out] <;> rfl
   ·have hw:wordF (s.data.toList.drop p)=if (s.data.toList.drop p).takeWhile insideB∈keyL then (2,N,0) else (1,N,0):=by
     unfold wordF
     simp only [HN.out]
     rw [if_neg h40]
    have hd:((p+N:Nat):Int) - (p:Int)≤40:=by omega
    have hd2:(p:Int)≤((p+N:Nat):Int):=by omega
    have hd3:((p+N:Nat):Int)≤(s.size:Int):=by omega
    have hk:∀ w,Calls Tryz.prog 179 #[.string (s.extract p (p+N))] w (BoolPost (decide ((s.extract p (p+N)).data.toList∈keyL)) w):=refKey_any (s.extract p (p+N))
    rw [tw_piece HN.out] at hk
    have HK:=Lib.hid hk
    by_cases hkey:(s.data.toList.drop p).takeWhile insideB∈keyL
    ·rw [if_pos hkey] at hw
     have HW:=Lib.hid (HQ.out.trans hw)
     have HY:=Lib.hid hkey
     clear hw hk hkey hst
     go_wp2_with (first|(go_at_call 179;refine (HK.out _).mono ?_))
     rintro e w2 ⟨he,hb⟩
     obtain rfl:e=.returned (.bool true):=by rw [he,decide_eq_true HY.out]
     clear he
     go_wp2
     go_ret3
     refine ⟨ret_refTok (t:=tokF (s.data.toList.drop p)) ?_ ?_ ?_,hb⟩ <;> rw [HW.out] <;> rfl
    ·rw [if_neg hkey] at hw
     have HW:=Lib.hid (HQ.out.trans hw)
     have HY:=Lib.hid hkey
     clear hw hk hkey hst
     go_wp2_with (first|(go_at_call 179;refine (HK.out _).mono ?_))
     rintro e w2 ⟨he,hb⟩
     obtain rfl:e=.returned (.bool false):=by rw [he,decide_eq_false HY.out]
     clear he
     go_wp2
     go_ret3
     refine ⟨ret_refTok (t:=tokF (s.data.toList.drop p)) ?_ ?_ ?_,hb⟩ <;> rw [HW.out] <;> rfl
theorem refToken_num (s:ByteArray)(p:Nat)(w:World)(hs:s.size≤1099511627776)(hp:p<s.size)(hl:letterB (s[p]'hp)=false)(hdg:digitB (s[p]'hp)=true) :
  Calls Tryz.prog 148 #[.string s,.int .i64 p] w fun e w'=>e=.returned (refTok p (tokF (s.data.toList.drop p)))∧Below w.heap.size w w':=by
 have hq:tokF (s.data.toList.drop p)=numF (s.data.toList.drop p):=by rw [drop_byte hp,tokF,if_neg (by rw [hl];decide),if_pos hdg]
 have hf:((s.data.toList.drop p).takeWhile digitB)[0]?=some (s[p]'hp):=by rw [drop_byte hp,List.takeWhile_cons_of_pos hdg];rfl
 have HQ:=Lib.hid hq
 have HF:=Lib.hid hf
 have hn:=tw_len digitB s p
 generalize hN:((s.data.toList.drop p).takeWhile digitB).length=N at hn
 have HN:=Lib.hid hN
 clear hq hN hf
 go_enter Tryz.func148,Tryz.ntmps148
 go_wp2_with (first|(go_at_call 177;refine (refLetter_any _ _).mono ?_;rintro e w1 ⟨rfl,rfl⟩)|(go_at_call 178;refine (refDigit_any _ _).mono ?_;rintro e w1 ⟨rfl,rfl⟩))
 go_loop [7] (fun a=>∃ m:Nat,p≤m∧m≤p+N∧a=.int .i64 m) (fun a=>s.size - (intOf a).toNat)
 case atStart=>exact ⟨p,Nat.le_refl _,by omega,rfl⟩
 case round =>
  obtain ⟨m,hpm,hm,rfl⟩:=hrel
  clear hl hdg
  by_cases hlt:m<s.size
  ·have hst:=tw_step (q:=digitB) HN.out hlt hpm hm
   have hI:(m:Int) < ↑s.size:=by omega
   by_cases hD:digitB (s[m]'hlt)=true
   ·have hlt2:m+1≤p+N:=hst.2 hD
    clear hst
    go_wp2_with (first|(go_at_call 178;refine (refDigit_any _ _).mono ?_;rintro e w1 ⟨rfl,rfl⟩))
    go_round
    case rel=>exact ⟨m+1,by omega,by omega,by go_num⟩
    case measure=>simp [intOf];omega
   ·have hD':digitB (s[m]'hlt)=false:=by simpa using hD
    have hmN:m=p+N:=by
     rcases Nat.lt_or_ge m (p+N) with h|h
     ·exact absurd (hst.1 h) hD
     ·omega
    clear hD
    subst hmN
    by_cases h60:60<N
    ·have hw:numF (s.data.toList.drop p)=(0,0,21):=by
      unfold numF
      exact if_pos (.inl (by rw [HN.out];exact h60))
     have HW:=Lib.hid (HQ.out.trans hw)
     have hd:decide (60<(p:Int)+(N:Int) - (p:Int))=true:=decide_eq_true (by omega)
     clear hw hst
     go_wp2_with (first|(go_at_call 178;refine (refDigit_any _ _).mono ?_;rintro e w1 ⟨rfl,rfl⟩))
     go_ret3
     refine ⟨ret_refTok (t:=tokF (s.data.toList.drop p)) ?_ ?_ ?_,Below.refl _ _⟩ <;> rw [HW.out] <;> rfl
    ·have hd:((p+N:Nat):Int) - (p:Int)≤60:=by omega
     have hd':decide (60<(p:Int)+(N:Int) - (p:Int))=false:=decide_eq_false (by omega)
     by_cases h1:1<N
     ·have hd1:decide (1<(p:Int)+(N:Int) - (p:Int))=true:=decide_eq_true (by omega)
      by_cases h0:(s[p]'hp)=48
      ·have hw:numF (s.data.toList.drop p)=(0,0,21):=by
        unfold numF
        exact if_pos (.inr ⟨by rw [HN.out];exact h1,by rw [HF.out,h0]⟩)
       have HW:=Lib.hid (HQ.out.trans hw)
       have t0:(((s[p]'hp).toNat:Int) == 48)=true:=by rw [h0];rfl
       clear hw hst h0
       go_wp2_with (first|(go_at_call 178;refine (refDigit_any _ _).mono ?_;rintro e w1 ⟨rfl,rfl⟩))
       go_ret3
       refine ⟨ret_refTok (t:=tokF (s.data.toList.drop p)) ?_ ?_ ?_,Below.refl _ _⟩ <;> rw [HW.out] <;> rfl
      ·have hw:numF (s.data.toList.drop p)=(3,N,0):=by
        unfold numF
        simp only [HN.out]
        refine if_neg ?_
        rintro (h|⟨_,h⟩)
        ·exact h60 h
        ·rw [HF.out] at h;injection h with h;exact h0 h
       have HW:=Lib.hid (HQ.out.trans hw)
       have t0:(((s[p]'hp).toNat:Int) == 48)=false:=by
        rw [← Bool.not_eq_true,beq_iff_eq];intro q
        exact h0 (UInt8.toNat_inj.1 (by have e1:(48:UInt8).toNat=48:=rfl;omega))
       clear hw hst h0
       go_wp2_with (first|(go_at_call 178;refine (refDigit_any _ _).mono ?_;rintro e w1 ⟨rfl,rfl⟩))
       go_ret3
       refine ⟨ret_refTok (t:=tokF (s.data.toList.drop p)) ?_ ?_ ?_,Below.refl _ _⟩ <;> rw [HW.out] <;> rfl
     ·have hw:numF (s.data.toList.drop p)=(3,N,0):=by
       unfold numF
       simp only [HN.out]
       refine if_neg ?_
       rintro (h|⟨h,_⟩)
       ·exact h60 h
       ·exact h1 h
      have HW:=Lib.hid (HQ.out.trans hw)
      have hd1:decide (1<(p:Int)+(N:Int) - (p:Int))=false:=decide_eq_false (by omega)
      clear hw hst
      go_wp2_with (first|(go_at_call 178;refine (refDigit_any _ _).mono ?_;rintro e w1 ⟨rfl,rfl⟩))
      go_ret3
      refine ⟨ret_refTok (t:=tokF (s.data.toList.drop p)) ?_ ?_ ?_,Below.refl _ _⟩ <;> rw [HW.out] <;> rfl
  ·have hmN:m=p+N:=by omega
   have hI:decide ((m:Int) < ↑s.size)=false:=decide_eq_false (by omega)
   have hst:=trivial
   subst hmN
   by_cases h60:60<N
   ·have hw:numF (s.data.toList.drop p)=(0,0,21):=by
     unfold numF
     exact if_pos (.inl (by rw [HN.out];exact h60))
    have HW:=Lib.hid (HQ.out.trans hw)
    have hd:decide (60<(p:Int)+(N:Int) - (p:Int))=true:=decide_eq_true (by omega)
    clear hw hst
    go_wp2
    go_ret3
    refine ⟨ret_refTok (t:=tokF (s.data.toList.drop p)) ?_ ?_ ?_,Below.refl _ _⟩ <;> rw [HW.out] <;> rfl
   ·have hd:((p+N:Nat):Int) - (p:Int)≤60:=by omega
    have hd':decide (60<(p:Int)+(N:Int) - (p:Int))=false:=decide_eq_false (by omega)
    by_cases h1:1<N
    ·have hd1:decide (1<(p:Int)+(N:Int) - (p:Int))=true:=decide_eq_true (by omega)
     by_cases h0:(s[p]'hp)=48
     ·have hw:numF (s.data.toList.drop p)=(0,0,21):=by
       unfold numF
       exact if_pos (.inr ⟨by rw [HN.out];exact h1,by rw [HF.out,h0]⟩)
      have HW:=Lib.hid (HQ.out.trans hw)
      have t0:(((s[p]'hp).toNat:Int) == 48)=true:=by rw [h0];rfl
      clear hw hst h0
      go_wp2
      go_ret3
      refine ⟨ret_refTok (t:=tokF (s.data.toList.drop p)) ?_ ?_ ?_,Below.refl _ _⟩ <;> rw [HW.out] <;> rfl
     ·have hw:numF (s.data.toList.drop p)=(3,N,0):=by
       unfold numF
       simp only [HN.out]
       refine if_neg ?_
       rintro (h|⟨_,h⟩)
       ·exact h60 h
       ·rw [HF.out] at h;injection h with h;exact h0 h
      have HW:=Lib.hid (HQ.out.trans hw)
      have t0:(((s[p]'hp).toNat:Int) == 48)=false:=by
       rw [← Bool.not_eq_true,beq_iff_eq];intro q
       exact h0 (UInt8.toNat_inj.1 (by have e1:(48:UInt8).toNat=48:=rfl;omega))
      clear hw hst h0
      go_wp2
      go_ret3
      refine ⟨ret_refTok (t:=tokF (s.data.toList.drop p)) ?_ ?_ ?_,Below.refl _ _⟩ <;> rw [HW.out] <;> rfl
    ·have hw:numF (s.data.toList.drop p)=(3,N,0):=by
      unfold numF
      simp only [HN.out]
      refine if_neg ?_
      rintro (h|⟨h,_⟩)
      ·exact h60 h
      ·exact h1 h
     have HW:=Lib.hid (HQ.out.trans hw)
     have hd1:decide (1<(p:Int)+(N:Int) - (p:Int))=false:=decide_eq_false (by omega)
     clear hw hst
     go_wp2
     go_ret3
     refine ⟨ret_refTok (t:=tokF (s.data.toList.drop p)) ?_ ?_ ?_,Below.refl _ _⟩ <;> rw [HW.out] <;> rfl
theorem refToken_sym (s:ByteArray)(p:Nat)(w:World)(hs:s.size≤1099511627776)(hp:p<s.size)(hl:letterB (s[p]'hp)=false)(hdg:digitB (s[p]'hp)=false) :
  Calls Tryz.prog 148 #[.string s,.int .i64 p] w fun e w'=>e=.returned (refTok p (tokF (s.data.toList.drop p)))∧Below w.heap.size w w':=by
 have hq:tokF (s.data.toList.drop p)=symF (s.data.toList.drop p):=by rw [drop_byte hp,tokF,if_neg (by rw [hl];decide),if_neg (by rw [hdg];decide)]
 have hz:=refSign_any s p w hs hp
 have hlen:signLen (s.data.toList.drop p)≤s.size - p:=by
  unfold signLen
  cases hf:signF (s.data.toList.drop p) with
  | none=>exact Nat.zero_le _
  | some x =>
   have:=(signF_some hf).1.length_le
   rwa [List.length_drop,← Lib.size_eq] at this
 have hsy:symF (s.data.toList.drop p)=if signLen (s.data.toList.drop p)=0 then (0,0,20) else (4,signLen (s.data.toList.drop p),0):=by
  unfold symF signLen
  cases hf:signF (s.data.toList.drop p) with
  | none=>rfl
  | some x =>
   have:=(signF_some hf).2.1
   simp only
   rw [if_neg (by omega)]
 generalize signLen (s.data.toList.drop p)=n at hz hlen hsy
 have HZ:=Lib.hid hz
 clear hz
 by_cases h0:n=0
 ·have HW:=Lib.hid (hq.trans (hsy.trans (if_pos h0)))
  subst h0
  clear hq hsy
  go_enter Tryz.func148,Tryz.ntmps148
  go_wp2_with (first|(go_at_call 177;refine (refLetter_any _ _).mono ?_;rintro e w1 ⟨rfl,rfl⟩)|(go_at_call 178;refine (refDigit_any _ _).mono ?_;rintro e w1 ⟨rfl,rfl⟩)|(go_at_call 180;refine HZ.out.mono ?_;rintro e w1 ⟨rfl,hb⟩))
  go_ret3
  refine ⟨ret_refTok (t:=tokF (s.data.toList.drop p)) ?_ ?_ ?_,hb⟩ <;> rw [HW.out] <;> rfl
 ·have HW:=Lib.hid (hq.trans (hsy.trans (if_neg h0)))
  have t0:((n:Int) == 0)=false:=by rw [← Bool.not_eq_true,beq_iff_eq];omega
  clear hq hsy h0
  go_enter Tryz.func148,Tryz.ntmps148
  go_wp2_with (first|(go_at_call 177;refine (refLetter_any _ _).mono ?_;rintro e w1 ⟨rfl,rfl⟩)|(go_at_call 178;refine (refDigit_any _ _).mono ?_;rintro e w1 ⟨rfl,rfl⟩)|(go_at_call 180;refine HZ.out.mono ?_;rintro e w1 ⟨rfl,hb⟩))
  go_ret3
  refine ⟨ret_refTok (t:=tokF (s.data.toList.drop p)) ?_ ?_ ?_,hb⟩ <;> rw [HW.out] <;> rfl
theorem refToken_any (s:ByteArray)(p:Nat)(w:World)(hs:s.size≤1099511627776)(hp:p<s.size) :
  Calls Tryz.prog 148 #[.string s,.int .i64 p] w fun e w'=>e=.returned (refTok p (tokF (s.data.toList.drop p)))∧Below w.heap.size w w':=by
 cases hl:letterB (s[p]'hp) with
 | true=>exact refToken_word s p w hs hp hl
 | false =>
  cases hd:digitB (s[p]'hp) with
  | true=>exact refToken_num s p w hs hp hl hd
  | false=>exact refToken_sym s p w hs hp hl hd
end Go.Proofs.YtdednahplodojaaGreatDoor
