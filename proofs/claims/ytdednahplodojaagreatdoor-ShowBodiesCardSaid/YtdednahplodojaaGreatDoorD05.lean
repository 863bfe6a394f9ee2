/- Walks and plain laws: LexW4, LexSigns, LexW5, LexInfo, LexW6, Builder, LexWhole, RefLex1, RefLex2, RefLex3, RefLex4, RefLex5, RefLex6. -/
import Derived.Test.YtdednahplodojaaGreatDoorD04
import Derived.Great.BuildSlice
import Derived.Deep.WholeRow
import Derived.KernelRfl
set_option maxHeartbeats 16000000
set_option maxRecDepth 100000
set_option linter.unusedVariables false
set_option linter.unusedSimpArgs false
namespace Go.Proofs.YtdednahplodojaaGreatDoor
open Go.RowKit
theorem keys_any (w:World):Calls Tryz.prog 184 #[] w fun e w'=>e=.returned (.agg #[.string ⟨#[97,115,115,101,114,116]⟩,.string ⟨#[98,111,111,108]⟩,.string ⟨#[101,108,115,101]⟩,.string ⟨#[102,97,108,115,101]⟩,.string ⟨#[102,117,110]⟩,.string ⟨#[105,102]⟩,.string ⟨#[105,109,112,111,114,116]⟩,.string ⟨#[105,110]⟩,.string ⟨#[105,110,116]⟩,.string ⟨#[108,101,116]⟩,.string ⟨#[110,111,116]⟩,.string ⟨#[112,117,98]⟩,.string ⟨#[114,101,115]⟩,.string ⟨#[116,104,101,110]⟩,.string ⟨#[116,114,117,101]⟩])∧Below w.heap.size w w':=by
 go_enter Tryz.func184,Tryz.ntmps184
 go_wp2
 refine bodyPost_ret (v:=.agg #[.string ⟨#[97,115,115,101,114,116]⟩,.string ⟨#[98,111,111,108]⟩,.string ⟨#[101,108,115,101]⟩,.string ⟨#[102,97,108,115,101]⟩,.string ⟨#[102,117,110]⟩,.string ⟨#[105,102]⟩,.string ⟨#[105,109,112,111,114,116]⟩,.string ⟨#[105,110]⟩,.string ⟨#[105,110,116]⟩,.string ⟨#[108,101,116]⟩,.string ⟨#[110,111,116]⟩,.string ⟨#[112,117,98]⟩,.string ⟨#[114,101,115]⟩,.string ⟨#[116,104,101,110]⟩,.string ⟨#[116,114,117,101]⟩]) (results_cell_row rfl _ _ w.heap.size 242 _ (0,0) _ rfl (heap_alloc_new _ _) Tryz.underlying242 rfl (by kernel_rfl)) rfl ⟨rfl,(Below.refl _ _).alloc (Nat.le_refl _) _⟩
def keySx (x:ByteArray)(j:Nat):ByteArray:=if j<15 then ⟨(keyL.getD j []).toArray⟩ else x
theorem key_halve:∀ j:Fin 15,Lib.bsGo (fun t=>Op.bytesLess (if t<15 then keyL.getD t [] else keyL.getD j []) (keyL.getD j [])) 15 0 15=j:=by decide
theorem keySx_list (x:ByteArray)(j:Nat):(keySx x j).data.toList=if j<15 then keyL.getD j [] else x.data.toList:=by
 unfold keySx
 split <;> rfl
theorem key_cells (x:ByteArray):∀ j,j<15→(#[.string ⟨#[97,115,115,101,114,116]⟩,.string ⟨#[98,111,111,108]⟩,.string ⟨#[101,108,115,101]⟩,.string ⟨#[102,97,108,115,101]⟩,.string ⟨#[102,117,110]⟩,.string ⟨#[105,102]⟩,.string ⟨#[105,109,112,111,114,116]⟩,.string ⟨#[105,110]⟩,.string ⟨#[105,110,116]⟩,.string ⟨#[108,101,116]⟩,.string ⟨#[110,111,116]⟩,.string ⟨#[112,117,98]⟩,.string ⟨#[114,101,115]⟩,.string ⟨#[116,104,101,110]⟩,.string ⟨#[116,114,117,101]⟩]:Array Value)[0+j]?=some (.string (keySx x j))
 | 0,_=>rfl
 | 1,_=>rfl
 | 2,_=>rfl
 | 3,_=>rfl
 | 4,_=>rfl
 | 5,_=>rfl
 | 6,_=>rfl
 | 7,_=>rfl
 | 8,_=>rfl
 | 9,_=>rfl
 | 10,_=>rfl
 | 11,_=>rfl
 | 12,_=>rfl
 | 13,_=>rfl
 | 14,_=>rfl
 | n+15,h=>absurd h (by omega)
theorem key_mem (j:Nat)(hj:j<15):keyL.getD j []∈keyL:=by
 have hj0:j<keyL.length:=hj
 rw [List.getD_eq_getElem?_getD,List.getElem?_eq_getElem hj0,Option.getD_some]
 exact List.getElem_mem _
theorem key_found (x:ByteArray):decide (Lib.bsGo (fun t=>Op.bytesLess (keySx x t).toList x.toList) 15 0 15<15∧keySx x (Lib.bsGo (fun t=>Op.bytesLess (keySx x t).toList x.toList) 15 0 15)=x)=decide (x.data.toList∈keyL):=by
 simp only [Lib.toList_data,keySx_list]
 by_cases h:x.data.toList∈keyL
 ·obtain ⟨j,hj0,e⟩:=List.mem_iff_getElem.1 h
  have ek:keyL.getD j []=x.data.toList:=by rw [List.getD_eq_getElem?_getD,List.getElem?_eq_getElem hj0,Option.getD_some,e]
  have hj:j<15:=hj0
  have hk:=key_halve ⟨j,hj⟩
  simp only [ek] at hk
  rw [hk,decide_eq_true h,decide_eq_true]
  refine ⟨hj,bytes_ext ?_⟩
  rw [keySx_list,if_pos hj,ek]
 ·rw [decide_eq_false h,decide_eq_false]
  rintro ⟨hb,e⟩
  apply h
  rw [← e,keySx_list,if_pos hb]
  exact key_mem _ hb
def SearchOk (x:ByteArray)(w:World)(e:Ending)(w':World):Prop :=
 (∃ n:Nat,e=.returned (.tuple #[.int .i64 n,.bool (decide (x.data.toList∈keyL))]))∧Below w.heap.size w w'
theorem search_any (b:Nat)(x:ByteArray)(w:World)(hc:∀ j,j<15→w.cell? ⟨b,0+j,none⟩=some (.string (keySx x j))) :
  Calls Tryz.prog 185 #[.slice (some ⟨b,0,none⟩) 15 15,.string x] w (SearchOk x w):=by
 refine (Any2.slices_BinarySearch_string Tryz.lays2x26 b 0 15 15 (keySx x) x w (by decide) hc).mono ?_
 rintro e w' ⟨rfl,q,rfl⟩
 rw [key_found]
 exact ⟨⟨_,rfl⟩,below_drewN (Below.refl _ _) _⟩
theorem word_any (s:ByteArray)(w:World)(hs:s.size≤1099511627776) :
  Calls Tryz.prog 153 #[.string s] w fun e w'=>e=.returned (tokV s (wordF s.data.toList))∧Below w.heap.size w w':=by
 have hr:=run_le insideB s
 have hn:=run_list insideB s
 have hz:=ext_size s _ hr
 have HR:=Lib.hid (run_inside s w hs)
 by_cases h40:40<runL insideB s
 ·have hq:wordF s.data.toList=(0,0,20):=by unfold wordF;exact if_pos h40
  have HQ:=Lib.hid hq
  generalize hy:s.extract 0 (runL insideB s)=y at HR hz
  have hI:(40:Int) < ↑y.size:=by omega
  clear hq hn hz
  go_enter Tryz.func153,Tryz.ntmps153
  go_wp2_with (go_at_call 182;refine HR.out.mono ?_;rintro e w1 ⟨rfl,rfl⟩)
  go_ret3
  refine ⟨ret_tok (t:=wordF s.data.toList) ?_ ?_ ?_,Below.refl _ _⟩ <;> rw [HQ.out]
  ·rfl
  ·exact ext_none s
  ·rfl
 ·have hq:wordF s.data.toList=(if s.data.toList.takeWhile insideB∈keyL then (2,runL insideB s,0) else (1,runL insideB s,0)):=by unfold wordF;exact if_neg h40
  have HQ:=Lib.hid hq
  generalize hy:s.extract 0 (runL insideB s)=y at HR hz hn
  have HY:=Lib.hid hy
  have HN:=Lib.hid hn
  have hI:¬ (40:Int) < ↑y.size:=by omega
  clear hq hn hy hz
  go_enter Tryz.func153,Tryz.ntmps153
  go_wp2_with (first|(go_at_call 182;refine HR.out.mono ?_;rintro e w1 ⟨rfl,rfl⟩)|(go_at_call 184;refine (keys_any _).mono ?_;rintro e w2 ⟨rfl,hb⟩)|(go_at_call 185;refine (search_any _ y _ ?c1).mono ?_))
  case c1 =>
   intro j hj
   rw [Lib.cell_of_heap (heap_alloc_new _ _)]
   exact key_cells y j hj
  rintro e w3 ⟨⟨n,rfl⟩,hb3⟩
  have hbb:=(hb.alloc hb.size _).trans (hb3.mono (by have:=hb.size;simp;omega))
  cases hk:decide (y.data.toList∈keyL) with
  | true =>
   have HK:=Lib.hid hk
   clear hk
   go_wp2
   go_ret3
   refine ⟨ret_tok (t:=wordF s.data.toList) ?_ ?_ ?_,hbb⟩ <;> rw [HQ.out,if_pos (by rw [← HN.out];exact of_decide_eq_true HK.out)]
   ·rfl
   ·exact HY.out.symm
   ·rfl
  | false =>
   have HK:=Lib.hid hk
   clear hk
   go_wp2
   go_ret3
   refine ⟨ret_tok (t:=wordF s.data.toList) ?_ ?_ ?_,hbb⟩ <;> rw [HQ.out,if_neg (by rw [← HN.out];exact of_decide_eq_false HK.out)]
   ·rfl
   ·exact HY.out.symm
   ·rfl
def signV:Array Value:=(signL.map fun x=>Value.string ⟨x.toArray⟩).toArray
theorem signs_any (w:World):Calls Tryz.prog 156 #[] w fun e w'=>e=.returned (.agg signV)∧Below w.heap.size w w':=by
 go_enter Tryz.func156,Tryz.ntmps156
 apply wp_seq_k
 intro K0 hK0
 have HK:=Lib.hid hK0
 clear hK0
 go_wp2
 apply HK.out
 apply wp_seq_k
 intro K1 hK1
 apply wp_region_lit
 refine wpList_buildTo rfl 221 _ rfl (some 1) rfl signV (by kernel_rfl) ?_
 refine wpList_store_rowTo rfl 221 _ _ rfl rfl w.heap.size signV rfl rfl 221 _ (heap_alloc_new _ _) (by kernel_rfl) (by decide) (by kernel_rfl) ?_
 rw [World.setRow_alloc_new]
 apply wpList_nil
 apply hK1
 go_wp2
 refine bodyPost_ret (v:=.agg signV) (results_cell_row rfl _ _ w.heap.size 221 _ (0,0) _ rfl (heap_alloc_new _ _) Tryz.underlying221 rfl (by kernel_rfl)) rfl ⟨rfl,(Below.refl _ _).alloc (Nat.le_refl _) _⟩
theorem head_cons {s:ByteArray}(h:0<s.size):∃ r,s.data.toList=(s[0]'h) :: r:=by
 have hb:=byte_is h
 cases hq:s.data.toList with
 | nil=>rw [hq] at hb;cases hb
 | cons c r =>
  rw [hq] at hb
  injection hb with hb
  rw [← hb]
  exact ⟨r,rfl⟩
def signAt (k:Nat):ByteArray:=⟨(signL.getD k []).toArray⟩
theorem sign_find (T:List UInt8):∀ (l:List (List UInt8)) (k:Nat),k<l.length→(∀ j,j<k→Lib.hasPrefix T (l.getD j [])=false)→Lib.hasPrefix T (l.getD k [])=true→l.find? (fun x=>x.isPrefixOf T)=some (l.getD k [])
 | [],k,hk,_,_=>absurd hk (by simp)
 | x :: l,0,_,_,h=>by
  have h:x.isPrefixOf T=true:=h
  simp [h]
 | x :: l,k+1,hk,hj,h=>by
  have h0:x.isPrefixOf T=false:=hj 0 (by omega)
  have:=sign_find T l k (by simpa using hk) (fun j hjk=>by simpa using hj (j+1) (by omega)) (by simpa using h)
  simp only [List.find?_cons,h0]
  simpa using this
theorem sign_none (T:List UInt8)(l:List (List UInt8))(hj:∀ j,j<l.length→Lib.hasPrefix T (l.getD j [])=false):l.find? (fun x=>x.isPrefixOf T)=none:=by
 rw [List.find?_eq_none]
 intro x hx
 obtain ⟨j,hjl,e⟩:=List.mem_iff_getElem.1 hx
 have:=hj j hjl
 rw [List.getD_eq_getElem?_getD,List.getElem?_eq_getElem hjl,Option.getD_some,e] at this
 intro h
 rw [Lib.hasPrefix] at this
 rw [this] at h
 cases h
theorem sign_index:∀ k:Nat,k<22→∀ w:World,(Instr.index 221 (.agg signV) (.int .i64 k)).run Tryz.prog w=.ok (.string (signAt k)) w
 | 0,_=>fun _=>by kernel_rfl
 | 1,_=>fun _=>by kernel_rfl
 | 2,_=>fun _=>by kernel_rfl
 | 3,_=>fun _=>by kernel_rfl
 | 4,_=>fun _=>by kernel_rfl
 | 5,_=>fun _=>by kernel_rfl
 | 6,_=>fun _=>by kernel_rfl
 | 7,_=>fun _=>by kernel_rfl
 | 8,_=>fun _=>by kernel_rfl
 | 9,_=>fun _=>by kernel_rfl
 | 10,_=>fun _=>by kernel_rfl
 | 11,_=>fun _=>by kernel_rfl
 | 12,_=>fun _=>by kernel_rfl
 | 13,_=>fun _=>by kernel_rfl
 | 14,_=>fun _=>by kernel_rfl
 | 15,_=>fun _=>by kernel_rfl
 | 16,_=>fun _=>by kernel_rfl
 | 17,_=>fun _=>by kernel_rfl
 | 18,_=>fun _=>by kernel_rfl
 | 19,_=>fun _=>by kernel_rfl
 | 20,_=>fun _=>by kernel_rfl
 | 21,_=>fun _=>by kernel_rfl
 | n+22,h=>absurd h (by omega)
theorem signAt_list (k:Nat):(signAt k).data.toList=signL.getD k []:=rfl
theorem sign_len:signL.length=22:=rfl
theorem token_any (s:ByteArray)(w:World)(hs:s.size≤1099511627776) :
  Calls Tryz.prog 105 #[.string s] w fun e w'=>e=.returned (tokV s (tokF s.data.toList))∧Below w.heap.size w w':=by
 by_cases h0:0<s.size
 ·obtain ⟨r,hr⟩:=head_cons h0
  have hI:(0:Int) < ↑s.size:=by omega
  have he:s.toList.isEmpty=false:=by rw [isEmpty_size];exact decide_eq_false (by omega)
  generalize hc:(s[0]'h0)=c at hr
  by_cases hl:letterB c=true
  ·have hl':letterB (s[0]'h0)=true:=by rw [hc];exact hl
   have hq:tokF s.data.toList=wordF s.data.toList:=by rw [hr,tokF,if_pos hl]
   have HQ:=Lib.hid hq
   have HW:=Lib.hid (word_any s)
   clear hq hr hc hl
   go_enter Tryz.func105,Tryz.ntmps105
   go_wp2_with (first|(go_at_call 152;refine (letter_any _ _).mono ?_;rintro e w1 ⟨rfl,rfl⟩)|(go_at_call 153;refine (HW.out _ hs).mono ?_;rintro e w1 ⟨he,hb⟩;rw [tokV] at he;subst he))
   go_ret3
   refine ⟨ret_tok (t:=tokF s.data.toList) ?_ ?_ ?_,hb⟩ <;> rw [HQ.out]
  ·have hl':letterB (s[0]'h0)=false:=by rw [hc];simpa using hl
   by_cases hd:digitB c=true
   ·have hd':digitB (s[0]'h0)=true:=by rw [hc];exact hd
    have hq:tokF s.data.toList=numF s.data.toList:=by rw [hr,tokF,if_neg hl,if_pos hd]
    have HQ:=Lib.hid hq
    have HW:=Lib.hid (number_any s)
    clear hq hr hc hl hd
    go_enter Tryz.func105,Tryz.ntmps105
    go_wp2_with (first|(go_at_call 152;refine (letter_any _ _).mono ?_;rintro e w1 ⟨rfl,rfl⟩)|(go_at_call 154;refine (digit_any _ _).mono ?_;rintro e w1 ⟨rfl,rfl⟩)|(go_at_call 155;refine (HW.out _ hs).mono ?_;rintro e w1 ⟨he,rfl⟩;rw [tokV] at he;subst he))
    go_ret3
    refine ⟨ret_tok (t:=tokF s.data.toList) ?_ ?_ ?_,Below.refl _ _⟩ <;> rw [HQ.out]
   ·have hd':digitB (s[0]'h0)=false:=by rw [hc];simpa using hd
    have hq:tokF s.data.toList=symF s.data.toList:=by rw [hr,tokF,if_neg hl,if_neg hd]
    have HQ:=Lib.hid hq
    clear hq hr hc hl hd
    go_enter Tryz.func105,Tryz.ntmps105
    go_wp2_with (first|(go_at_call 152;refine (letter_any _ _).mono ?_;rintro e w1 ⟨rfl,rfl⟩)|(go_at_call 154;refine (digit_any _ _).mono ?_;rintro e w1 ⟨rfl,rfl⟩)|(go_at_call 156;refine (signs_any _).mono ?_;rintro e w1 ⟨rfl,hb⟩))
    go_loop [6,29] (fun x n=>∃ k:Nat,n=.int .i64 k∧k≤22∧∀ j,j<k→Lib.hasPrefix s.data.toList (signL.getD j [])=false) (fun _ n=>22 - (intOf n).toNat)
    case atStart=>exact ⟨0,rfl,by omega,fun j hj=>absurd hj (by omega)⟩
    case round =>
     obtain ⟨k,rfl,hk,hj⟩:=hrel
     have HJ:=Lib.hid hj
     have HP:=Lib.hid (Tryz.strings_HasPrefix s)
     clear hj
     by_cases hlt:k<22
     ·have hi:(k:Int)<22:=by omega
      have hx:=sign_index k hlt
      cases hb2:Lib.hasPrefix s.data.toList (signAt k).data.toList with
      | true =>
       have hf:=sign_find s.data.toList signL k (by rw [sign_len];exact hlt) HJ.out hb2
       have hq:tokF s.data.toList=(4,(signL.getD k []).length,0):=by rw [HQ.out,symF,signF,hf]
       have HB:=Lib.hid hb2
       have HQ2:=Lib.hid hq
       have hX:signAt k=s.extract 0 (signL.getD k []).length:=by
        refine bytes_ext ?_
        rw [extract_list,List.drop_zero,signAt_list]
        exact (List.prefix_iff_eq_take.1 (List.isPrefixOf_iff_prefix.1 hb2))
       have HX:=Lib.hid hX
       clear hb2 hf hq hX
       go_wp2_with (go_at_call 150;refine (HP.out (signAt k) _).mono ?_;rw [HB.out];rintro e w2 ⟨rfl,rfl⟩)
       go_ret3
       refine ⟨ret_tok (t:=tokF s.data.toList) ?_ ?_ ?_,hb⟩ <;> rw [HQ2.out]
       ·rfl
       ·exact HX.out
       ·rfl
      | false =>
       have HB:=Lib.hid hb2
       clear hb2
       go_wp2_with (go_at_call 150;refine (HP.out (signAt k) _).mono ?_;rw [HB.out];rintro e w2 ⟨rfl,rfl⟩)
       go_round
       case rel =>
        refine ⟨k+1,by go_num,by omega,fun j hj=>?_⟩
        rcases Nat.lt_or_ge j k with h|h
        ·exact HJ.out j h
        ·have:j=k:=by omega
         subst this
         exact HB.out
       case measure=>simp [intOf];omega
     ·have hk2:k=22:=by omega
      subst hk2
      have hq:tokF s.data.toList=(0,0,20):=by rw [HQ.out,symF,signF,sign_none _ _ (fun j hj=>HJ.out j hj)]
      have HQ2:=Lib.hid hq
      clear hq hlt hk
      go_wp2
      go_ret3
      refine ⟨ret_tok (t:=tokF s.data.toList) ?_ ?_ ?_,hb⟩ <;> rw [HQ2.out]
      ·rfl
      ·exact ext_none s
      ·rfl
 ·have hz:s.size=0:=by omega
  have he:s.toList.isEmpty=true:=by rw [isEmpty_size];exact decide_eq_true hz
  have hn:s.data.toList=[]:=List.eq_nil_of_length_eq_zero (by rw [← Lib.size_eq];exact hz)
  have hq:tokF s.data.toList=(5,0,0):=by rw [hn,tokF]
  have HQ:=Lib.hid hq
  clear hq hn hz h0
  go_enter Tryz.func105,Tryz.ntmps105
  go_wp2
  go_ret3
  refine ⟨ret_tok (t:=tokF s.data.toList) ?_ ?_ ?_,Below.refl _ _⟩ <;> rw [HQ.out]
  ·rfl
  ·exact ext_none s
  ·rfl
end Go.Proofs.YtdednahplodojaaGreatDoor

namespace Go.Proofs
theorem Tryz.infoToken:(Tryz.prog.info? 79).map (fun i=>(i.zero,i.size,i.bytes))=some (some (.agg #[.int .i64 0,.string ByteArray.empty,.string ByteArray.empty,.int .i64 0]),4,48):=by kernel_rfl
end Go.Proofs

namespace Go.Proofs.YtdednahplodojaaGreatDoor
open Go.RowKit
def preF (acc:List Tok):Except (Nat × Nat) (List Tok)→Except (Nat × Nat) (List Tok)
 | .error e=>.error e
 | .ok l=>.ok (acc++l)
theorem preF_nil (x:Except (Nat × Nat) (List Tok)):preF [] x=x:=by cases x <;> rfl
theorem preF_preF (a b:List Tok)(x:Except (Nat × Nat) (List Tok)):preF a (preF b x)=preF (a++b) x:=by
 cases x
 ·rfl
 ·simp [preF]
theorem lexF_err (n:Nat)(T:List UInt8)(p k:Nat)(t:Nat × Nat × Nat)(hk:leadF false T=k)(ht:tokF (T.drop k)=t)(he:t.2.2≠0):lexF (n+1) T p=.error (t.2.2,p+k):=by
 subst hk ht
 rw [lexF]
 rw [if_pos he]
theorem lexF_end (n:Nat)(T:List UInt8)(p k:Nat)(t:Nat × Nat × Nat)(hk:leadF false T=k)(ht:tokF (T.drop k)=t)(he:t.2.2=0)(h5:t.1=5):lexF (n+1) T p=.ok [⟨5,T.take k,[],p+k⟩]:=by
 subst hk ht
 rw [lexF]
 rw [if_neg (by omega),if_pos h5]
theorem lexF_step (n:Nat)(T:List UInt8)(p k:Nat)(t:Nat × Nat × Nat)(hk:leadF false T=k)(ht:tokF (T.drop k)=t)(he:t.2.2=0)(h5:t.1≠5) :
  lexF (n+1) T p=preF [⟨t.1,T.take k,(T.drop k).take t.2.1,p+k⟩] (lexF n (T.drop (k+t.2.1)) (p+k+t.2.1)):=by
 subst hk ht
 rw [lexF]
 rw [if_neg (by omega),if_neg h5,List.drop_drop]
 cases lexF n _ _ <;> rfl
theorem cells_four {w:World}{g:Nat}{x y z u:Value}(h0:w.cell? ⟨g,0,none⟩=some x)(h1:w.cell? ⟨g,1,none⟩=some y)(h2:w.cell? ⟨g,2,none⟩=some z)(h3:w.cell? ⟨g,3,none⟩=some u) :
  ∀ j v,[x,y,z,u][j]?=some v→w.cell? ((⟨g,0,none⟩:Addr).add j)=some v:=by
 intro j v hj
 match j,hj with
 | 0,hj=>simp at hj;subst hj;simpa [Addr.add] using h0
 | 1,hj=>simp at hj;subst hj;simpa [Addr.add] using h1
 | 2,hj=>simp at hj;subst hj;simpa [Addr.add] using h2
 | 3,hj=>simp at hj;subst hj;simpa [Addr.add] using h3
theorem own_below {w w':World}{base e sz n:Nat}{v:Value}{xs:List Value}(h:w.ownsRow base e sz v n xs)(hb:Below w.heap.size w w'):w'.ownsRow base e sz v n xs:=by
 refine ⟨h.1,?_⟩
 rcases h.2 with hn|⟨g,cap,cur,hv,hg,hh,hr⟩
 ·exact .inl hn
 ·exact .inr ⟨g,cap,cur,hv,hg,by rw [hb.block g (Array.getElem?_eq_some_iff.1 hh).1];exact hh,hr⟩
theorem tokF_five (T:List UInt8)(h:(tokF T).1=5):(tokF T).2.1=0:=by
 cases T with
 | nil=>rfl
 | cons c r =>
  exfalso
  rw [tokF] at h
  split at h
  ·rw [wordF] at h
   split at h
   ·cases h
   ·split at h <;> cases h
  ·split at h
   ·rw [numF] at h
    split at h <;> cases h
   ·rw [symF] at h
    split at h <;> cases h
theorem tok_cells {kd pk:Nat}{l t:List UInt8}{y z:ByteArray}{a:Int}(hy:y.data.toList=l)(hz:z.data.toList=t)(ha:a=pk) :
  [Value.int .i64 kd,.string y,.string z,.int .i64 a]=tokCells ⟨kd,l,t,pk⟩:=by
 subst hy hz ha
 rfl
def LexOk (S:List UInt8)(w:World)(e:Ending)(w':World):Prop :=
 Below w.heap.size w w'∧match lexAll S with
 | .ok l=>∃ v,e=.returned (.tuple #[v,.agg #[.int .i64 0,.int .i64 0]])∧Rec w'.heap.size w' v 4 tokCells l
 | .error x=>e=.returned (.tuple #[.slice none 0 0,.agg #[.int .i64 x.1,.int .i64 x.2]])
theorem lex_any (s:ByteArray)(w:World)(hs:s.size≤1099511627776):Calls Tryz.prog 69 #[.string s] w (LexOk s.data.toList w):=by
 obtain ⟨i0,hi,hz0,hz1,hz2⟩:=info_parts Tryz.infoToken
 by_cases hbig:65536<s.size
 ·have hI:(65536:Int) < ↑s.size:=by omega
  have hq:lexAll s.data.toList=.error (11,0):=by rw [lexAll,if_pos (by rw [← Lib.size_eq];exact hbig)]
  have HQ:=Lib.hid hq
  clear hq
  go_enter Tryz.func69,Tryz.ntmps69
  go_wp2
  refine bodyPost_ret (v:=.tuple #[.slice none 0 0,.agg #[.int .i64 11,.int .i64 0]]) (by simp [results,Tryz.results69,go_sem]) rfl ?_
  refine ⟨(Below.refl _ _).alloc (Nat.le_refl _) _,?_⟩
  rw [HQ.out]
  rfl
 ·have hI:¬ (65536:Int) < ↑s.size:=by omega
  have hq:lexAll s.data.toList=lexF (s.size+1) s.data.toList 0:=by rw [lexAll,if_neg (by rw [← Lib.size_eq];exact hbig),← Lib.size_eq]
  have HQ:=Lib.hid hq
  clear hq
  go_enter Tryz.func69,Tryz.ntmps69
  go_wp2
  generalize hw1:w.alloc (.cells #[.int .i64 0,.int .i64 0] 44)=w1
  have hb1:Below w.heap.size w w1:=by rw [← hw1];exact (Below.refl _ _).alloc (Nat.le_refl _) _
  have hf1:w1.heap[w.heap.size]?=some (.cells #[.int .i64 0,.int .i64 0] 44 (0,0)):=by rw [← hw1];exact heap_alloc_new _ _
  have hlt1:w.heap.size<w1.heap.size:=by rw [← hw1];simp
  clear hw1
  go_loopw [4,5] (fun out at0 wr=>∃ (p m:Nat) (acc:List Tok),at0=.int .i64 p∧p≤s.size∧s.size<p+m∧lexF (s.size+1) s.data.toList 0=preF acc (lexF m (s.data.toList.drop p) p)∧acc.length≤p ∧
   wr.ownsRow w1.heap.size 79 4 out acc.length (acc.flatMap tokCells)∧Below w1.heap.size w1 wr) (fun _ at0 _=>s.size - (intOf at0).toNat)
  case atStart=>exact ⟨0,s.size+1,[],rfl,Nat.zero_le _,by omega,(preF_nil _).symm,Nat.le_refl _,World.ownsRow_nil _ _ _ _,Below.refl _ _⟩
  case round =>
   obtain ⟨p,m,acc,rfl,hp,hm,hl,hal,hown,hb⟩:=hrel
   have hz:=hb.size
   obtain ⟨m,rfl⟩:∃ m',m=m'+1:=⟨m - 1,by omega⟩
   have hxl:(s.extract p s.size).data.toList=s.data.toList.drop p:=extract_end s p
   have hxz:(s.extract p s.size).size≤1099511627776:=by rw [ByteArray.size_extract];omega
   have hbt:=between_any (s.extract p s.size) wr hxz
   generalize hk:leadF false (s.extract p s.size).data.toList=k at hbt
   have hkl:k≤s.size - p:=by rw [← hk,hxl];have:=leadF_le false (s.data.toList.drop p);rwa [List.length_drop,← Lib.size_eq] at this
   have hys:((s.extract p s.size).extract 0 k).size=k:=by rw [ByteArray.size_extract,ByteArray.size_extract];omega
   have hyl:((s.extract p s.size).extract 0 k).data.toList=(s.data.toList.drop p).take k:=by rw [extract_list,List.drop_zero,hxl]
   generalize hy:(s.extract p s.size).extract 0 k=y at hbt hys hyl
   have hul:(s.extract (p+k) s.size).data.toList=s.data.toList.drop (p+k):=extract_end s _
   have huz:(s.extract (p+k) s.size).size≤1099511627776:=by rw [ByteArray.size_extract];omega
   have htk:=fun w=>token_any (s.extract (p+k) s.size) w huz
   have hpk:(p:Int)+(k:Int)≤↑s.size:=by omega
   generalize ht:tokF (s.extract (p+k) s.size).data.toList=t at htk
   have htl:t.2.1≤s.size - (p+k):=by rw [← ht,hul];have:=tokF_len (s.data.toList.drop (p+k));rwa [List.length_drop,← Lib.size_eq] at this
   obtain ⟨kd,n,er⟩:=t
   simp only at htl
   have hzs:((s.extract (p+k) s.size).extract 0 n).size=n:=by rw [ByteArray.size_extract,ByteArray.size_extract];omega
   have hzl:((s.extract (p+k) s.size).extract 0 n).data.toList=(s.data.toList.drop (p+k)).take n:=by rw [extract_list,List.drop_zero,hul]
   rw [hxl] at hk
   rw [hul,← List.drop_drop] at ht
   have HB:=Lib.hid hbt
   have HT:=Lib.hid htk
   have HYL:=Lib.hid hyl
   have HZL:=Lib.hid hzl
   have HTL:=Lib.hid ht
   have HK:=Lib.hid hk
   have HL:=Lib.hid hl
   have HZS:=Lib.hid hzs
   clear hbt htk hy hyl hul hxl hk hl huz hxz ht hzl hzs
   go_wp2_with (first|(go_at_call 104;refine HB.out.mono ?_;rintro e w2 ⟨rfl,hb2⟩)|(go_at_call 105;refine (HT.out _).mono ?_))
   rintro e w3 ⟨he,hb3⟩
   obtain rfl:e=.returned (.tuple #[.int .i64 kd,.string ((s.extract (p+k) s.size).extract 0 n),.int .i64 er]):=he
   have hzw3:=hb3.size
   have hzw2:=hb2.size
   have hb13:Below w1.heap.size w1 w3:=(hb.trans (hb2.mono hz)).trans (hb3.mono (by omega))
   have hown3:=own_below (own_below hown hb2) hb3
   have hf3:w3.heap[w.heap.size]?=some (.cells #[.int .i64 0,.int .i64 0] 44 (0,0)):=by rw [hb13.block _ hlt1];exact hf1
   have hbw:Below w.heap.size w w3:=hb1.trans (hb13.mono (by omega))
   clear hb2 hb3 hown hb
   by_cases her:er=0
   ·subst her
    generalize hzz:(s.extract (p+k) s.size).extract 0 n=z
    have HZZ:=Lib.hid hzz
    have hzn:z.size=n:=by rw [← hzz];exact HZS.out
    have hzl':z.data.toList=(s.data.toList.drop (p+k)).take n:=by rw [← hzz];exact HZL.out
    have HZL':=Lib.hid hzl'
    clear hzz hzl'
    go_wp2_with (at_builtin;refine wpList_append_own _ rfl _ _ 22 rfl w1.heap.size 79 i0 (.agg #[.int .i64 0,.string ByteArray.empty,.string ByteArray.empty,.int .i64 0]) 4 48 Tryz.underlying22 hi hz0 hz1 hz2 rfl (by decide) _ _ _ rfl (hown3.alloc _) ⟨w3.heap.size,0,none⟩ 1 1 [.int .i64 kd,.string y,.string z,.int .i64 (p+k)] rfl rfl ?c1 ?c2 ?c3 ?c4 ?c5 ?_)
    case c1=>exact cells_four (by go_simp) (by go_simp) (by go_simp) (by go_simp)
    case c2=>intro u hu;simp at hu;rcases hu with rfl|rfl|rfl|rfl <;> rfl
    case c3=>unfold maxLen;omega
    case c4=>omega
    case c5=>simp;omega
    intro v' w4 hown' hgrow _
    have hb4:Below w1.heap.size w1 w4:=(hb13.alloc (by omega) _).grown hgrow (by simp;omega) (fun q hq=>(hown3.lt q hq).1)
    have hf4:=own_block (hown3.alloc _) hgrow ((Lib.alloc_old w3 _ _ (by omega)).trans hf3) (by decide)
    have hcl:=tok_cells (kd:=kd) (pk:=p+k) HYL.out HZL'.out (by rfl:((p:Int)+(k:Int))=((p+k:Nat):Int))
    rw [hcl] at hown'
    have hown4:w4.ownsRow w1.heap.size 79 4 v' (acc++[Tok.mk kd ((s.data.toList.drop p).take k) ((s.data.toList.drop (p+k)).take n) (p+k)]).length ((acc++[Tok.mk kd ((s.data.toList.drop p).take k) ((s.data.toList.drop (p+k)).take n) (p+k)]).flatMap tokCells):=by
     rw [List.flatMap_append,List.length_append]
     exact hown'
    have hzw4:=hb4.size
    have hbw4:Below w.heap.size w w4:=hb1.trans (hb4.mono (by omega))
    clear hgrow hown' hcl hown3 hb13 hbw
    by_cases h5:kd=5
    ·have hk5:((kd:Int) == 5)=true:=by rw [h5];rfl
     have hq:=HL.out
     rw [lexF_end _ _ _ _ _ HK.out HTL.out rfl h5] at hq
     have hn0:n=0:=by have:=tokF_five ((s.data.toList.drop p).drop k) (by rw [HTL.out];exact h5);rw [HTL.out] at this;exact this
     rw [hn0,List.take_zero,h5] at hown4
     have HQ2:=Lib.hid hq
     clear hq h5 hn0
     have f0:w4.cell? ⟨w.heap.size,0,none⟩=some (.int .i64 0):=by rw [Lib.cell_of_heap hf4];rfl
     have f1:w4.cell? ⟨w.heap.size,1,none⟩=some (.int .i64 0):=by rw [Lib.cell_of_heap hf4];rfl
     have z0:∀ j,w4.frozen? ⟨w.heap.size,j,none⟩=false:=by intro j;simp [World.frozen?,hf4]
     go_wp2
     refine bodyPost_ret (v:=.tuple #[v',.agg #[.int .i64 0,.int .i64 0]]) (by simp [results,Tryz.results69,go_sem,f0,f1]) rfl ?_
     refine ⟨(hbw4.setCell (Nat.le_refl _) _).setCell (Nat.le_refl _) _,?_⟩
     rw [HQ.out,HQ2.out]
     exact ⟨_,rfl,Sl.ofOwns (ownsRow_setCell_below (ownsRow_setCell_below hown4 hlt1 _) hlt1 _)⟩
    ·have hk5:((kd:Int) == 5)=false:=by rw [← Bool.not_eq_true,beq_iff_eq];omega
     have hq:=HL.out
     rw [lexF_step _ _ _ _ _ HK.out HTL.out rfl h5,preF_preF,List.drop_drop,List.drop_drop,← Nat.add_assoc p k] at hq
     have hn0:0<n:=by have:=tokF_pos ((s.data.toList.drop p).drop k) (by rw [HTL.out]) (by rw [HTL.out];exact h5);rw [HTL.out] at this;exact this
     have HQ2:=Lib.hid hq
     clear hq
     go_wp2
     go_roundw
     case rel=>exact ⟨p+k+n,m,_,by go_num,by omega,by omega,HQ2.out,by rw [List.length_append];simp;omega,hown4,hb4⟩
     case measure=>simp [intOf];omega
   ·have hne:((er:Int) == 0)=false:=by rw [← Bool.not_eq_true,beq_iff_eq];omega
    have f0:w3.cell? ⟨w.heap.size,0,none⟩=some (.int .i64 0):=by rw [Lib.cell_of_heap hf3];rfl
    have f1:w3.cell? ⟨w.heap.size,1,none⟩=some (.int .i64 0):=by rw [Lib.cell_of_heap hf3];rfl
    have z0:∀ j,w3.frozen? ⟨w.heap.size,j,none⟩=false:=by intro j;simp [World.frozen?,hf3]
    have hq:=HL.out
    rw [lexF_err _ _ _ _ _ HK.out HTL.out her] at hq
    have HQ2:=Lib.hid hq
    clear hq
    go_wp2
    refine bodyPost_ret (v:=.tuple #[.slice none 0 0,.agg #[.int .i64 er,.int .i64 (p+k)]]) (by simp [results,Tryz.results69,go_sem,f0,f1]) rfl ?_
    refine ⟨(hbw.setCell (Nat.le_refl _) _).setCell (Nat.le_refl _) _,?_⟩
    rw [HQ.out,HQ2.out]
    rfl
theorem sizeBuilder:(Tryz.prog.info? 99).map (·.size)=some 2:=by kernel_rfl
class IsBT (T:TypeId):Prop where
 lies:liesAt Tryz.prog Tryz.prog.depth T (2 / Tryz.prog.cellsOf T) 0 99 1=true
 ne:T≠5
instance:IsBT 99:=⟨by kernel_rfl,by decide⟩
instance:IsBT 116:=⟨by kernel_rfl,by decide⟩
theorem Tryz.infoByte:(Tryz.prog.info? 5).map (fun i=>(i.zero,i.size,i.bytes))=some (some (.int .u8 0),1,1):=by kernel_rfl
theorem copyCheck_used (b:Nat)(w:World)(h0:w.cell? ⟨b,0,none⟩=some (.pointer (some ⟨b,0,none⟩))) :
  Calls Tryz.prog 117 #[.pointer (some ⟨b,0,none⟩)] w fun e w'=>e=.returned (.tuple #[])∧w'=w:=by
 obtain ⟨j,hj,_⟩:=Option.map_eq_some_iff.1 sizeBuilder
 go_enter Tryz.func117,Tryz.ntmps117
 go_wp2
 rw [Lib.run_neq_ptr_same w _ Tryz.underlying96 hj]
 go_wp2
 go_end0
 exact ⟨rfl,rfl⟩
theorem copyCheck_fresh {T:TypeId}[hT:IsBT T](b:Nat)(w:World)(h0:w.cell? ⟨b,0,none⟩=some (.pointer none))(hsh:w.shape? b=some (T,2))(hfz:w.frozen? ⟨b,0,none⟩=false) :
  Calls Tryz.prog 117 #[.pointer (some ⟨b,0,none⟩)] w fun e w'=>e=.returned (.tuple #[])∧w'=w.setCell ⟨b,0,none⟩ (.pointer (some ⟨b,0,none⟩)):=by
 obtain ⟨j,hj,hjs⟩:=Option.map_eq_some_iff.1 sizeBuilder
 go_enter Tryz.func117,Tryz.ntmps117
 go_wp2
 rw [Lib.run_to_unsafe w ⟨b,0,none⟩ Tryz.underlying96 Tryz.underlying226 hj (by rw [hjs];decide) hsh (Nat.zero_lt_succ 1)]
 simp only [Result.andThen]
 rw [Oper.upon_value]
 go_wp2
 rw [run_callFunc_extern Tryz.func161 (by kernel_rfl) (by kernel_rfl) (by kernel_rfl) (e:=Extern.AbiNoEscape.same) (by kernel_rfl)]
 rw [Lib.run_noEscape]
 simp only [Result.andThen]
 rw [Oper.upon_value]
 go_wp2
 rw [Lib.run_from_unsafe w ⟨b,0,none⟩ Tryz.underlying226 Tryz.underlying96 hj hsh hT.lies]
 simp only [Result.andThen]
 rw [Oper.upon_value]
 go_wp2
 go_end0
 exact ⟨rfl,rfl⟩
theorem copyCheck_k {T:TypeId}[hT:IsBT T](B b:Nat)(bs:List Value)(w:World)(h:Lib.IsBuilderF T 5 B b bs w) :
  Calls Tryz.prog 117 #[.pointer (some ⟨b,0,none⟩)] w fun e w'=>e=.returned (.tuple #[])∧(Lib.BuilderAtF T 5 B b (.pointer (some ⟨b,0,none⟩)) bs w'∧Below B w w'∧Lib.OthersKept 5 (some b) w w'):=by
 rcases h with h|h
 ·refine (copyCheck_fresh b w h.cell0 h.shape h.frozen0).mono ?_
  rintro e w' ⟨rfl,rfl⟩
  exact ⟨rfl,h.used _,(Below.refl B w).setCell (p:=⟨b,0,none⟩) h.1 _,(Lib.OthersKept.refl _ _ w).setCell ⟨b,0,none⟩ rfl _⟩
 ·refine (copyCheck_used b w h.cell0).mono ?_
  rintro e w' ⟨rfl,rfl⟩
  exact ⟨rfl,h,Below.refl B _,Lib.OthersKept.refl _ _ _⟩
theorem writeString {T:TypeId}[hT:IsBT T](B b:Nat)(bs:List Value)(s:ByteArray)(w:World)(h:Lib.IsBuilderF T 5 B b bs w)(hlen:bs.length+s.size≤140737488355328)(hBw:B≤w.heap.size) :
  Calls Tryz.prog 78 #[.pointer (some ⟨b,0,none⟩),.string s] w fun e w'=>e=.returned (.tuple #[.int .i64 s.size,.nilIface])∧(Lib.IsBuilderF T 5 B b (bs++Lib.strCells s) w'∧Below B w w'∧Lib.OthersKept 5 (some b) w w'):=by
 obtain ⟨i0,hi,hz0,hz1,hz2⟩:=info_parts Tryz.infoByte
 go_enter Tryz.func78,Tryz.ntmps78
 go_wp2_with (go_at_call 117;refine (copyCheck_k B b bs _ h).mono ?_)
 rintro e w1 ⟨rfl,h1,hb1,hk1⟩
 obtain ⟨hB,v,hbk,hown,hne⟩:=h1
 have c0:w1.cell? ⟨b,0,none⟩=some (.pointer (some ⟨b,0,none⟩)):=by rw [Lib.cell_of_heap hbk];rfl
 have c1:w1.cell? ⟨b,1,none⟩=some v:=by rw [Lib.cell_of_heap hbk];rfl
 go_wp2_with (at_builtin;refine Lib.wpList_append_own_stringF _ rfl _ _ 97 9 rfl B 5 i0 Tryz.underlying97 Tryz.underlying9 hi hz0 hz1 hz2 _ _ _ rfl hown s rfl ?c3 ?c4 ?c5 ?_)
 case c3=>unfold maxLen;omega
 case c4=>omega
 case c5=>have:=hb1.size;omega
 intro v' w2 hown' hgrow _
 have hlt:b<w1.heap.size:=by
  rcases Nat.lt_or_ge b w1.heap.size with h'|h'
  ·exact h'
  ·simp [Array.getElem?_eq_none h'] at hbk
 have hb2:w2.heap[b]?=some (.cells #[.pointer (some ⟨b,0,none⟩),v] T (0,0)):=by
  rw [hgrow.block b hlt (fun e=>hne e.symm)]
  exact hbk
 have d0:w2.cell? ⟨b,0,none⟩=some (.pointer (some ⟨b,0,none⟩)):=by rw [Lib.cell_of_heap hb2];rfl
 have d1:w2.cell? ⟨b,1,none⟩=some v:=by rw [Lib.cell_of_heap hb2];rfl
 have f1:w2.frozen? ⟨b,1,none⟩=false:=Lib.frozen_of_heap hb2 1
 obtain ⟨ao,n',cap,rfl⟩:∃ ao n' cap,v'=.slice ao n' cap:=by
  rcases hown'.2 with ⟨hv,_⟩|⟨g,cap,cur,fz,hv,_⟩
  ·exact ⟨_,_,_,hv⟩
  ·exact ⟨_,_,_,hv⟩
 go_wp2
 go_ret2
 refine ⟨rfl,?_,?_,(hk1.grown hgrow (Lib.ownsRowF_kind hown)).setCell ⟨b,1,none⟩ rfl _⟩
 ·exact Or.inr (Lib.BuilderAtF.put (T:=T) (e:=5) hB hb2 (bs':=bs++Lib.strCells s) (by simpa [Lib.strCells_length] using hown') hT.ne)
 ·exact (hb1.grown hgrow (by have:=hb1.size;omega) (fun k hk=>(hown.lt k hk).1)).setCell (p:=⟨b,1,none⟩) hB _
def Bld (B b:Nat)(acc:List UInt8)(w:World)(T:TypeId:=99):Prop:=Lib.IsBuilderF T 5 B b (Lib.byteCells acc) w
theorem Bld.at {T:TypeId}{B b:Nat}{acc:List UInt8}{w:World}(h:Bld B b acc w T):∃ p,Lib.BuilderAtF T 5 B b p (Lib.byteCells acc) w:=by
 rcases h with h|h
 ·exact ⟨_,h⟩
 ·exact ⟨_,h⟩
theorem Bld.le {T:TypeId}{B b:Nat}{acc:List UInt8}{w:World}(h:Bld B b acc w T):B≤b:=by obtain ⟨p,h⟩:=h.at;exact h.1
theorem Bld.lt {T:TypeId}{B b:Nat}{acc:List UInt8}{w:World}(h:Bld B b acc w T):b<w.heap.size:=by obtain ⟨p,h⟩:=h.at;exact h.lt
theorem Bld.alloc {T:TypeId}{B b:Nat}{acc:List UInt8}{w:World}(h:Bld B b acc w T)(o:Obj):Bld B b acc (w.alloc o) T:=by
 rcases h with h|h
 ·exact Or.inl (h.alloc o)
 ·exact Or.inr (h.alloc o)
theorem Bld.drew {T:TypeId}{B b:Nat}{acc:List UInt8}{w:World}(h:Bld B b acc w T):Bld B b acc w.drew T:=by
 rcases h with h|h
 ·exact Or.inl h.drew
 ·exact Or.inr h.drew
theorem Bld.fresh {T:TypeId}(w:World):Bld w.heap.size w.heap.size [] (w.alloc (.cells #[.pointer none,.slice none 0 0] T)) T :=
 Lib.IsBuilderF.of (Lib.fresh_isBuilder T 5 w)
theorem Bld.mono {T:TypeId}{B B' b:Nat}{acc:List UInt8}{w:World}(h:Bld B b acc w T)(hb:B'≤B):Bld B' b acc w T:=by
 have key:∀ p,Lib.BuilderAtF T 5 B b p (Lib.byteCells acc) w→Lib.BuilderAtF T 5 B' b p (Lib.byteCells acc) w:=by
  rintro p ⟨h1,v,h2,⟨h3,h4⟩,h5⟩
  refine ⟨by omega,v,h2,⟨h3,?_⟩,h5⟩
  rcases h4 with h4|⟨g,cap,cur,fz,q1,q2,q3⟩
  ·exact Or.inl h4
  ·exact Or.inr ⟨g,cap,cur,fz,q1,by omega,q3⟩
 rcases h with h|h
 ·exact Or.inl (key _ h)
 ·exact Or.inr (key _ h)
theorem Bld.ne {T:TypeId}{B b k:Nat}{acc:List UInt8}{w:World}(h:Bld B b acc w T){cs:Array Value}{T':TypeId}{fr:Nat × Nat}(hk:w.heap[k]?=some (.cells cs T' fr))(hT:T'≠T):k≠b:=by
 obtain ⟨p,_,v,hb,_⟩:=h.at
 rintro rfl
 rw [hk] at hb
 simp only [Option.some.injEq,Obj.cells.injEq] at hb
 exact hT hb.2.1
theorem Bld.block {T:TypeId}{B b k:Nat}{acc:List UInt8}{w w':World}(h:Bld B b acc w T)(ho:Lib.OthersKept 5 (some b) w w'){cs:Array Value}{T':TypeId}{fr:Nat × Nat}(hk:w.heap[k]?=some (.cells cs T' fr))
  (hT:T'≠T) (he:T'≠5):w'.heap[k]?=some (.cells cs T' fr) :=
 ho k _ hk (fun e=>h.ne hk hT (Option.some.inj e)) (fun c fz e=>he (by injection e))
theorem Bld.row {T:TypeId}{B b base e sz n:Nat}{v:Value}{xs:List Value}{acc:List UInt8}{w w':World}(h:Bld B b acc w T)(ho:Lib.OthersKept 5 (some b) w w')(hr:w.ownsRow base e sz v n xs)
  (hT:e≠T) (he:e≠5):w'.ownsRow base e sz v n xs:=by
 obtain ⟨h1,h2⟩:=hr
 refine ⟨h1,?_⟩
 rcases h2 with h2|⟨g,cap,cur,q1,q2,q3,q4⟩
 ·exact Or.inl h2
 ·exact Or.inr ⟨g,cap,cur,q1,q2,h.block ho q3 hT he,q4⟩
theorem Bld.grown {T:TypeId}{B b base e sz n:Nat}{v:Value}{xs:List Value}{acc:List UInt8}{w w':World}(h:Bld B b acc w T)(hr:w.ownsRow base e sz v n xs)(hg:w.grownBy w' v.ownBlock)
  (hT:e≠T) (he:e≠5):Bld B b acc w' T:=by
 have hrow:∀ k,v.ownBlock=some k→∃ cs,w.heap[k]?=some (.cells cs e (0,0)):=by
  intro k hk
  rcases hr.2 with ⟨rfl,_⟩|⟨g,cap,cur,rfl,_,hgg,_⟩
  ·simp [Value.ownBlock] at hk
  ·simp [Value.ownBlock] at hk;subst hk;exact ⟨_,hgg⟩
 have key:∀ p,Lib.BuilderAtF T 5 B b p (Lib.byteCells acc) w→Lib.BuilderAtF T 5 B b p (Lib.byteCells acc) w':=by
  rintro p ⟨h1,u,h2,h3,h5⟩
  have hlt:b<w.heap.size:=h.lt
  refine ⟨h1,u,?_,h3.kept hg ?_,h5⟩
  ·rw [hg.block b hlt (fun q=>?_)]
   ·exact h2
   ·obtain ⟨cs,hcs⟩:=hrow b q.symm
    exact h.ne hcs hT rfl
  ·rcases h3.2 with ⟨rfl,_⟩|⟨g,cap,cur,fz,rfl,_,hgg,_⟩
   ·exact Or.inl rfl
   ·refine Or.inr (fun q=>?_)
    obtain ⟨cs,hcs⟩:=hrow g (by rw [← q];rfl)
    rw [hcs] at hgg
    simp only [Option.some.injEq,Obj.cells.injEq] at hgg
    exact he hgg.2.1
 rcases h with h|h
 ·exact Or.inl (key _ h)
 ·exact Or.inr (key _ h)
theorem write_any {T:TypeId}[IsBT T](B b:Nat)(acc:List UInt8)(s:ByteArray)(w:World)(h:Bld B b acc w T)(hlen:acc.length+s.size≤140737488355328)(hBw:B≤w.heap.size) :
  Calls Tryz.prog 78 #[.pointer (some ⟨b,0,none⟩),.string s] w fun e w'=>e=.returned (.tuple #[.int .i64 s.size,.nilIface])∧Bld B b (acc++s.data.toList) w' T∧Below B w w'∧Lib.OthersKept 5 (some b) w w':=by
 have:=writeString B b (Lib.byteCells acc) s w h (by rw [Lib.byteCells_length];exact hlen) hBw
 rw [Lib.strCells_eq,← Lib.byteCells_append] at this
 exact this
theorem bstring_any (B b:Nat)(acc:List UInt8)(w:World)(h:Bld B b acc w)(hBw:B≤w.heap.size) :
  Calls Tryz.prog 40 #[.pointer (some ⟨b,0,none⟩)] w fun e w'=>e=.returned (.string ⟨acc.toArray⟩)∧Bld B b acc w'∧Below B w w'∧Lib.OthersKept 5 (some b) w w' :=
 Tryz.Builder_String_any_k B b acc w h hBw
def wholeF:List Tok→List UInt8
 | []=>[]
 | t :: l=>t.lead++t.text++wholeF l
theorem wholeF_len:∀ (l:List Tok),(wholeF l).length=tokAt l l.length
 | []=>rfl
 | t :: l=>by rw [wholeF,List.length_append,List.length_append,wholeF_len l,List.length_cons,tokAt_cons,tokLen]
theorem wholeF_snoc:∀ (l:List Tok) (t:Tok),wholeF (l++[t])=wholeF l++(t.lead++t.text)
 | [],t=>by simp [wholeF]
 | x :: l,t=>by simp only [List.cons_append,wholeF,wholeF_snoc l t,List.append_assoc]
theorem Laid.whole_take {T:List UInt8}{p:Nat}{l:List Tok}(h:Laid T p l):∀ k,k≤l.length→wholeF (l.take k)=T.take (tokAt l k)
 | 0,_=>by simp [wholeF,tokAt_zero]
 | k+1,hk=>by
  have hl:k<l.length:=hk
  have hle:=h.inside (k+1) hk
  rw [tokAt_succ l k hl,tokLen] at hle
  rw [List.take_succ_eq_append_getElem hl,wholeF_snoc,h.whole_take k (by omega),tokAt_succ l k hl,tokLen]
  have h1:=h.lead k hl
  have h2:=h.text k hl
  generalize tokAt l k=a at h1 h2 hle ⊢
  rw [← Nat.add_assoc,List.take_add (i:=a+l[k].lead.length),List.take_add (i:=a),h1,h2,List.append_assoc]
theorem Laid.whole_eq {T:List UInt8}{p:Nat}{l:List Tok}(h:Laid T p l):wholeF l=T:=by
 have:=h.whole_take l.length (Nat.le_refl _)
 rw [List.take_length,h.whole,List.take_length] at this
 exact this
theorem wholeF_take_len:∀ (l:List Tok) (k:Nat),k≤l.length→(wholeF (l.take k)).length=tokAt l k
 | l,0,_=>by simp [wholeF,tokAt_zero]
 | [],k+1,h=>absurd h (by simp)
 | t :: l,k+1,h=>by
  rw [List.take_succ_cons,wholeF,List.length_append,List.length_append,wholeF_take_len l k (by simpa using h),tokAt_cons,tokLen]
theorem tokAt_mono (l:List Tok):∀ (i j:Nat),i≤j→j≤l.length→tokAt l i≤tokAt l j:=by
 intro i j h hj
 induction j with
 | zero=>exact Nat.le_of_eq (by rw [Nat.le_zero.1 h])
 | succ j ih =>
  rcases Nat.lt_or_ge i (j+1) with h'|h'
  ·have:=ih (by omega) (by omega)
   rw [tokAt_succ l j (by omega)]
   omega
  ·obtain rfl:i=j+1:=by omega
   exact Nat.le_refl _
theorem bytes_of (y:List UInt8):∃ Y:ByteArray,Y.data.toList=y∧ByteArray.mk y.toArray=Y:=⟨⟨y.toArray⟩,rfl,rfl⟩
theorem whole_any (v:Value)(l:List Tok)(w:World)(hl:l.length≤1099511627776)(hn:tokAt l l.length≤1099511627776)(hv:Rec w.heap.size w v 4 tokCells l) :
  Calls Tryz.prog 37 #[v] w fun e w'=>e=.returned (.string ⟨(wholeF l).toArray⟩)∧Below w.heap.size w w':=by
 obtain ⟨ao,cap,rfl,hcap,hf⟩:=hv.form (fun _=>rfl)
 clear hv
 go_enter Tryz.func37,Tryz.ntmps37
 go_wp2
 go_loopw [8] (fun i wr=>∃ k:Nat,k≤l.length∧i=.int .i64 k∧Bld w.heap.size w.heap.size (wholeF (l.take k)) wr∧Below w.heap.size w wr) (fun i _=>l.length - (intOf i).toNat)
 case atStart=>exact ⟨0,Nat.zero_le _,rfl,Bld.fresh w,(Below.refl _ _).alloc (Nat.le_refl _) _⟩
 case round =>
  obtain ⟨k,hk,rfl,hbd,hbl⟩:=hrel
  have hz:=hbl.size
  by_cases hlt:k<l.length
  ·obtain ⟨b,off,rfl,hb,hcell⟩:=hf (by omega)
   have hx0:=(hbl.cell (p:=⟨b,off+k * 4,none⟩) hb).trans (hcell k 0 _ hlt rfl)
   have hx1:=(hbl.cell (p:=⟨b,off+k * 4+1,none⟩) hb).trans (hcell k 1 _ hlt rfl)
   have hx2:=(hbl.cell (p:=⟨b,off+k * 4+2,none⟩) hb).trans (hcell k 2 _ hlt rfl)
   have hx3:=(hbl.cell (p:=⟨b,off+k * 4+3,none⟩) hb).trans (hcell k 3 _ hlt rfl)
   have hmo:=tokAt_mono l (k+1) l.length hlt (Nat.le_refl _)
   rw [tokAt_succ l k hlt,tokLen,← wholeF_take_len l k hk] at hmo
   have hsn:wholeF (l.take (k+1))=wholeF (l.take k)++(l[k].lead++l[k].text):=by rw [List.take_succ_eq_append_getElem hlt,wholeF_snoc]
   generalize l[k]=t at hx0 hx1 hx2 hx3 hmo hsn
   obtain ⟨c,x,y,q⟩:=t
   simp only at hx0 hx1 hx2 hx3 hmo hsn
   obtain ⟨X,rfl,eX⟩:=bytes_of x
   obtain ⟨Y,rfl,eY⟩:=bytes_of y
   rw [eX] at hx1
   rw [eY] at hx2
   simp only [size_list] at hmo
   generalize wholeF (l.take k)=acc at hbd hmo hsn
   have HS:=Lib.hid hsn
   have hbd1:=hbd.alloc (.cells #[.int .i64 c,.string X,.string Y,.int .i64 q] 79)
   have hbl1:=hbl.alloc hz (.cells #[.int .i64 c,.string X,.string Y,.int .i64 q] 79)
   clear hcell hf hsn eX eY
   go_wp2_with (go_at_call 78;refine (write_any w.heap.size w.heap.size acc (X++Y) _ hbd1 ?c1 ?c2).mono ?_)
   case c1=>simp only [ByteArray.size_append];omega
   case c2=>simp;omega
   rintro e w2 ⟨rfl,hbd2,hb2,ho2⟩
   rw [append_list,← HS.out] at hbd2
   clear ho2
   go_wp2
   go_roundw
   case rel=>exact ⟨k+1,by omega,by go_num,hbd2,hbl1.trans hb2⟩
   case measure=>simp [intOf];omega
  ·have hkl:k=l.length:=by omega
   subst hkl
   rw [List.take_length] at hbd
   clear hf
   go_wp2_with (go_at_call 40;refine (bstring_any w.heap.size w.heap.size _ _ hbd hz).mono ?_;rintro e w4 ⟨rfl,hbd4,hb4,ho4⟩)
   go_ret
   exact ⟨rfl,hbl.trans hb4⟩
end Go.Proofs.YtdednahplodojaaGreatDoor

namespace Go.Proofs.YtdednahplodojaaGreatDoor
open Go.RowKit
open Go.RowKit
open Go.RowKit
open Go.RowKit
open Go.RowKit
open Go.RowKit
end Go.Proofs.YtdednahplodojaaGreatDoor
