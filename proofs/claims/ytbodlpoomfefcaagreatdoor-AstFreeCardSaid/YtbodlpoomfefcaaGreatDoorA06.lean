/- Walks and plain laws: LexW3, LexW4, LexSigns, LexW5, LexInfo, LexW6. -/
import Derived.Test.YtbodlpoomfefcaaGreatDoorA05
import Derived.Great.BuildSlice
import Derived.Deep.WholeRow
import Derived.KernelRfl
set_option maxHeartbeats 16000000
set_option maxRecDepth 100000
set_option linter.unusedVariables false
set_option linter.unusedSimpArgs false
namespace Go.Proofs.YtbodlpoomfefcaaGreatDoor
open Go.RowKit
def tokV (s:ByteArray)(t:Nat × Nat × Nat):Value:=.tuple #[.int .i64 t.1,.string (s.extract 0 t.2.1),.int .i64 t.2.2]
theorem ret_tok {s:ByteArray}{t:Nat × Nat × Nat}{a b:Int}{x:ByteArray}(h1:a=t.1)(h2:x=s.extract 0 t.2.1)(h3:b=t.2.2):Ending.returned (.tuple #[.int .i64 a,.string x,.int .i64 b])=.returned (tokV s t):=by
 rw [h1,h2,h3];rfl
theorem ext_none (s:ByteArray):(⟨#[]⟩:ByteArray)=s.extract 0 0:=bytes_ext (by rw [extract_list];rfl)
theorem ext_size (s:ByteArray)(k:Nat)(h:k≤s.size):(s.extract 0 k).size=k:=by rw [ByteArray.size_extract];omega
theorem take_takeWhile (p:UInt8→Bool)(T:List UInt8):T.take (T.takeWhile p).length=T.takeWhile p:=by
 obtain ⟨r,hr⟩:=List.takeWhile_prefix (p:=p) (l:=T)
 conv=>lhs;arg 2;rw [← hr]
 simp
theorem run_le (p:UInt8→Bool)(s:ByteArray):runL p s≤s.size:=by rw [Lib.size_eq];exact takeWhile_le p _
theorem run_list (p:UInt8→Bool)(s:ByteArray):(s.extract 0 (runL p s)).data.toList=s.data.toList.takeWhile p:=by
 rw [extract_list,List.drop_zero,runL,take_takeWhile]
theorem number_any (s:ByteArray)(w:World)(hs:s.size≤1099511627776) :
  Calls Tryz.prog 211 #[.string s] w fun e w'=>e=.returned (tokV s (numF s.data.toList))∧w'=w:=by
 have hr:=run_le digitB s
 have hn:=run_list digitB s
 have hz:=ext_size s _ hr
 have HR:=Lib.hid (run_digit s w hs)
 by_cases h60:60<runL digitB s
 ·have hq:numF s.data.toList=(0,0,21):=by rw [numF,if_pos (.inl h60)]
  have HQ:=Lib.hid hq
  generalize hy:s.extract 0 (runL digitB s)=y at HR hz
  have hI:(60:Int) < ↑y.size:=by omega
  have hD:decide ((60:Int) < ↑y.size)=true:=decide_eq_true hI
  clear hq hn hz
  go_enter Tryz.func211,Tryz.ntmps211
  go_wp2_with (go_at_call 260;refine HR.out.mono ?_;rintro e w1 ⟨rfl,rfl⟩)
  go_ret3
  refine ⟨ret_tok (t:=numF s.data.toList) ?_ ?_ ?_,rfl⟩ <;> rw [HQ.out]
  ·rfl
  ·exact ext_none s
  ·rfl
 ·by_cases h1:1<runL digitB s
  ·have h0:0<(s.extract 0 (runL digitB s)).size:=by omega
   generalize hy:s.extract 0 (runL digitB s)=y at HR hz hn h0
   have hb:=byte_is h0
   rw [hn] at hb
   have hI:¬ (60:Int) < ↑y.size:=by omega
   have hD:decide ((60:Int) < ↑y.size)=false:=decide_eq_false hI
   have hI1:(1:Int) < ↑y.size:=by omega
   have hD1:decide ((1:Int) < ↑y.size)=true:=decide_eq_true hI1
   by_cases hc:(y[0]'h0)=48
   ·have hq:numF s.data.toList=(0,0,21):=by rw [numF,if_pos (.inr ⟨h1,by rw [hb,hc]⟩)]
    have hE:(((y[0]'h0).toNat:Int) == 48)=true:=by rw [hc];rfl
    have HQ:=Lib.hid hq
    clear hq hn hb hc hz
    go_enter Tryz.func211,Tryz.ntmps211
    go_wp2_with (go_at_call 260;refine HR.out.mono ?_;rintro e w1 ⟨rfl,rfl⟩)
    go_ret3
    refine ⟨ret_tok (t:=numF s.data.toList) ?_ ?_ ?_,rfl⟩ <;> rw [HQ.out]
    ·rfl
    ·exact ext_none s
    ·rfl
   ·have hq:numF s.data.toList=(3,runL digitB s,0):=by
     rw [numF,if_neg]
     ·rfl
     ·rintro (h|⟨_,h⟩)
      ·exact h60 h
      ·rw [hb] at h;injection h with h;exact hc h
    have hE:(((y[0]'h0).toNat:Int) == 48)=false:=by
     rw [← Bool.not_eq_true,beq_iff_eq]
     intro h
     exact hc (UInt8.toNat_inj.1 (by show _=48;omega))
    have HQ:=Lib.hid hq
    have HY:=Lib.hid hy
    clear hq hn hb hc hy hz
    go_enter Tryz.func211,Tryz.ntmps211
    go_wp2_with (go_at_call 260;refine HR.out.mono ?_;rintro e w1 ⟨rfl,rfl⟩)
    go_ret3
    refine ⟨ret_tok (t:=numF s.data.toList) ?_ ?_ ?_,rfl⟩ <;> rw [HQ.out]
    ·rfl
    ·exact HY.out.symm
    ·rfl
  ·have hq:numF s.data.toList=(3,runL digitB s,0):=by
    rw [numF,if_neg]
    ·rfl
    ·rintro (h|⟨h,_⟩)
     ·exact h60 h
     ·exact h1 h
   generalize hy:s.extract 0 (runL digitB s)=y at HR hz
   have hI:¬ (60:Int) < ↑y.size:=by omega
   have hD:decide ((60:Int) < ↑y.size)=false:=decide_eq_false hI
   have hI1:¬ (1:Int) < ↑y.size:=by omega
   have hD1:decide ((1:Int) < ↑y.size)=false:=decide_eq_false hI1
   have HQ:=Lib.hid hq
   have HY:=Lib.hid hy
   clear hq hn hy hz
   go_enter Tryz.func211,Tryz.ntmps211
   go_wp2_with (go_at_call 260;refine HR.out.mono ?_;rintro e w1 ⟨rfl,rfl⟩)
   go_ret3
   refine ⟨ret_tok (t:=numF s.data.toList) ?_ ?_ ?_,rfl⟩ <;> rw [HQ.out]
   ·rfl
   ·exact HY.out.symm
   ·rfl
theorem keys_any (w:World):Calls Tryz.prog 262 #[] w fun e w'=>e=.returned (.agg #[.string ⟨#[97,115,115,101,114,116]⟩,.string ⟨#[98,111,111,108]⟩,.string ⟨#[101,108,115,101]⟩,.string ⟨#[102,97,108,115,101]⟩,.string ⟨#[102,117,110]⟩,.string ⟨#[105,102]⟩,.string ⟨#[105,109,112,111,114,116]⟩,.string ⟨#[105,110]⟩,.string ⟨#[105,110,116]⟩,.string ⟨#[108,101,116]⟩,.string ⟨#[110,111,116]⟩,.string ⟨#[112,117,98]⟩,.string ⟨#[114,101,115]⟩,.string ⟨#[116,104,101,110]⟩,.string ⟨#[116,114,117,101]⟩])∧Below w.heap.size w w':=by
 go_enter Tryz.func262,Tryz.ntmps262
 go_wp2
 refine bodyPost_ret (v:=.agg #[.string ⟨#[97,115,115,101,114,116]⟩,.string ⟨#[98,111,111,108]⟩,.string ⟨#[101,108,115,101]⟩,.string ⟨#[102,97,108,115,101]⟩,.string ⟨#[102,117,110]⟩,.string ⟨#[105,102]⟩,.string ⟨#[105,109,112,111,114,116]⟩,.string ⟨#[105,110]⟩,.string ⟨#[105,110,116]⟩,.string ⟨#[108,101,116]⟩,.string ⟨#[110,111,116]⟩,.string ⟨#[112,117,98]⟩,.string ⟨#[114,101,115]⟩,.string ⟨#[116,104,101,110]⟩,.string ⟨#[116,114,117,101]⟩]) (results_cell_row rfl _ _ w.heap.size 311 _ (0,0) _ rfl (heap_alloc_new _ _) Tryz.underlying311 rfl (by kernel_rfl)) rfl ⟨rfl,(Below.refl _ _).alloc (Nat.le_refl _) _⟩
def keySx (x:ByteArray)(j:Nat):ByteArray:=if j<15 then ⟨(keyL.getD j []).toArray⟩ else x
theorem key_halve:∀ j:Fin 15,Lib.bsGo (fun t=>Op.bytesLess (if t<15 then keyL.getD t [] else keyL.getD j []) (keyL.getD j [])) 15 0 15=j:=by decide
theorem keySx_list (x:ByteArray)(j:Nat):(keySx x j).data.toList=if j<15 then keyL.getD j [] else x.data.toList:=by
 unfold keySx
 split <;> rfl
theorem key_cells (x:ByteArray):∀ j,j<15→(#[.string ⟨#[97,115,115,101,114,116]⟩,.string ⟨#[98,111,111,108]⟩,.string ⟨#[101,108,115,101]⟩,.string ⟨#[102,97,108,115,101]⟩,.string ⟨#[102,117,110]⟩,.string ⟨#[105,102]⟩,.string ⟨#[105,109,112,111,114,116]⟩,.string ⟨#[105,110]⟩,.string ⟨#[105,110,116]⟩,.string ⟨#[108,101,116]⟩,.string ⟨#[110,111,116]⟩,.string ⟨#[112,117,98]⟩,.string ⟨#[114,101,115]⟩,.string ⟨#[116,104,101,110]⟩,.string ⟨#[116,114,117,101]⟩]:Array Value)[0+j]?=some (.string (keySx x j))
 | 0,_=>rfl
 | 1,_=>rfl
 | 2,_=>rfl
 | 3,_=>rfl
 | 4,_=>rfl
 | 5,_=>rfl
 | 6,_=>rfl
 | 7,_=>rfl
 | 8,_=>rfl
 | 9,_=>rfl
 | 10,_=>rfl
 | 11,_=>rfl
 | 12,_=>rfl
 | 13,_=>rfl
 | 14,_=>rfl
 | n+15,h=>absurd h (by omega)
theorem key_mem (j:Nat)(hj:j<15):keyL.getD j []∈keyL:=by
 have hj0:j<keyL.length:=hj
 rw [List.getD_eq_getElem?_getD,List.getElem?_eq_getElem hj0,Option.getD_some]
 exact List.getElem_mem _
theorem key_found (x:ByteArray):decide (Lib.bsGo (fun t=>Op.bytesLess (keySx x t).toList x.toList) 15 0 15<15∧keySx x (Lib.bsGo (fun t=>Op.bytesLess (keySx x t).toList x.toList) 15 0 15)=x)=decide (x.data.toList∈keyL):=by
 simp only [Lib.toList_data,keySx_list]
 by_cases h:x.data.toList∈keyL
 ·obtain ⟨j,hj0,e⟩:=List.mem_iff_getElem.1 h
  have ek:keyL.getD j []=x.data.toList:=by rw [List.getD_eq_getElem?_getD,List.getElem?_eq_getElem hj0,Option.getD_some,e]
  have hj:j<15:=hj0
  have hk:=key_halve ⟨j,hj⟩
  simp only [ek] at hk
  rw [hk,decide_eq_true h,decide_eq_true]
  refine ⟨hj,bytes_ext ?_⟩
  rw [keySx_list,if_pos hj,ek]
 ·rw [decide_eq_false h,decide_eq_false]
  rintro ⟨hb,e⟩
  apply h
  rw [← e,keySx_list,if_pos hb]
  exact key_mem _ hb
def SearchOk (x:ByteArray)(w:World)(e:Ending)(w':World):Prop :=
 (∃ n:Nat,e=.returned (.tuple #[.int .i64 n,.bool (decide (x.data.toList∈keyL))]))∧Below w.heap.size w w'
theorem search_any (b:Nat)(x:ByteArray)(w:World)(hc:∀ j,j<15→w.cell? ⟨b,0+j,none⟩=some (.string (keySx x j))) :
  Calls Tryz.prog 178 #[.slice (some ⟨b,0,none⟩) 15 15,.string x] w (SearchOk x w):=by
 refine (Any2.slices_BinarySearch_string Tryz.lays2x26 b 0 15 15 (keySx x) x w (by decide) hc).mono ?_
 rintro e w' ⟨rfl,q,rfl⟩
 rw [key_found]
 exact ⟨⟨_,rfl⟩,below_drewN (Below.refl _ _) _⟩
theorem word_any (s:ByteArray)(w:World)(hs:s.size≤1099511627776) :
  Calls Tryz.prog 209 #[.string s] w fun e w'=>e=.returned (tokV s (wordF s.data.toList))∧Below w.heap.size w w':=by
 have hr:=run_le insideB s
 have hn:=run_list insideB s
 have hz:=ext_size s _ hr
 have HR:=Lib.hid (run_inside s w hs)
 by_cases h40:40<runL insideB s
 ·have hq:wordF s.data.toList=(0,0,20):=by unfold wordF;exact if_pos h40
  have HQ:=Lib.hid hq
  generalize hy:s.extract 0 (runL insideB s)=y at HR hz
  have hI:(40:Int) < ↑y.size:=by omega
  clear hq hn hz
  go_enter Tryz.func209,Tryz.ntmps209
  go_wp2_with (go_at_call 260;refine HR.out.mono ?_;rintro e w1 ⟨rfl,rfl⟩)
  go_ret3
  refine ⟨ret_tok (t:=wordF s.data.toList) ?_ ?_ ?_,Below.refl _ _⟩ <;> rw [HQ.out]
  ·rfl
  ·exact ext_none s
  ·rfl
 ·have hq:wordF s.data.toList=(if s.data.toList.takeWhile insideB∈keyL then (2,runL insideB s,0) else (1,runL insideB s,0)):=by unfold wordF;exact if_neg h40
  have HQ:=Lib.hid hq
  generalize hy:s.extract 0 (runL insideB s)=y at HR hz hn
  have HY:=Lib.hid hy
  have HN:=Lib.hid hn
  have hI:¬ (40:Int) < ↑y.size:=by omega
  clear hq hn hy hz
  go_enter Tryz.func209,Tryz.ntmps209
  go_wp2_with (first|(go_at_call 260;refine HR.out.mono ?_;rintro e w1 ⟨rfl,rfl⟩)|(go_at_call 262;refine (keys_any _).mono ?_;rintro e w2 ⟨rfl,hb⟩)|(go_at_call 178;refine (search_any _ y _ ?c1).mono ?_))
  case c1 =>
   intro j hj
   rw [Lib.cell_of_heap (heap_alloc_new _ _)]
   exact key_cells y j hj
  rintro e w3 ⟨⟨n,rfl⟩,hb3⟩
  have hbb:=(hb.alloc hb.size _).trans (hb3.mono (by have:=hb.size;simp;omega))
  cases hk:decide (y.data.toList∈keyL) with
  | true =>
   have HK:=Lib.hid hk
   clear hk
   go_wp2
   go_ret3
   refine ⟨ret_tok (t:=wordF s.data.toList) ?_ ?_ ?_,hbb⟩ <;> rw [HQ.out,if_pos (by rw [← HN.out];exact of_decide_eq_true HK.out)]
   ·rfl
   ·exact HY.out.symm
   ·rfl
  | false =>
   have HK:=Lib.hid hk
   clear hk
   go_wp2
   go_ret3
   refine ⟨ret_tok (t:=wordF s.data.toList) ?_ ?_ ?_,hbb⟩ <;> rw [HQ.out,if_neg (by rw [← HN.out];exact of_decide_eq_false HK.out)]
   ·rfl
   ·exact HY.out.symm
   ·rfl
def signV:Array Value:=(signL.map fun x=>Value.string ⟨x.toArray⟩).toArray
theorem signs_any (w:World):Calls Tryz.prog 212 #[] w fun e w'=>e=.returned (.agg signV)∧Below w.heap.size w w':=by
 go_enter Tryz.func212,Tryz.ntmps212
 apply wp_seq_k
 intro K0 hK0
 have HK:=Lib.hid hK0
 clear hK0
 go_wp2
 apply HK.out
 apply wp_seq_k
 intro K1 hK1
 apply wp_region_lit
 refine wpList_buildTo rfl 278 _ rfl (some 1) rfl signV (by kernel_rfl) ?_
 refine wpList_store_rowTo rfl 278 _ _ rfl rfl w.heap.size signV rfl rfl 278 _ (heap_alloc_new _ _) (by kernel_rfl) (by decide) (by kernel_rfl) ?_
 rw [World.setRow_alloc_new]
 apply wpList_nil
 apply hK1
 go_wp2
 refine bodyPost_ret (v:=.agg signV) (results_cell_row rfl _ _ w.heap.size 278 _ (0,0) _ rfl (heap_alloc_new _ _) Tryz.underlying278 rfl (by kernel_rfl)) rfl ⟨rfl,(Below.refl _ _).alloc (Nat.le_refl _) _⟩
theorem head_cons {s:ByteArray}(h:0<s.size):∃ r,s.data.toList=(s[0]'h) :: r:=by
 have hb:=byte_is h
 cases hq:s.data.toList with
 | nil=>rw [hq] at hb;cases hb
 | cons c r =>
  rw [hq] at hb
  injection hb with hb
  rw [← hb]
  exact ⟨r,rfl⟩
def signAt (k:Nat):ByteArray:=⟨(signL.getD k []).toArray⟩
theorem sign_find (T:List UInt8):∀ (l:List (List UInt8)) (k:Nat),k<l.length→(∀ j,j<k→Lib.hasPrefix T (l.getD j [])=false)→Lib.hasPrefix T (l.getD k [])=true→l.find? (fun x=>x.isPrefixOf T)=some (l.getD k [])
 | [],k,hk,_,_=>absurd hk (by simp)
 | x :: l,0,_,_,h=>by
  have h:x.isPrefixOf T=true:=h
  simp [h]
 | x :: l,k+1,hk,hj,h=>by
  have h0:x.isPrefixOf T=false:=hj 0 (by omega)
  have:=sign_find T l k (by simpa using hk) (fun j hjk=>by simpa using hj (j+1) (by omega)) (by simpa using h)
  simp only [List.find?_cons,h0]
  simpa using this
theorem sign_none (T:List UInt8)(l:List (List UInt8))(hj:∀ j,j<l.length→Lib.hasPrefix T (l.getD j [])=false):l.find? (fun x=>x.isPrefixOf T)=none:=by
 rw [List.find?_eq_none]
 intro x hx
 obtain ⟨j,hjl,e⟩:=List.mem_iff_getElem.1 hx
 have:=hj j hjl
 rw [List.getD_eq_getElem?_getD,List.getElem?_eq_getElem hjl,Option.getD_some,e] at this
 intro h
 rw [Lib.hasPrefix] at this
 rw [this] at h
 cases h
theorem sign_index:∀ k:Nat,k<22→∀ w:World,(Instr.index 278 (.agg signV) (.int .i64 k)).run Tryz.prog w=.ok (.string (signAt k)) w
 | 0,_=>fun _=>by kernel_rfl
 | 1,_=>fun _=>by kernel_rfl
 | 2,_=>fun _=>by kernel_rfl
 | 3,_=>fun _=>by kernel_rfl
 | 4,_=>fun _=>by kernel_rfl
 | 5,_=>fun _=>by kernel_rfl
 | 6,_=>fun _=>by kernel_rfl
 | 7,_=>fun _=>by kernel_rfl
 | 8,_=>fun _=>by kernel_rfl
 | 9,_=>fun _=>by kernel_rfl
 | 10,_=>fun _=>by kernel_rfl
 | 11,_=>fun _=>by kernel_rfl
 | 12,_=>fun _=>by kernel_rfl
 | 13,_=>fun _=>by kernel_rfl
 | 14,_=>fun _=>by kernel_rfl
 | 15,_=>fun _=>by kernel_rfl
 | 16,_=>fun _=>by kernel_rfl
 | 17,_=>fun _=>by kernel_rfl
 | 18,_=>fun _=>by kernel_rfl
 | 19,_=>fun _=>by kernel_rfl
 | 20,_=>fun _=>by kernel_rfl
 | 21,_=>fun _=>by kernel_rfl
 | n+22,h=>absurd h (by omega)
theorem signAt_list (k:Nat):(signAt k).data.toList=signL.getD k []:=rfl
theorem sign_len:signL.length=22:=rfl
theorem token_any (s:ByteArray)(w:World)(hs:s.size≤1099511627776) :
  Calls Tryz.prog 135 #[.string s] w fun e w'=>e=.returned (tokV s (tokF s.data.toList))∧Below w.heap.size w w':=by
 by_cases h0:0<s.size
 ·obtain ⟨r,hr⟩:=head_cons h0
  have hI:(0:Int) < ↑s.size:=by omega
  have he:s.toList.isEmpty=false:=by rw [isEmpty_size];exact decide_eq_false (by omega)
  generalize hc:(s[0]'h0)=c at hr
  by_cases hl:letterB c=true
  ·have hl':letterB (s[0]'h0)=true:=by rw [hc];exact hl
   have hq:tokF s.data.toList=wordF s.data.toList:=by rw [hr,tokF,if_pos hl]
   have HQ:=Lib.hid hq
   have HW:=Lib.hid (word_any s)
   clear hq hr hc hl
   go_enter Tryz.func135,Tryz.ntmps135
   go_wp2_with (first|(go_at_call 208;refine (letter_any _ _).mono ?_;rintro e w1 ⟨rfl,rfl⟩)|(go_at_call 209;refine (HW.out _ hs).mono ?_;rintro e w1 ⟨he,hb⟩;rw [tokV] at he;subst he))
   go_ret3
   refine ⟨ret_tok (t:=tokF s.data.toList) ?_ ?_ ?_,hb⟩ <;> rw [HQ.out]
  ·have hl':letterB (s[0]'h0)=false:=by rw [hc];simpa using hl
   by_cases hd:digitB c=true
   ·have hd':digitB (s[0]'h0)=true:=by rw [hc];exact hd
    have hq:tokF s.data.toList=numF s.data.toList:=by rw [hr,tokF,if_neg hl,if_pos hd]
    have HQ:=Lib.hid hq
    have HW:=Lib.hid (number_any s)
    clear hq hr hc hl hd
    go_enter Tryz.func135,Tryz.ntmps135
    go_wp2_with (first|(go_at_call 208;refine (letter_any _ _).mono ?_;rintro e w1 ⟨rfl,rfl⟩)|(go_at_call 210;refine (digit_any _ _).mono ?_;rintro e w1 ⟨rfl,rfl⟩)|(go_at_call 211;refine (HW.out _ hs).mono ?_;rintro e w1 ⟨he,rfl⟩;rw [tokV] at he;subst he))
    go_ret3
    refine ⟨ret_tok (t:=tokF s.data.toList) ?_ ?_ ?_,Below.refl _ _⟩ <;> rw [HQ.out]
   ·have hd':digitB (s[0]'h0)=false:=by rw [hc];simpa using hd
    have hq:tokF s.data.toList=symF s.data.toList:=by rw [hr,tokF,if_neg hl,if_neg hd]
    have HQ:=Lib.hid hq
    clear hq hr hc hl hd
    go_enter Tryz.func135,Tryz.ntmps135
    go_wp2_with (first|(go_at_call 208;refine (letter_any _ _).mono ?_;rintro e w1 ⟨rfl,rfl⟩)|(go_at_call 210;refine (digit_any _ _).mono ?_;rintro e w1 ⟨rfl,rfl⟩)|(go_at_call 212;refine (signs_any _).mono ?_;rintro e w1 ⟨rfl,hb⟩))
    go_loop [6,29] (fun x n=>∃ k:Nat,n=.int .i64 k∧k≤22∧∀ j,j<k→Lib.hasPrefix s.data.toList (signL.getD j [])=false) (fun _ n=>22 - (intOf n).toNat)
    case atStart=>exact ⟨0,rfl,by omega,fun j hj=>absurd hj (by omega)⟩
    case round =>
     obtain ⟨k,rfl,hk,hj⟩:=hrel
     have HJ:=Lib.hid hj
     have HP:=Lib.hid (Tryz.strings_HasPrefix s)
     clear hj
     by_cases hlt:k<22
     ·have hi:(k:Int)<22:=by omega
      have hx:=sign_index k hlt
      cases hb2:Lib.hasPrefix s.data.toList (signAt k).data.toList with
      | true =>
       have hf:=sign_find s.data.toList signL k (by rw [sign_len];exact hlt) HJ.out hb2
       have hq:tokF s.data.toList=(4,(signL.getD k []).length,0):=by rw [HQ.out,symF,signF,hf]
       have HB:=Lib.hid hb2
       have HQ2:=Lib.hid hq
       have hX:signAt k=s.extract 0 (signL.getD k []).length:=by
        refine bytes_ext ?_
        rw [extract_list,List.drop_zero,signAt_list]
        exact (List.prefix_iff_eq_take.1 (List.isPrefixOf_iff_prefix.1 hb2))
       have HX:=Lib.hid hX
       clear hb2 hf hq hX
       go_wp2_with (go_at_call 206;refine (HP.out (signAt k) _).mono ?_;rw [HB.out];rintro e w2 ⟨rfl,rfl⟩)
       go_ret3
       refine ⟨ret_tok (t:=tokF s.data.toList) ?_ ?_ ?_,hb⟩ <;> rw [HQ2.out]
       ·rfl
       ·exact HX.out
       ·rfl
      | false =>
       have HB:=Lib.hid hb2
       clear hb2
       go_wp2_with (go_at_call 206;refine (HP.out (signAt k) _).mono ?_;rw [HB.out];rintro e w2 ⟨rfl,rfl⟩)
       go_round
       case rel =>
        refine ⟨k+1,by go_num,by omega,fun j hj=>?_⟩
        rcases Nat.lt_or_ge j k with h|h
        ·exact HJ.out j h
        ·have:j=k:=by omega
         subst this
         exact HB.out
       case measure=>simp [intOf];omega
     ·have hk2:k=22:=by omega
      subst hk2
      have hq:tokF s.data.toList=(0,0,20):=by rw [HQ.out,symF,signF,sign_none _ _ (fun j hj=>HJ.out j hj)]
      have HQ2:=Lib.hid hq
      clear hq hlt hk
      go_wp2
      go_ret3
      refine ⟨ret_tok (t:=tokF s.data.toList) ?_ ?_ ?_,hb⟩ <;> rw [HQ2.out]
      ·rfl
      ·exact ext_none s
      ·rfl
 ·have hz:s.size=0:=by omega
  have he:s.toList.isEmpty=true:=by rw [isEmpty_size];exact decide_eq_true hz
  have hn:s.data.toList=[]:=List.eq_nil_of_length_eq_zero (by rw [← Lib.size_eq];exact hz)
  have hq:tokF s.data.toList=(5,0,0):=by rw [hn,tokF]
  have HQ:=Lib.hid hq
  clear hq hn hz h0
  go_enter Tryz.func135,Tryz.ntmps135
  go_wp2
  go_ret3
  refine ⟨ret_tok (t:=tokF s.data.toList) ?_ ?_ ?_,Below.refl _ _⟩ <;> rw [HQ.out]
  ·rfl
  ·exact ext_none s
  ·rfl
end Go.Proofs.YtbodlpoomfefcaaGreatDoor

namespace Go.Proofs
theorem Tryz.infoToken:(Tryz.prog.info? 80).map (fun i=>(i.zero,i.size,i.bytes))=some (some (.agg #[.int .i64 0,.string ByteArray.empty,.string ByteArray.empty,.int .i64 0]),4,48):=by kernel_rfl
end Go.Proofs

namespace Go.Proofs.YtbodlpoomfefcaaGreatDoor
open Go.RowKit
def preF (acc:List Tok):Except (Nat × Nat) (List Tok)→Except (Nat × Nat) (List Tok)
 | .error e=>.error e
 | .ok l=>.ok (acc++l)
theorem preF_nil (x:Except (Nat × Nat) (List Tok)):preF [] x=x:=by cases x <;> rfl
theorem preF_preF (a b:List Tok)(x:Except (Nat × Nat) (List Tok)):preF a (preF b x)=preF (a++b) x:=by
 cases x
 ·rfl
 ·simp [preF]
theorem lexF_err (n:Nat)(T:List UInt8)(p k:Nat)(t:Nat × Nat × Nat)(hk:leadF false T=k)(ht:tokF (T.drop k)=t)(he:t.2.2≠0):lexF (n+1) T p=.error (t.2.2,p+k):=by
 subst hk ht
 rw [lexF]
 rw [if_pos he]
theorem lexF_end (n:Nat)(T:List UInt8)(p k:Nat)(t:Nat × Nat × Nat)(hk:leadF false T=k)(ht:tokF (T.drop k)=t)(he:t.2.2=0)(h5:t.1=5):lexF (n+1) T p=.ok [⟨5,T.take k,[],p+k⟩]:=by
 subst hk ht
 rw [lexF]
 rw [if_neg (by omega),if_pos h5]
theorem lexF_step (n:Nat)(T:List UInt8)(p k:Nat)(t:Nat × Nat × Nat)(hk:leadF false T=k)(ht:tokF (T.drop k)=t)(he:t.2.2=0)(h5:t.1≠5) :
  lexF (n+1) T p=preF [⟨t.1,T.take k,(T.drop k).take t.2.1,p+k⟩] (lexF n (T.drop (k+t.2.1)) (p+k+t.2.1)):=by
 subst hk ht
 rw [lexF]
 rw [if_neg (by omega),if_neg h5,List.drop_drop]
 cases lexF n _ _ <;> rfl
theorem cells_four {w:World}{g:Nat}{x y z u:Value}(h0:w.cell? ⟨g,0,none⟩=some x)(h1:w.cell? ⟨g,1,none⟩=some y)(h2:w.cell? ⟨g,2,none⟩=some z)(h3:w.cell? ⟨g,3,none⟩=some u) :
  ∀ j v,[x,y,z,u][j]?=some v→w.cell? ((⟨g,0,none⟩:Addr).add j)=some v:=by
 intro j v hj
 match j,hj with
 | 0,hj=>simp at hj;subst hj;simpa [Addr.add] using h0
 | 1,hj=>simp at hj;subst hj;simpa [Addr.add] using h1
 | 2,hj=>simp at hj;subst hj;simpa [Addr.add] using h2
 | 3,hj=>simp at hj;subst hj;simpa [Addr.add] using h3
theorem own_below {w w':World}{base e sz n:Nat}{v:Value}{xs:List Value}(h:w.ownsRow base e sz v n xs)(hb:Below w.heap.size w w'):w'.ownsRow base e sz v n xs:=by
 refine ⟨h.1,?_⟩
 rcases h.2 with hn|⟨g,cap,cur,hv,hg,hh,hr⟩
 ·exact .inl hn
 ·exact .inr ⟨g,cap,cur,hv,hg,by rw [hb.block g (Array.getElem?_eq_some_iff.1 hh).1];exact hh,hr⟩
theorem tokF_five (T:List UInt8)(h:(tokF T).1=5):(tokF T).2.1=0:=by
 cases T with
 | nil=>rfl
 | cons c r =>
  exfalso
  rw [tokF] at h
  split at h
  ·rw [wordF] at h
   split at h
   ·cases h
   ·split at h <;> cases h
  ·split at h
   ·rw [numF] at h
    split at h <;> cases h
   ·rw [symF] at h
    split at h <;> cases h
theorem tok_cells {kd pk:Nat}{l t:List UInt8}{y z:ByteArray}{a:Int}(hy:y.data.toList=l)(hz:z.data.toList=t)(ha:a=pk) :
  [Value.int .i64 kd,.string y,.string z,.int .i64 a]=tokCells ⟨kd,l,t,pk⟩:=by
 subst hy hz ha
 rfl
def LexOk (S:List UInt8)(w:World)(e:Ending)(w':World):Prop :=
 Below w.heap.size w w'∧match lexAll S with
 | .ok l=>∃ v,e=.returned (.tuple #[v,.agg #[.int .i64 0,.int .i64 0]])∧Rec w'.heap.size w' v 4 tokCells l
 | .error x=>e=.returned (.tuple #[.slice none 0 0,.agg #[.int .i64 x.1,.int .i64 x.2]])
theorem lex_any (s:ByteArray)(w:World)(hs:s.size≤1099511627776):Calls Tryz.prog 81 #[.string s] w (LexOk s.data.toList w):=by
 obtain ⟨i0,hi,hz0,hz1,hz2⟩:=info_parts Tryz.infoToken
 by_cases hbig:65536<s.size
 ·have hI:(65536:Int) < ↑s.size:=by omega
  have hq:lexAll s.data.toList=.error (11,0):=by rw [lexAll,if_pos (by rw [← Lib.size_eq];exact hbig)]
  have HQ:=Lib.hid hq
  clear hq
  go_enter Tryz.func81,Tryz.ntmps81
  go_wp2
  refine bodyPost_ret (v:=.tuple #[.slice none 0 0,.agg #[.int .i64 11,.int .i64 0]]) (by simp [results,Tryz.results81,go_sem]) rfl ?_
  refine ⟨(Below.refl _ _).alloc (Nat.le_refl _) _,?_⟩
  rw [HQ.out]
  rfl
 ·have hI:¬ (65536:Int) < ↑s.size:=by omega
  have hq:lexAll s.data.toList=lexF (s.size+1) s.data.toList 0:=by rw [lexAll,if_neg (by rw [← Lib.size_eq];exact hbig),← Lib.size_eq]
  have HQ:=Lib.hid hq
  clear hq
  go_enter Tryz.func81,Tryz.ntmps81
  go_wp2
  generalize hw1:w.alloc (.cells #[.int .i64 0,.int .i64 0] 44)=w1
  have hb1:Below w.heap.size w w1:=by rw [← hw1];exact (Below.refl _ _).alloc (Nat.le_refl _) _
  have hf1:w1.heap[w.heap.size]?=some (.cells #[.int .i64 0,.int .i64 0] 44 (0,0)):=by rw [← hw1];exact heap_alloc_new _ _
  have hlt1:w.heap.size<w1.heap.size:=by rw [← hw1];simp
  clear hw1
  go_loopw [4,5] (fun out at0 wr=>∃ (p m:Nat) (acc:List Tok),at0=.int .i64 p∧p≤s.size∧s.size<p+m∧lexF (s.size+1) s.data.toList 0=preF acc (lexF m (s.data.toList.drop p) p)∧acc.length≤p ∧
   wr.ownsRow w1.heap.size 80 4 out acc.length (acc.flatMap tokCells)∧Below w1.heap.size w1 wr) (fun _ at0 _=>s.size - (intOf at0).toNat)
  case atStart=>exact ⟨0,s.size+1,[],rfl,Nat.zero_le _,by omega,(preF_nil _).symm,Nat.le_refl _,World.ownsRow_nil _ _ _ _,Below.refl _ _⟩
  case round =>
   obtain ⟨p,m,acc,rfl,hp,hm,hl,hal,hown,hb⟩:=hrel
   have hz:=hb.size
   obtain ⟨m,rfl⟩:∃ m',m=m'+1:=⟨m - 1,by omega⟩
   have hxl:(s.extract p s.size).data.toList=s.data.toList.drop p:=extract_end s p
   have hxz:(s.extract p s.size).size≤1099511627776:=by rw [ByteArray.size_extract];omega
   have hbt:=between_any (s.extract p s.size) wr hxz
   generalize hk:leadF false (s.extract p s.size).data.toList=k at hbt
   have hkl:k≤s.size - p:=by rw [← hk,hxl];have:=leadF_le false (s.data.toList.drop p);rwa [List.length_drop,← Lib.size_eq] at this
   have hys:((s.extract p s.size).extract 0 k).size=k:=by rw [ByteArray.size_extract,ByteArray.size_extract];omega
   have hyl:((s.extract p s.size).extract 0 k).data.toList=(s.data.toList.drop p).take k:=by rw [extract_list,List.drop_zero,hxl]
   generalize hy:(s.extract p s.size).extract 0 k=y at hbt hys hyl
   have hul:(s.extract (p+k) s.size).data.toList=s.data.toList.drop (p+k):=extract_end s _
   have huz:(s.extract (p+k) s.size).size≤1099511627776:=by rw [ByteArray.size_extract];omega
   have htk:=fun w=>token_any (s.extract (p+k) s.size) w huz
   have hpk:(p:Int)+(k:Int)≤↑s.size:=by omega
   generalize ht:tokF (s.extract (p+k) s.size).data.toList=t at htk
   have htl:t.2.1≤s.size - (p+k):=by rw [← ht,hul];have:=tokF_len (s.data.toList.drop (p+k));rwa [List.length_drop,← Lib.size_eq] at this
   obtain ⟨kd,n,er⟩:=t
   simp only at htl
   have hzs:((s.extract (p+k) s.size).extract 0 n).size=n:=by rw [ByteArray.size_extract,ByteArray.size_extract];omega
   have hzl:((s.extract (p+k) s.size).extract 0 n).data.toList=(s.data.toList.drop (p+k)).take n:=by rw [extract_list,List.drop_zero,hul]
   rw [hxl] at hk
   rw [hul,← List.drop_drop] at ht
   have HB:=Lib.hid hbt
   have HT:=Lib.hid htk
   have HYL:=Lib.hid hyl
   have HZL:=Lib.hid hzl
   have HTL:=Lib.hid ht
   have HK:=Lib.hid hk
   have HL:=Lib.hid hl
   have HZS:=Lib.hid hzs
   clear hbt htk hy hyl hul hxl hk hl huz hxz ht hzl hzs
   go_wp2_with (first|(go_at_call 134;refine HB.out.mono ?_;rintro e w2 ⟨rfl,hb2⟩)|(go_at_call 135;refine (HT.out _).mono ?_))
   rintro e w3 ⟨he,hb3⟩
   obtain rfl:e=.returned (.tuple #[.int .i64 kd,.string ((s.extract (p+k) s.size).extract 0 n),.int .i64 er]):=he
   have hzw3:=hb3.size
   have hzw2:=hb2.size
   have hb13:Below w1.heap.size w1 w3:=(hb.trans (hb2.mono hz)).trans (hb3.mono (by omega))
   have hown3:=own_below (own_below hown hb2) hb3
   have hf3:w3.heap[w.heap.size]?=some (.cells #[.int .i64 0,.int .i64 0] 44 (0,0)):=by rw [hb13.block _ hlt1];exact hf1
   have hbw:Below w.heap.size w w3:=hb1.trans (hb13.mono (by omega))
   clear hb2 hb3 hown hb
   by_cases her:er=0
   ·subst her
    generalize hzz:(s.extract (p+k) s.size).extract 0 n=z
    have HZZ:=Lib.hid hzz
    have hzn:z.size=n:=by rw [← hzz];exact HZS.out
    have hzl':z.data.toList=(s.data.toList.drop (p+k)).take n:=by rw [← hzz];exact HZL.out
    have HZL':=Lib.hid hzl'
    clear hzz hzl'
    go_wp2_with (at_builtin;refine wpList_append_own _ rfl _ _ 22 rfl w1.heap.size 80 i0 (.agg #[.int .i64 0,.string ByteArray.empty,.string ByteArray.empty,.int .i64 0]) 4 48 Tryz.underlying22 hi hz0 hz1 hz2 rfl (by decide) _ _ _ rfl (hown3.alloc _) ⟨w3.heap.size,0,none⟩ 1 1 [.int .i64 kd,.string y,.string z,.int .i64 (p+k)] rfl rfl ?c1 ?c2 ?c3 ?c4 ?c5 ?_)
    case c1=>exact cells_four (by go_simp) (by go_simp) (by go_simp) (by go_simp)
    case c2=>intro u hu;simp at hu;rcases hu with rfl|rfl|rfl|rfl <;> rfl
    case c3=>unfold maxLen;omega
    case c4=>omega
    case c5=>simp;omega
    intro v' w4 hown' hgrow _
    have hb4:Below w1.heap.size w1 w4:=(hb13.alloc (by omega) _).grown hgrow (by simp;omega) (fun q hq=>(hown3.lt q hq).1)
    have hf4:=own_block (hown3.alloc _) hgrow ((Lib.alloc_old w3 _ _ (by omega)).trans hf3) (by decide)
    have hcl:=tok_cells (kd:=kd) (pk:=p+k) HYL.out HZL'.out (by rfl:((p:Int)+(k:Int))=((p+k:Nat):Int))
    rw [hcl] at hown'
    have hown4:w4.ownsRow w1.heap.size 80 4 v' (acc++[Tok.mk kd ((s.data.toList.drop p).take k) ((s.data.toList.drop (p+k)).take n) (p+k)]).length ((acc++[Tok.mk kd ((s.data.toList.drop p).take k) ((s.data.toList.drop (p+k)).take n) (p+k)]).flatMap tokCells):=by
     rw [List.flatMap_append,List.length_append]
     exact hown'
    have hzw4:=hb4.size
    have hbw4:Below w.heap.size w w4:=hb1.trans (hb4.mono (by omega))
    clear hgrow hown' hcl hown3 hb13 hbw
    by_cases h5:kd=5
    ·have hk5:((kd:Int) == 5)=true:=by rw [h5];rfl
     have hq:=HL.out
     rw [lexF_end _ _ _ _ _ HK.out HTL.out rfl h5] at hq
     have hn0:n=0:=by have:=tokF_five ((s.data.toList.drop p).drop k) (by rw [HTL.out];exact h5);rw [HTL.out] at this;exact this
     rw [hn0,List.take_zero,h5] at hown4
     have HQ2:=Lib.hid hq
     clear hq h5 hn0
     have f0:w4.cell? ⟨w.heap.size,0,none⟩=some (.int .i64 0):=by rw [Lib.cell_of_heap hf4];rfl
     have f1:w4.cell? ⟨w.heap.size,1,none⟩=some (.int .i64 0):=by rw [Lib.cell_of_heap hf4];rfl
     have z0:∀ j,w4.frozen? ⟨w.heap.size,j,none⟩=false:=by intro j;simp [World.frozen?,hf4]
     go_wp2
     refine bodyPost_ret (v:=.tuple #[v',.agg #[.int .i64 0,.int .i64 0]]) (by simp [results,Tryz.results81,go_sem,f0,f1]) rfl ?_
     refine ⟨(hbw4.setCell (Nat.le_refl _) _).setCell (Nat.le_refl _) _,?_⟩
     rw [HQ.out,HQ2.out]
     exact ⟨_,rfl,Sl.ofOwns (ownsRow_setCell_below (ownsRow_setCell_below hown4 hlt1 _) hlt1 _)⟩
    ·have hk5:((kd:Int) == 5)=false:=by rw [← Bool.not_eq_true,beq_iff_eq];omega
     have hq:=HL.out
     rw [lexF_step _ _ _ _ _ HK.out HTL.out rfl h5,preF_preF,List.drop_drop,List.drop_drop,← Nat.add_assoc p k] at hq
     have hn0:0<n:=by have:=tokF_pos ((s.data.toList.drop p).drop k) (by rw [HTL.out]) (by rw [HTL.out];exact h5);rw [HTL.out] at this;exact this
     have HQ2:=Lib.hid hq
     clear hq
     go_wp2
     go_roundw
     case rel=>exact ⟨p+k+n,m,_,by go_num,by omega,by omega,HQ2.out,by rw [List.length_append];simp;omega,hown4,hb4⟩
     case measure=>simp [intOf];omega
   ·have hne:((er:Int) == 0)=false:=by rw [← Bool.not_eq_true,beq_iff_eq];omega
    have f0:w3.cell? ⟨w.heap.size,0,none⟩=some (.int .i64 0):=by rw [Lib.cell_of_heap hf3];rfl
    have f1:w3.cell? ⟨w.heap.size,1,none⟩=some (.int .i64 0):=by rw [Lib.cell_of_heap hf3];rfl
    have z0:∀ j,w3.frozen? ⟨w.heap.size,j,none⟩=false:=by intro j;simp [World.frozen?,hf3]
    have hq:=HL.out
    rw [lexF_err _ _ _ _ _ HK.out HTL.out her] at hq
    have HQ2:=Lib.hid hq
    clear hq
    go_wp2
    refine bodyPost_ret (v:=.tuple #[.slice none 0 0,.agg #[.int .i64 er,.int .i64 (p+k)]]) (by simp [results,Tryz.results81,go_sem,f0,f1]) rfl ?_
    refine ⟨(hbw.setCell (Nat.le_refl _) _).setCell (Nat.le_refl _) _,?_⟩
    rw [HQ.out,HQ2.out]
    rfl
end Go.Proofs.YtbodlpoomfefcaaGreatDoor
