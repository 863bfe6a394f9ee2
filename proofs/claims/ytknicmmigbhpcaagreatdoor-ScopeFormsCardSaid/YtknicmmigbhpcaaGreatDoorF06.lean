/- Walks and plain laws: LexW3, LexW4, LexSigns, LexW5, LexInfo, LexW6, ParseW0. -/
import Derived.Test.YtknicmmigbhpcaaGreatDoorF05
import Derived.Great.BuildSlice
import Derived.Deep.WholeRow
import Derived.KernelRfl
import Derived.Test.YtknicmmigbhpcaaGreatDoorF04
import Derived.Test.YtknicmmigbhpcaaGreatDoorF03
set_option maxHeartbeats 16000000
set_option maxRecDepth 100000
set_option linter.unusedVariables false
set_option linter.unusedSimpArgs false
namespace Go.Proofs.YtknicmmigbhpcaaGreatDoor
open Go.RowKit
def RL (s:ByteArray)(t:Nat × Nat × Nat):Value:=.tuple #[.int .i64 t.1,.string (s.extract 0 t.2.1),.int .i64 t.2.2]
theorem ko {s:ByteArray}{t:Nat × Nat × Nat}{a b:Int}{x:ByteArray}(h1:a=t.1)(h2:x=s.extract 0 t.2.1)(h3:b=t.2.2):Ending.returned (.tuple #[.int .i64 a,.string x,.int .i64 b])=.returned (RL s t):=by
 rw[h1,h2,h3];rfl
theorem tO (s:ByteArray):(⟨#[]⟩:ByteArray)=s.extract 0 0:=qG (by rw[dh];rfl)
theorem ext_size (s:ByteArray)(k:Nat)(h:k≤s.size):(s.extract 0 k).size=k:=by rw[ByteArray.size_extract];omega
theorem take_takeWhile (p:UInt8→Bool)(T:List UInt8):T.take (T.takeWhile p).length=T.takeWhile p:=by
 obtain⟨r,hr⟩:=List.takeWhile_prefix (p:=p) (l:=T)
 conv=>lhs;arg 2;rw[← hr]
 simp
theorem Vf (p:UInt8→Bool)(s:ByteArray):lF p s≤s.size:=by rw[Lib.size_eq];exact je p _
theorem J9 (p:UInt8→Bool)(s:ByteArray):(s.extract 0 (lF p s)).data.toList=s.data.toList.takeWhile p:=by
 rw[dh,List.drop_zero,lF,take_takeWhile]
theorem NK (s:ByteArray)(w:World)(hs:s.size≤1099511627776) :
  Calls Tryz.prog 199 #[.string s] w fun e w'=>e=.returned (RL s (jc s.data.toList))∧w'=w:=by
 have hr:=Vf aJ s;have hn:=J9 aJ s;have hz:=ext_size s _ hr;have HR:=ah (RI s w hs)
 by_cases yU:60<lF aJ s
 ·have hq:jc s.data.toList=(0,0,21):=by rw[jc,if_pos (.inl yU)]
  have HQ:=ah hq;generalize hy:s.extract 0 (lF aJ s)=y at HR hz
  have hI:(60:Int) < ↑y.size:=by omega
  have hD:decide ((60:Int) < ↑y.size)=true:=decide_eq_true hI;clear hq hn hz;go_enter Tryz.func199,Tryz.ntmps199;go_wp2_with (go_at_call 254;refine HR.out.mono ?_;rintro e w1 ⟨rfl,rfl⟩);go_ret3
  refine⟨ko (t:=jc s.data.toList) ?_ ?_ ?_,rfl⟩<;>rw[HQ.out]
  ·rfl
  ·exact tO s
  ·rfl
 ·by_cases h1:1<lF aJ s
  ·have h0:0<(s.extract 0 (lF aJ s)).size:=by omega
   generalize hy:s.extract 0 (lF aJ s)=y at HR hz hn h0;have hb:=xL h0;rw[hn] at hb
   have hI:¬ (60:Int) < ↑y.size:=by omega
   have hD:decide ((60:Int) < ↑y.size)=false:=decide_eq_false hI
   have hI1:(1:Int) < ↑y.size:=by omega
   have hD1:decide ((1:Int) < ↑y.size)=true:=decide_eq_true hI1
   by_cases hc:(y[0]'h0)=48
   ·have hq:jc s.data.toList=(0,0,21):=by rw[jc,if_pos (.inr ⟨h1,by rw[hb,hc]⟩)]
    have hE:(((y[0]'h0).toNat:Int) == 48)=true:=by rw[hc];rfl
    have HQ:=ah hq;clear hq hn hb hc hz;go_enter Tryz.func199,Tryz.ntmps199;go_wp2_with (go_at_call 254;refine HR.out.mono ?_;rintro e w1 ⟨rfl,rfl⟩);go_ret3
    refine⟨ko (t:=jc s.data.toList) ?_ ?_ ?_,rfl⟩<;>rw[HQ.out]
    ·rfl
    ·exact tO s
    ·rfl
   ·have hq:jc s.data.toList=(3,lF aJ s,0):=by
     rw[jc,if_neg]
     ·rfl
     ·rintro(h|⟨_,h⟩)
      ·exact yU h
      ·rw[hb] at h;injection h with h;exact hc h
    have hE:(((y[0]'h0).toNat:Int) == 48)=false:=by
     rw[← Bool.not_eq_true,beq_iff_eq];intro h;exact hc (UInt8.toNat_inj.1 (by show _=48;omega))
    have HQ:=ah hq;have HY:=ah hy;clear hq hn hb hc hy hz;go_enter Tryz.func199,Tryz.ntmps199;go_wp2_with (go_at_call 254;refine HR.out.mono ?_;rintro e w1 ⟨rfl,rfl⟩);go_ret3
    refine⟨ko (t:=jc s.data.toList) ?_ ?_ ?_,rfl⟩<;>rw[HQ.out]
    ·rfl
    ·exact HY.out.symm
    ·rfl
  ·have hq:jc s.data.toList=(3,lF aJ s,0):=by
    rw[jc,if_neg]
    ·rfl
    ·rintro(h|⟨h,_⟩)
     ·exact yU h
     ·exact h1 h
   generalize hy:s.extract 0 (lF aJ s)=y at HR hz
   have hI:¬ (60:Int) < ↑y.size:=by omega
   have hD:decide ((60:Int) < ↑y.size)=false:=decide_eq_false hI
   have hI1:¬ (1:Int) < ↑y.size:=by omega
   have hD1:decide ((1:Int) < ↑y.size)=false:=decide_eq_false hI1;have HQ:=ah hq;have HY:=ah hy;clear hq hn hy hz;go_enter Tryz.func199,Tryz.ntmps199;go_wp2_with (go_at_call 254;refine HR.out.mono ?_;rintro e w1 ⟨rfl,rfl⟩);go_ret3
   refine⟨ko (t:=jc s.data.toList) ?_ ?_ ?_,rfl⟩<;>rw[HQ.out]
   ·rfl
   ·exact HY.out.symm
   ·rfl
theorem Vg (w:World):Calls Tryz.prog 256 #[] w fun e w'=>e=.returned (.agg #[.string ⟨#[97,115,115,101,114,116]⟩,.string ⟨#[98,111,111,108]⟩,.string ⟨#[101,108,115,101]⟩,.string ⟨#[102,97,108,115,101]⟩,.string ⟨#[102,117,110]⟩,.string ⟨#[105,102]⟩,.string ⟨#[105,109,112,111,114,116]⟩,.string ⟨#[105,110]⟩,.string ⟨#[105,110,116]⟩,.string ⟨#[108,101,116]⟩,.string ⟨#[110,111,116]⟩,.string ⟨#[112,117,98]⟩,.string ⟨#[114,101,115]⟩,.string ⟨#[116,104,101,110]⟩,.string ⟨#[116,114,117,101]⟩])∧Below w.heap.size w w':=by
 go_enter Tryz.func256,Tryz.ntmps256;go_wp2;refine bodyPost_ret (v:=.agg #[.string ⟨#[97,115,115,101,114,116]⟩,.string ⟨#[98,111,111,108]⟩,.string ⟨#[101,108,115,101]⟩,.string ⟨#[102,97,108,115,101]⟩,.string ⟨#[102,117,110]⟩,.string ⟨#[105,102]⟩,.string ⟨#[105,109,112,111,114,116]⟩,.string ⟨#[105,110]⟩,.string ⟨#[105,110,116]⟩,.string ⟨#[108,101,116]⟩,.string ⟨#[110,111,116]⟩,.string ⟨#[112,117,98]⟩,.string ⟨#[114,101,115]⟩,.string ⟨#[116,104,101,110]⟩,.string ⟨#[116,114,117,101]⟩]) (results_cell_row rfl _ _ w.heap.size 306 _ (0,0) _ rfl (heap_alloc_new _ _) Tryz.underlying306 rfl (by kernel_rfl)) rfl ⟨rfl,(Below.refl _ _).alloc (Nat.le_refl _) _⟩
def Ah (x:ByteArray)(j:Nat):ByteArray:=if j<15 then ⟨(j5.getD j []).toArray⟩ else x
theorem RN:∀ j:Fin 15,Lib.bsGo (fun t=>Op.bytesLess (if t<15 then j5.getD t [] else j5.getD j []) (j5.getD j [])) 15 0 15=j:=by decide
theorem wD (x:ByteArray)(j:Nat):(Ah x j).data.toList=if j<15 then j5.getD j [] else x.data.toList:=by
 unfold Ah
 split<;>rfl
theorem RO (x:ByteArray):∀ j,j<15→(#[.string ⟨#[97,115,115,101,114,116]⟩,.string ⟨#[98,111,111,108]⟩,.string ⟨#[101,108,115,101]⟩,.string ⟨#[102,97,108,115,101]⟩,.string ⟨#[102,117,110]⟩,.string ⟨#[105,102]⟩,.string ⟨#[105,109,112,111,114,116]⟩,.string ⟨#[105,110]⟩,.string ⟨#[105,110,116]⟩,.string ⟨#[108,101,116]⟩,.string ⟨#[110,111,116]⟩,.string ⟨#[112,117,98]⟩,.string ⟨#[114,101,115]⟩,.string ⟨#[116,104,101,110]⟩,.string ⟨#[116,114,117,101]⟩]:Array Value)[0+j]?=some (.string (Ah x j))
 | 0,_=>rfl
 | 1,_=>rfl
 | 2,_=>rfl
 | 3,_=>rfl
 | 4,_=>rfl
 | 5,_=>rfl
 | 6,_=>rfl
 | 7,_=>rfl
 | 8,_=>rfl
 | 9,_=>rfl
 | 10,_=>rfl
 | 11,_=>rfl
 | 12,_=>rfl
 | 13,_=>rfl
 | 14,_=>rfl
 | n+15,h=>absurd h (by omega)
theorem Y7 (j:Nat)(hj:j<15):j5.getD j []∈j5:=by
 have hj0:j<j5.length:=hj;rw[List.getD_eq_getElem?_getD,List.getElem?_eq_getElem hj0,Option.getD_some];exact List.getElem_mem _
theorem RP (x:ByteArray):decide (Lib.bsGo (fun t=>Op.bytesLess (Ah x t).toList x.toList) 15 0 15<15∧Ah x (Lib.bsGo (fun t=>Op.bytesLess (Ah x t).toList x.toList) 15 0 15)=x)=decide (x.data.toList∈j5):=by
 simp only[Lib.toList_data,wD]
 by_cases h:x.data.toList∈j5
 ·obtain⟨j,hj0,e⟩:=List.mem_iff_getElem.1 h
  have ek:j5.getD j []=x.data.toList:=by rw[List.getD_eq_getElem?_getD,List.getElem?_eq_getElem hj0,Option.getD_some,e]
  have hj:j<15:=hj0;have hk:=RN ⟨j,hj⟩;simp only[ek] at hk;rw[hk,decide_eq_true h,decide_eq_true];refine⟨hj,qG ?_⟩;rw[wD,if_pos hj,ek]
 ·rw[decide_eq_false h,decide_eq_false]
  rintro⟨hb,e⟩
  apply h
  rw[← e,wD,if_pos hb];exact Y7 _ hb
def Vh (x:ByteArray)(w:World)(e:Ending)(w':World):Prop :=
 (∃ n:Nat,e=.returned (.tuple #[.int .i64 n,.bool (decide (x.data.toList∈j5))]))∧Below w.heap.size w w'
theorem NP (b:Nat)(x:ByteArray)(w:World)(hc:∀ j,j<15→w.cell? ⟨b,0+j,none⟩=some (.string (Ah x j))) :
  Calls Tryz.prog 92 #[.slice (some ⟨b,0,none⟩) 15 15,.string x] w (Vh x w):=by
 refine(Any2.slices_BinarySearch_string Tryz.BZ b 0 15 15 (Ah x) x w (by decide) hc).mono ?_;rintro e w' ⟨rfl,q,rfl⟩;rw[RP];exact⟨⟨_,rfl⟩,below_drewN (Below.refl _ _) _⟩
theorem Vi (s:ByteArray)(w:World)(hs:s.size≤1099511627776) :
  Calls Tryz.prog 197 #[.string s] w fun e w'=>e=.returned (RL s (iP s.data.toList))∧Below w.heap.size w w':=by
 have hr:=Vf aL s;have hn:=J9 aL s;have hz:=ext_size s _ hr;have HR:=ah (NI s w hs)
 by_cases Nj:40<lF aL s
 ·have hq:iP s.data.toList=(0,0,20):=by unfold iP;exact if_pos Nj
  have HQ:=ah hq;generalize hy:s.extract 0 (lF aL s)=y at HR hz
  have hI:(40:Int) < ↑y.size:=by omega
  clear hq hn hz;go_enter Tryz.func197,Tryz.ntmps197;go_wp2_with (go_at_call 254;refine HR.out.mono ?_;rintro e w1 ⟨rfl,rfl⟩);go_ret3
  refine⟨ko (t:=iP s.data.toList) ?_ ?_ ?_,Below.refl _ _⟩<;>rw[HQ.out]
  ·rfl
  ·exact tO s
  ·rfl
 ·have hq:iP s.data.toList=(if s.data.toList.takeWhile aL∈j5 then (2,lF aL s,0) else (1,lF aL s,0)):=by unfold iP;exact if_neg Nj
  have HQ:=ah hq;generalize hy:s.extract 0 (lF aL s)=y at HR hz hn;have HY:=ah hy;have HN:=ah hn
  have hI:¬ (40:Int) < ↑y.size:=by omega
  clear hq hn hy hz;go_enter Tryz.func197,Tryz.ntmps197;go_wp2_with (first|(go_at_call 254;refine HR.out.mono ?_;rintro e w1 ⟨rfl,rfl⟩)|(go_at_call 256;refine(Vg _).mono ?_;rintro e w2 ⟨rfl,hb⟩)|(go_at_call 92;refine(NP _ y _ ?c1).mono ?_))
  case c1 =>
   intro j hj;rw[Lib.cell_of_heap (heap_alloc_new _ _)];exact RO y j hj
  rintro e w3 ⟨⟨n,rfl⟩,hb3⟩;have hbb:=(hb.alloc hb.size _).trans (hb3.mono (by have:=hb.size;simp;omega))
  cases hk:decide (y.data.toList∈j5) with
  | true =>
   have HK:=ah hk;clear hk;go_wp2;go_ret3
   refine⟨ko (t:=iP s.data.toList) ?_ ?_ ?_,hbb⟩<;>rw[HQ.out,if_pos (by rw[← HN.out];exact of_decide_eq_true HK.out)]
   ·rfl
   ·exact HY.out.symm
   ·rfl
  | false =>
   have HK:=ah hk;clear hk;go_wp2;go_ret3
   refine⟨ko (t:=iP s.data.toList) ?_ ?_ ?_,hbb⟩<;>rw[HQ.out,if_neg (by rw[← HN.out];exact of_decide_eq_false HK.out)]
   ·rfl
   ·exact HY.out.symm
   ·rfl
def Ka:Array Value:=(iw.map fun x=>Value.string ⟨x.toArray⟩).toArray
theorem RQ (w:World):Calls Tryz.prog 200 #[] w fun e w'=>e=.returned (.agg Ka)∧Below w.heap.size w w':=by
 go_enter Tryz.func200,Tryz.ntmps200
 apply wp_seq_k
 intro K0 hK0;have HK:=ah hK0;clear hK0;go_wp2
 apply HK.out
 apply wp_seq_k
 intro K1 hK1
 apply wp_region_lit
 refine wpList_buildTo rfl 269 _ rfl (some 1) rfl Ka (by kernel_rfl) ?_;refine wpList_store_rowTo rfl 269 _ _ rfl rfl w.heap.size Ka rfl rfl 269 _ (heap_alloc_new _ _) (by kernel_rfl) (by decide) (by kernel_rfl) ?_;rw[World.setRow_alloc_new]
 apply wpList_nil
 apply hK1
 go_wp2;refine bodyPost_ret (v:=.agg Ka) (results_cell_row rfl _ _ w.heap.size 269 _ (0,0) _ rfl (heap_alloc_new _ _) Tryz.underlying269 rfl (by kernel_rfl)) rfl ⟨rfl,(Below.refl _ _).alloc (Nat.le_refl _) _⟩
theorem head_cons {s:ByteArray}(h:0<s.size):∃ r,s.data.toList=(s[0]'h) :: r:=by
 have hb:=xL h
 cases hq:s.data.toList with
 | nil=>rw[hq] at hb;cases hb
 | cons c r =>
  rw[hq] at hb
  injection hb with hb
  rw[← hb];exact⟨r,rfl⟩
def ze (k:Nat):ByteArray:=⟨(iw.getD k []).toArray⟩
theorem FI (T:List UInt8):∀ (l:List (List UInt8)) (k:Nat),k<l.length→(∀ j,j<k→Lib.hasPrefix T (l.getD j [])=false)→Lib.hasPrefix T (l.getD k [])=true→l.find? (fun x=>x.isPrefixOf T)=some (l.getD k [])
 | [],k,hk,_,_=>absurd hk (by simp)
 | x :: l,0,_,_,h=>by
  have h:x.isPrefixOf T=true:=h;simp[h]
 | x :: l,k+1,hk,hj,h=>by
  have h0:x.isPrefixOf T=false:=hj 0 (by omega);have:=FI T l k (by simpa using hk) (fun j hjk=>by simpa using hj (j+1) (by omega)) (by simpa using h);simp only[List.find?_cons,h0]
  simpa using this
theorem RS (T:List UInt8)(l:List (List UInt8))(hj:∀ j,j<l.length→Lib.hasPrefix T (l.getD j [])=false):l.find? (fun x=>x.isPrefixOf T)=none:=by
 rw[List.find?_eq_none];intro x hx;obtain⟨j,hjl,e⟩:=List.mem_iff_getElem.1 hx;have:=hj j hjl;rw[List.getD_eq_getElem?_getD,List.getElem?_eq_getElem hjl,Option.getD_some,e] at this;intro h;rw[Lib.hasPrefix] at this;rw[this] at h;cases h
theorem NQ:∀ k:Nat,k<22→∀ w:World,(Instr.index 269 (.agg Ka) (.int .i64 k)).run Tryz.prog w=.ok (.string (ze k)) w
 | 0,_=>fun _=>by kernel_rfl
 | 1,_=>fun _=>by kernel_rfl
 | 2,_=>fun _=>by kernel_rfl
 | 3,_=>fun _=>by kernel_rfl
 | 4,_=>fun _=>by kernel_rfl
 | 5,_=>fun _=>by kernel_rfl
 | 6,_=>fun _=>by kernel_rfl
 | 7,_=>fun _=>by kernel_rfl
 | 8,_=>fun _=>by kernel_rfl
 | 9,_=>fun _=>by kernel_rfl
 | 10,_=>fun _=>by kernel_rfl
 | 11,_=>fun _=>by kernel_rfl
 | 12,_=>fun _=>by kernel_rfl
 | 13,_=>fun _=>by kernel_rfl
 | 14,_=>fun _=>by kernel_rfl
 | 15,_=>fun _=>by kernel_rfl
 | 16,_=>fun _=>by kernel_rfl
 | 17,_=>fun _=>by kernel_rfl
 | 18,_=>fun _=>by kernel_rfl
 | 19,_=>fun _=>by kernel_rfl
 | 20,_=>fun _=>by kernel_rfl
 | 21,_=>fun _=>by kernel_rfl
 | n+22,h=>absurd h (by omega)
theorem Kc (k:Nat):(ze k).data.toList=iw.getD k []:=rfl
theorem Vj:iw.length=22:=rfl
theorem RU (s:ByteArray)(w:World)(hs:s.size≤1099511627776) :
  Calls Tryz.prog 125 #[.string s] w fun e w'=>e=.returned (RL s (bG s.data.toList))∧Below w.heap.size w w':=by
 by_cases h0:0<s.size
 ·obtain⟨r,hr⟩:=head_cons h0
  have hI:(0:Int) < ↑s.size:=by omega
  have he:s.toList.isEmpty=false:=by rw[rJ];exact decide_eq_false (by omega)
  generalize hc:(s[0]'h0)=c at hr
  by_cases hl:bT c=true
  ·have hl':bT (s[0]'h0)=true:=by rw[hc];exact hl
   have hq:bG s.data.toList=iP s.data.toList:=by rw[hr,bG,if_pos hl]
   have HQ:=ah hq;have HW:=ah (Vi s);clear hq hr hc hl;go_enter Tryz.func125,Tryz.ntmps125;go_wp2_with (first|(go_at_call 196;refine(rR _ _).mono ?_;rintro e w1 ⟨rfl,rfl⟩)|(go_at_call 197;refine(HW.out _ hs).mono ?_;rintro e w1 ⟨he,hb⟩;rw[RL] at he;subst he));go_ret3
   refine⟨ko (t:=bG s.data.toList) ?_ ?_ ?_,hb⟩<;>rw[HQ.out]
  ·have hl':bT (s[0]'h0)=false:=by rw[hc];simpa using hl
   by_cases hd:aJ c=true
   ·have hd':aJ (s[0]'h0)=true:=by rw[hc];exact hd
    have hq:bG s.data.toList=jc s.data.toList:=by rw[hr,bG,if_neg hl,if_pos hd]
    have HQ:=ah hq;have HW:=ah (NK s);clear hq hr hc hl hd;go_enter Tryz.func125,Tryz.ntmps125;go_wp2_with (first|(go_at_call 196;refine(rR _ _).mono ?_;rintro e w1 ⟨rfl,rfl⟩)|(go_at_call 198;refine(qL _ _).mono ?_;rintro e w1 ⟨rfl,rfl⟩)|(go_at_call 199;refine(HW.out _ hs).mono ?_;rintro e w1 ⟨he,rfl⟩;rw[RL] at he;subst he));go_ret3
    refine⟨ko (t:=bG s.data.toList) ?_ ?_ ?_,Below.refl _ _⟩<;>rw[HQ.out]
   ·have hd':aJ (s[0]'h0)=false:=by rw[hc];simpa using hd
    have hq:bG s.data.toList=vZ s.data.toList:=by rw[hr,bG,if_neg hl,if_neg hd]
    have HQ:=ah hq;clear hq hr hc hl hd;go_enter Tryz.func125,Tryz.ntmps125;go_wp2_with (first|(go_at_call 196;refine(rR _ _).mono ?_;rintro e w1 ⟨rfl,rfl⟩)|(go_at_call 198;refine(qL _ _).mono ?_;rintro e w1 ⟨rfl,rfl⟩)|(go_at_call 200;refine(RQ _).mono ?_;rintro e w1 ⟨rfl,hb⟩))
    go_loop [6,29] (fun x n=>∃ k:Nat,n=.int .i64 k∧k≤22∧∀ j,j<k→Lib.hasPrefix s.data.toList (iw.getD j [])=false) (fun _ n=>22 - (intOf n).toNat)
    case atStart=>exact⟨0,rfl,by omega,fun j hj=>absurd hj (by omega)⟩
    case round =>
     obtain⟨k,rfl,hk,hj⟩:=hrel;have HJ:=ah hj;have HP:=ah (Tryz.strings_HasPrefix s);clear hj
     by_cases hlt:k<22
     ·have hi:(k:Int)<22:=by omega
      have hx:=NQ k hlt
      cases hb2:Lib.hasPrefix s.data.toList (ze k).data.toList with
      | true =>
       have hf:=FI s.data.toList iw k (by rw[Vj];exact hlt) HJ.out hb2
       have hq:bG s.data.toList=(4,(iw.getD k []).length,0):=by rw[HQ.out,vZ,l9,hf]
       have HB:=ah hb2;have EL:=ah hq
       have hX:ze k=s.extract 0 (iw.getD k []).length:=by
        refine qG ?_;rw[dh,List.drop_zero,Kc];exact(List.prefix_iff_eq_take.1 (List.isPrefixOf_iff_prefix.1 hb2))
       have HX:=ah hX;clear hb2 hf hq hX;go_wp2_with (go_at_call 194;refine(HP.out (ze k) _).mono ?_;rw[HB.out];rintro e w2 ⟨rfl,rfl⟩);go_ret3
       refine⟨ko (t:=bG s.data.toList) ?_ ?_ ?_,hb⟩<;>rw[EL.out]
       ·rfl
       ·exact HX.out
       ·rfl
      | false =>
       have HB:=ah hb2;clear hb2;go_wp2_with (go_at_call 194;refine(HP.out (ze k) _).mono ?_;rw[HB.out];rintro e w2 ⟨rfl,rfl⟩)
       go_round
       case rel =>
        refine⟨k+1,by go_num,by omega,fun j hj=>?_⟩
        rcases Nat.lt_or_ge j k with h|h
        ·exact HJ.out j h
        ·have:j=k:=by omega
         subst this;exact HB.out
       case measure=>simp[intOf];omega
     ·have hk2:k=22:=by omega
      subst hk2
      have hq:bG s.data.toList=(0,0,20):=by rw[HQ.out,vZ,l9,RS _ _ (fun j hj=>HJ.out j hj)]
      have EL:=ah hq;clear hq hlt hk;go_wp2;go_ret3
      refine⟨ko (t:=bG s.data.toList) ?_ ?_ ?_,hb⟩<;>rw[EL.out]
      ·rfl
      ·exact tO s
      ·rfl
 ·have hz:s.size=0:=by omega
  have he:s.toList.isEmpty=true:=by rw[rJ];exact decide_eq_true hz
  have hn:s.data.toList=[]:=List.eq_nil_of_length_eq_zero (by rw[← Lib.size_eq];exact hz)
  have hq:bG s.data.toList=(5,0,0):=by rw[hn,bG]
  have HQ:=ah hq;clear hq hn hz h0;go_enter Tryz.func125,Tryz.ntmps125;go_wp2;go_ret3
  refine⟨ko (t:=bG s.data.toList) ?_ ?_ ?_,Below.refl _ _⟩<;>rw[HQ.out]
  ·rfl
  ·exact tO s
  ·rfl
end Go.Proofs.YtknicmmigbhpcaaGreatDoor

namespace Go.Proofs
theorem Tryz.RV:(Tryz.prog.info? 136).map (fun i=>(i.zero,i.size,i.bytes))=some (some (.agg #[.int .i64 0,.string ByteArray.empty,.string ByteArray.empty,.int .i64 0]),4,48):=by kernel_rfl
theorem Tryz.NR:(Tryz.prog.info? 144).map (fun i=>(i.zero,i.size,i.bytes))=some (some (.agg #[.int .i64 0,.string ByteArray.empty,.string ByteArray.empty,.int .i64 0]),4,48):=by kernel_rfl
end Go.Proofs

namespace Go.Proofs.YtknicmmigbhpcaaGreatDoor
open Go.RowKit
def Ke (acc:List Tok):Except (Nat × Nat) (List Tok)→Except (Nat × Nat) (List Tok)
 | .error e=>.error e
 | .ok l=>.ok (acc++l)
theorem Kg (x:Except (Nat × Nat) (List Tok)):Ke [] x=x:=by cases x<;>rfl
theorem FJ (a b:List Tok)(x:Except (Nat × Nat) (List Tok)):Ke a (Ke b x)=Ke (a++b) x:=by
 cases x
 ·rfl
 ·simp[Ke]
theorem Kh (n:Nat)(T:List UInt8)(p k:Nat)(t:Nat × Nat × Nat)(hk:bf false T=k)(ht:bG (T.drop k)=t)(he:t.2.2≠0):nD (n+1) T p=.error (t.2.2,p+k):=by
 subst hk ht;rw[nD];rw[if_pos he]
theorem Kj (n:Nat)(T:List UInt8)(p k:Nat)(t:Nat × Nat × Nat)(hk:bf false T=k)(ht:bG (T.drop k)=t)(he:t.2.2=0)(h5:t.1=5):nD (n+1) T p=.ok [⟨5,T.take k,[],p+k⟩]:=by
 subst hk ht;rw[nD];rw[if_neg (by omega),if_pos h5]
theorem FL (n:Nat)(T:List UInt8)(p k:Nat)(t:Nat × Nat × Nat)(hk:bf false T=k)(ht:bG (T.drop k)=t)(he:t.2.2=0)(h5:t.1≠5) :
  nD (n+1) T p=Ke [⟨t.1,T.take k,(T.drop k).take t.2.1,p+k⟩] (nD n (T.drop (k+t.2.1)) (p+k+t.2.1)):=by
 subst hk ht;rw[nD];rw[if_neg (by omega),if_neg h5,List.drop_drop]
 cases nD n _ _<;>rfl
theorem Cb {w:World}{g:Nat}{x y z u:Value}(h0:w.cell? ⟨g,0,none⟩=some x)(h1:w.cell? ⟨g,1,none⟩=some y)(h2:w.cell? ⟨g,2,none⟩=some z)(h3:w.cell? ⟨g,3,none⟩=some u) :
  ∀ j v,[x,y,z,u][j]?=some v→w.cell? ((⟨g,0,none⟩:Addr).add j)=some v:=by
 intro j v hj
 match j,hj with
 | 0,hj=>simp at hj;subst hj;simpa [Addr.add] using h0
 | 1,hj=>simp at hj;subst hj;simpa [Addr.add] using h1
 | 2,hj=>simp at hj;subst hj;simpa [Addr.add] using h2
 | 3,hj=>simp at hj;subst hj;simpa [Addr.add] using h3
theorem own_below {w w':World}{base e sz n:Nat}{v:Value}{xs:List Value}(h:w.ownsRow base e sz v n xs)(hb:Below w.heap.size w w'):w'.ownsRow base e sz v n xs:=by
 refine⟨h.1,?_⟩
 rcases h.2 with hn|⟨g,cap,cur,hv,hg,hh,hr⟩
 ·exact .inl hn
 ·exact .inr ⟨g,cap,cur,hv,hg,by rw[hb.block g (bQ hh).1];exact hh,hr⟩
theorem RX (T:List UInt8)(h:(bG T).1=5):(bG T).2.1=0:=by
 cases T with
 | nil=>rfl
 | cons c r =>
  exfalso
  rw[bG] at h
  split at h
  ·rw[iP] at h
   split at h
   ·cases h
   ·split at h<;>cases h
  ·split at h
   ·rw[jc] at h
    split at h<;>cases h
   ·rw[vZ] at h
    split at h<;>cases h
theorem zf {kd pk:Nat}{l t:List UInt8}{y z:ByteArray}{a:Int}(hy:y.data.toList=l)(hz:z.data.toList=t)(ha:a=pk) :
  [Value.int .i64 kd,.string y,.string z,.int .i64 a]=bK ⟨kd,l,t,pk⟩:=by
 subst hy hz ha
 rfl
def Qx (S:List UInt8)(w:World)(e:Ending)(w':World):Prop :=
 Below w.heap.size w w'∧match bH S with
 | .ok l=>∃ v,e=.returned (.tuple #[v,.agg #[.int .i64 0,.int .i64 0]])∧Rec w'.heap.size w' v 4 bK l
 | .error x=>e=.returned (.tuple #[.slice none 0 0,.agg #[.int .i64 x.1,.int .i64 x.2]])
theorem Hf (s:ByteArray)(w:World)(hs:s.size≤1099511627776):Calls Tryz.prog 74 #[.string s] w (Qx s.data.toList w):=by
 obtain⟨i0,hi,hz0,hz1,hz2⟩:=info_parts Tryz.RV
 by_cases hbig:65536<s.size
 ·have hI:(65536:Int) < ↑s.size:=by omega
  have hq:bH s.data.toList=.error (11,0):=by rw[bH,if_pos (by rw[← Lib.size_eq];exact hbig)]
  have HQ:=ah hq;clear hq;go_enter Tryz.func74,Tryz.ntmps74;go_wp2;refine bodyPost_ret (v:=.tuple #[.slice none 0 0,.agg #[.int .i64 11,.int .i64 0]]) (by simp[results,Tryz.results74,go_sem]) rfl ?_;refine⟨(Below.refl _ _).alloc (Nat.le_refl _) _,?_⟩;rw[HQ.out]
  rfl
 ·have hI:¬ (65536:Int) < ↑s.size:=by omega
  have hq:bH s.data.toList=nD (s.size+1) s.data.toList 0:=by rw[bH,if_neg (by rw[← Lib.size_eq];exact hbig),← Lib.size_eq]
  have HQ:=ah hq;clear hq;go_enter Tryz.func74,Tryz.ntmps74;go_wp2;generalize hw1:w.alloc (.cells #[.int .i64 0,.int .i64 0] 75)=w1
  have hb1:Below w.heap.size w w1:=by rw[← hw1];exact(Below.refl _ _).alloc (Nat.le_refl _) _
  have hf1:w1.heap[w.heap.size]?=some (.cells #[.int .i64 0,.int .i64 0] 75 (0,0)):=by rw[← hw1];exact heap_alloc_new _ _
  have hlt1:w.heap.size<w1.heap.size:=by rw[← hw1];simp
  clear hw1
  go_loopw [4,5] (fun out at0 wr=>∃ (p m:Nat) (acc:List Tok),at0=.int .i64 p∧p≤s.size∧s.size<p+m∧nD (s.size+1) s.data.toList 0=Ke acc (nD m (s.data.toList.drop p) p)∧acc.length≤p ∧
   wr.ownsRow w1.heap.size 136 4 out acc.length (acc.flatMap bK)∧Below w1.heap.size w1 wr) (fun _ at0 _=>s.size - (intOf at0).toNat)
  case atStart=>exact⟨0,s.size+1,[],rfl,Nat.zero_le _,by omega,(Kg _).symm,Nat.le_refl _,World.ownsRow_nil _ _ _ _,Below.refl _ _⟩
  case round =>
   obtain⟨p,m,acc,rfl,hp,hm,hl,hal,hown,hb⟩:=hrel;have hz:=hb.size
   obtain⟨m,rfl⟩:∃ m',m=m'+1:=⟨m - 1,by omega⟩
   have hxl:(s.extract p s.size).data.toList=s.data.toList.drop p:=nC s p
   have hxz:(s.extract p s.size).size≤1099511627776:=by rw[ByteArray.size_extract];omega
   have hbt:=J8 (s.extract p s.size) wr hxz;generalize hk:bf false (s.extract p s.size).data.toList=k at hbt
   have hkl:k≤s.size - p:=by rw[← hk,hxl];have:=lG false (s.data.toList.drop p);rwa [List.length_drop,← Lib.size_eq] at this
   have hys:((s.extract p s.size).extract 0 k).size=k:=by rw[ByteArray.size_extract,ByteArray.size_extract];omega
   have hyl:((s.extract p s.size).extract 0 k).data.toList=(s.data.toList.drop p).take k:=by rw[dh,List.drop_zero,hxl]
   generalize hy:(s.extract p s.size).extract 0 k=y at hbt hys hyl;have hul:(s.extract (p+k) s.size).data.toList=s.data.toList.drop (p+k):=nC s _
   have huz:(s.extract (p+k) s.size).size≤1099511627776:=by rw[ByteArray.size_extract];omega
   have htk:=fun w=>RU (s.extract (p+k) s.size) w huz
   have hpk:(p:Int)+(k:Int)≤↑s.size:=by omega
   generalize ht:bG (s.extract (p+k) s.size).data.toList=t at htk
   have htl:t.2.1≤s.size - (p+k):=by rw[← ht,hul];have:=tJ (s.data.toList.drop (p+k));rwa [List.length_drop,← Lib.size_eq] at this
   obtain⟨kd,n,er⟩:=t;simp only at htl
   have hzs:((s.extract (p+k) s.size).extract 0 n).size=n:=by rw[ByteArray.size_extract,ByteArray.size_extract];omega
   have hzl:((s.extract (p+k) s.size).extract 0 n).data.toList=(s.data.toList.drop (p+k)).take n:=by rw[dh,List.drop_zero,hul]
   rw[hxl] at hk;rw[hul,← List.drop_drop] at ht;have HB:=ah hbt;have HT:=ah htk;have HYL:=ah hyl;have HZL:=ah hzl;have HTL:=ah ht;have HK:=ah hk;have HL:=ah hl;have HZS:=ah hzs;clear hbt htk hy hyl hul hxl hk hl huz hxz ht hzl hzs;go_wp2_with (first|(go_at_call 124;refine HB.out.mono ?_;rintro e w2 ⟨rfl,hb2⟩)|(go_at_call 125;refine(HT.out _).mono ?_));rintro e w3 ⟨he,hb3⟩;obtain rfl:e=.returned (.tuple #[.int .i64 kd,.string ((s.extract (p+k) s.size).extract 0 n),.int .i64 er]):=he;have afC:=hb3.size;have afD:=hb2.size;have Hg:Below w1.heap.size w1 w3:=(hb.trans (hb2.mono hz)).trans (hb3.mono (by omega));have hown3:=own_below (own_below hown hb2) hb3
   have hf3:w3.heap[w.heap.size]?=some (.cells #[.int .i64 0,.int .i64 0] 75 (0,0)):=by rw[Hg.block _ hlt1];exact hf1
   have hbw:Below w.heap.size w w3:=hb1.trans (Hg.mono (by omega));clear hb2 hb3 hown hb
   by_cases her:er=0
   ·subst her
    generalize hzz:(s.extract (p+k) s.size).extract 0 n=z;have HZZ:=ah hzz
    have hzn:z.size=n:=by rw[← hzz];exact HZS.out
    have acn:z.data.toList=(s.data.toList.drop (p+k)).take n:=by rw[← hzz];exact HZL.out
    have ad7:=ah acn;clear hzz acn;go_wp2_with (at_builtin;refine wpList_append_own _ rfl _ _ 86 rfl w1.heap.size 136 i0 (.agg #[.int .i64 0,.string ByteArray.empty,.string ByteArray.empty,.int .i64 0]) 4 48 Tryz.underlying86 hi hz0 hz1 hz2 rfl (by decide) _ _ _ rfl (hown3.alloc _) ⟨w3.heap.size,0,none⟩ 1 1 [.int .i64 kd,.string y,.string z,.int .i64 (p+k)] rfl rfl ?c1 ?c2 ?c3 ?c4 ?c5 ?_)
    case c1=>exact Cb (by go_simp) (by go_simp) (by go_simp) (by go_simp)
    case c2=>intro u hu;simp at hu;rcases hu with rfl|rfl|rfl|rfl<;>rfl
    case c3=>unfold maxLen;omega
    case c4=>omega
    case c5=>simp;omega
    intro v' w4 hown' hgrow _;have hb4:Below w1.heap.size w1 w4:=(Hg.alloc (by omega) _).grown hgrow (by simp;omega) (fun q hq=>(hown3.lt q hq).1);have Hl:=gZ (hown3.alloc _) hgrow ((Lib.alloc_old w3 _ _ (by omega)).trans hf3) (by decide);have hcl:=zf (kd:=kd) (pk:=p+k) HYL.out ad7.out (by rfl:((p:Int)+(k:Int))=((p+k:Nat):Int));rw[hcl] at hown'
    have tQ:w4.ownsRow w1.heap.size 136 4 v' (acc++[Tok.mk kd ((s.data.toList.drop p).take k) ((s.data.toList.drop (p+k)).take n) (p+k)]).length ((acc++[Tok.mk kd ((s.data.toList.drop p).take k) ((s.data.toList.drop (p+k)).take n) (p+k)]).flatMap bK):=by
     rw[List.flatMap_append,bC];exact hown'
    have afE:=hb4.size;have qM:Below w.heap.size w w4:=hb1.trans (hb4.mono (by omega));clear hgrow hown' hcl hown3 Hg hbw
    by_cases h5:kd=5
    ·have hk5:((kd:Int) == 5)=true:=by rw[h5];rfl
     have hq:=HL.out;rw[Kj _ _ _ _ _ HK.out HTL.out rfl h5] at hq
     have hn0:n=0:=by have:=RX ((s.data.toList.drop p).drop k) (by rw[HTL.out];exact h5);rw[HTL.out] at this;exact this
     rw[hn0,List.take_zero,h5] at tQ;have EL:=ah hq;clear hq h5 hn0
     have f0:w4.cell? ⟨w.heap.size,0,none⟩=some (.int .i64 0):=by rw[Lib.cell_of_heap Hl];rfl
     have f1:w4.cell? ⟨w.heap.size,1,none⟩=some (.int .i64 0):=by rw[Lib.cell_of_heap Hl];rfl
     have z0:∀ j,w4.frozen? ⟨w.heap.size,j,none⟩=false:=by intro j;simp[World.frozen?,Hl]
     go_wp2;refine bodyPost_ret (v:=.tuple #[v',.agg #[.int .i64 0,.int .i64 0]]) (by simp[results,Tryz.results74,go_sem,f0,f1]) rfl ?_;refine⟨(qM.setCell (Nat.le_refl _) _).setCell (Nat.le_refl _) _,?_⟩;rw[HQ.out,EL.out];exact⟨_,rfl,Sl.eP (ownsRow_setCell_below (ownsRow_setCell_below tQ hlt1 _) hlt1 _)⟩
    ·have hk5:((kd:Int) == 5)=false:=by rw[← Bool.not_eq_true,beq_iff_eq];omega
     have hq:=HL.out;rw[FL _ _ _ _ _ HK.out HTL.out rfl h5,FJ,List.drop_drop,List.drop_drop,← Nat.add_assoc p k] at hq
     have hn0:0<n:=by have:=tK ((s.data.toList.drop p).drop k) (by rw[HTL.out]) (by rw[HTL.out];exact h5);rw[HTL.out] at this;exact this
     have EL:=ah hq;clear hq;go_wp2
     go_roundw
     case rel=>exact⟨p+k+n,m,_,by go_num,by omega,by omega,EL.out,by rw[bC];simp;omega,tQ,hb4⟩
     case measure=>simp[intOf];omega
   ·have hne:((er:Int) == 0)=false:=by rw[← Bool.not_eq_true,beq_iff_eq];omega
    have f0:w3.cell? ⟨w.heap.size,0,none⟩=some (.int .i64 0):=by rw[Lib.cell_of_heap hf3];rfl
    have f1:w3.cell? ⟨w.heap.size,1,none⟩=some (.int .i64 0):=by rw[Lib.cell_of_heap hf3];rfl
    have z0:∀ j,w3.frozen? ⟨w.heap.size,j,none⟩=false:=by intro j;simp[World.frozen?,hf3]
    have hq:=HL.out;rw[Kh _ _ _ _ _ HK.out HTL.out her] at hq;have EL:=ah hq;clear hq;go_wp2;refine bodyPost_ret (v:=.tuple #[.slice none 0 0,.agg #[.int .i64 er,.int .i64 (p+k)]]) (by simp[results,Tryz.results74,go_sem,f0,f1]) rfl ?_;refine⟨(hbw.setCell (Nat.le_refl _) _).setCell (Nat.le_refl _) _,?_⟩;rw[HQ.out,EL.out]
    rfl
theorem Tryz.Kk:(Tryz.prog.info? 134).map (fun i=>(i.zero,i.size,i.bytes))=some (some (.agg #[.int .i64 0,.int .i64 0,.slice none 0 0]),3,40):=by kernel_rfl
def dS (w:World)(v:Value)(ks:List Int):Prop :=
 ∃ ao cap,v=.slice ao ks.length cap∧ks.length≤cap ∧
  (0<ks.length→∃ (b off:Nat) (cs:Array Value) (fr:Nat × Nat),ao=some ⟨b,off,none⟩∧w.heap[b]?=some (.cells cs 3 fr)∧∀ j,(h:j<ks.length)→cs[off+j]?=some (.int .i64 ks[j]))
def Kp (B:Nat)(w w':World):Prop :=
 Below B w w'∧∀ (k:Nat) (cs:Array Value) (T:TypeId) (fr:Nat × Nat),w.heap[k]?=some (.cells cs T fr)→T≠188→T≠245→T≠134→w'.heap[k]?=some (.cells cs T fr)
theorem Kp.refl (B:Nat)(w:World):Kp B w w:=⟨Below.refl _ _,fun _ _ _ _ h _ _ _=>h⟩
theorem Kp.trans {B:Nat}{a b c:World}(h:Kp B a b)(k:Kp B b c):Kp B a c:=⟨h.1.trans k.1,fun n cs T fr h0 h1 h2 h3=>k.2 n cs T fr (h.2 n cs T fr h0 h1 h2 h3) h1 h2 h3⟩
theorem Kp.size {B:Nat}{w w':World}(h:Kp B w w'):w.heap.size≤w'.heap.size:=h.1.size
theorem Kp.of {B:Nat}{w w':World}(h:Below w.heap.size w w')(hB:B≤w.heap.size):Kp B w w' :=
 ⟨h.mono hB,fun k cs T fr h0 _ _ _=>by rw[h.block k (bQ h0).1];exact h0⟩
theorem Kp.mono {B B':Nat}{w w':World}(h:Kp B w w')(hB:B'≤B):Kp B' w w':=⟨h.1.mono hB,h.2⟩
def Kb (B:Nat)(w w':World):Prop :=
 Below B w w'∧∀ (k:Nat) (cs:Array Value) (T:TypeId) (fr:Nat × Nat),w.heap[k]?=some (.cells cs T fr)→T≠245→T≠134→w'.heap[k]?=some (.cells cs T fr)
theorem Kb.kp {B:Nat}{w w':World}(h:Kb B w w'):Kp B w w':=⟨h.1,fun k cs T fr h0 _ h2 h3=>h.2 k cs T fr h0 h2 h3⟩
theorem Kb.refl (B:Nat)(w:World):Kb B w w:=⟨Below.refl _ _,fun _ _ _ _ h _ _=>h⟩
theorem Kb.trans {B:Nat}{a b c:World}(h:Kb B a b)(k:Kb B b c):Kb B a c:=⟨h.1.trans k.1,fun n cs T fr h0 h1 h2=>k.2 n cs T fr (h.2 n cs T fr h0 h1 h2) h1 h2⟩
theorem Kb.of {B:Nat}{w w':World}(h:Below w.heap.size w w')(hB:B≤w.heap.size):Kb B w w' :=
 ⟨h.mono hB,fun k cs T fr h0 _ _=>by rw[h.block k (bQ h0).1];exact h0⟩
theorem dS.kept {B:Nat}{w w':World}{v:Value}{ks:List Int}(h:dS w v ks)(hk:Kp B w w'):dS w' v ks:=by
 obtain⟨ao,cap,hv,hc,hf⟩:=h;refine⟨ao,cap,hv,hc,fun h0=>?_⟩;obtain⟨b,off,cs,fr,ha,hb,hj⟩:=hf h0;exact⟨b,off,cs,fr,ha,hk.2 b cs _ fr hb (by decide) (by decide) (by decide),hj⟩
def aco (R:List Nat)(v:Value):Prop:=∀ b off n cap,v=.slice (some ⟨b,off,none⟩) n cap→0<n→b ∉ R
def oN (R:List Nat)(w:World)(v:Value)(ks:List Int):Prop:=dS w v ks∧aco R v
theorem oN.kept {R:List Nat}{B:Nat}{w w':World}{v:Value}{ks:List Int}(h:oN R w v ks)(hk:Kp B w w'):oN R w' v ks:=⟨h.1.kept hk,h.2⟩
theorem iD {w:World}{base e sz n:Nat}{v:Value}{xs:List Value}(h:w.ownsRow base e sz v n xs){a:Addr}(hne:some a.block≠v.ownBlock)(u:Value):(w.setCell a u).ownsRow base e sz v n xs:=by
 refine⟨h.1,?_⟩
 rcases h.2 with hn|⟨g,cap,cur,hv,hg,hh,hr⟩
 ·exact .inl hn
 ·refine .inr ⟨g,cap,cur,hv,hg,?_,hr⟩
  rw[heap_setCell_other]
  ·exact hh
  ·intro q
   exact hne (by rw[← q,hv];rfl)
def uU (p:Nd × Value):List Value:=[.int .i64 p.1.kind,.int .i64 p.1.tok,p.2]
theorem Kl (p:Nd × Value):(uU p).length=3:=rfl
def BW (R:List Nat)(B bb:Nat)(tv:Value)(used:Nat)(nodes:List Nd)(w:World):Prop :=
 B≤bb∧∃ (nv:Value) (l:List (Nd × Value)),w.heap[bb]?=some (.cells #[tv,nv,.int .i64 used] 245 (0,0))∧l.map Prod.fst=nodes ∧
  w.ownsRow B 134 3 nv nodes.length (l.flatMap uU)∧∀ p∈l,oN R w p.2 p.1.kids
structure aW where
 R:List Nat
 B:Nat
 pb:Nat
 bb:Nat
 tv:Value
 toks:List Tok
 depth:Nat
def PW (E:aW)(st:aB)(w:World):Prop :=
 w.heap[E.pb]?=some (.cells #[.pointer (some ⟨E.bb,0,none⟩),.int .i64 E.depth,.bool st.clause,.int .i64 st.fE,.int .i64 st.YL] 188 (0,0)) ∧
  BW E.R E.B E.bb E.tv st.used st.nodes w∧Rec E.B w E.tv 4 bK E.toks∧E.B≤E.pb∧st.used≤E.toks.length∧∀ r∈E.R,r<w.heap.size
theorem BW.later {R:List Nat}{B bb:Nat}{tv:Value}{used:Nat}{nodes:List Nd}{w w':World}(h:BW R B bb tv used nodes w)(hb:Below w.heap.size w w'):BW R B bb tv used nodes w':=by
 obtain⟨h1,nv,l,h2,h3,h4,h5⟩:=h;refine⟨h1,nv,l,?_,h3,own_below h4 hb,fun p hp=>(h5 p hp).kept (Kp.of hb (Nat.le_refl _))⟩;rw[hb.block bb (bQ h2).1];exact h2
theorem PW.later {E:aW}{st:aB}{w w':World}(h:PW E st w)(hb:Below w.heap.size w w'):PW E st w':=by
 obtain⟨h1,h2,h3,h4,h5⟩:=h;refine⟨?_,h2.later hb,?_,h4,h5.1,fun r hr=>Nat.lt_of_lt_of_le (h5.2 r hr) hb.size⟩
 ·rw[hb.block E.pb (bQ h1).1];exact h1
 ·have hlt:=(bQ h1).1
  exact h3.below (hb.mono (by omega))
theorem PW.lt {E:aW}{st:aB}{w:World}(h:PW E st w):E.pb<w.heap.size:=(bQ h.1).1
theorem PW.dX {E:aW}{st:aB}{w:World}(h:PW E st w):E.B≤w.heap.size:=by have:=h.lt;have:=h.2.2.2.1;omega
theorem BW.lt {R:List Nat}{B bb:Nat}{tv:Value}{used:Nat}{nodes:List Nd}{w:World}(h:BW R B bb tv used nodes w):bb<w.heap.size:=by
 obtain⟨_,nv,l,h2,_⟩:=h;exact(bQ h2).1
def Vk (R:List Nat)(B bb:Nat)(tv:Value)(r:Int)(used:Nat)(nodes:List Nd)(w:World)(e:Ending)(w':World):Prop :=
 e=.returned (.int .i64 r)∧BW R B bb tv used nodes w'∧Kb B w w'
theorem Km (tv:Value)(ao:Option Addr)(n cap:Nat)(w:World)(hn:n≤1099511627776) :
  Calls Tryz.prog 66 #[.agg #[tv,.slice ao n cap]] w fun e w'=>e=.returned (.int .i64 ((n:Int) - 1))∧Below w.heap.size w w':=by
 go_enter Tryz.func66,Tryz.ntmps66;go_wp2;go_ret;exact⟨rfl,(Below.refl _ _).alloc (Nat.le_refl _) _⟩
theorem Qy (R:List Nat)(B bb:Nat)(tv:Value)(used:Nat)(nodes:List Nd)(kind tok:Int)(kv:Value)(ks:List Int)(w:World)(hb:BW R B bb tv used nodes w)(hk:oN R w kv ks)(hn:nodes.length+1≤1099511627776) :
  Calls Tryz.prog 232 #[.pointer (some ⟨bb,0,none⟩),.agg #[.int .i64 kind,.int .i64 tok,kv]] w (Vk R B bb tv (nodes.length:Nat) used (nodes++[⟨kind,tok,ks⟩]) w):=by
 obtain⟨i0,hi,hz0,hz1,hz2⟩:=info_parts Tryz.Kk;obtain⟨h1,nv,l,h2,h3,h4,h5⟩:=hb;have hlt:=(bQ h2).1;have HI:=ah hk;obtain⟨aok,ad8,rfl,_,_⟩:=hk.1;generalize hkv:Value.slice aok ks.length ad8=kv at HI
 have hone:kv.oneCell'=true:=by rw[← hkv];rfl
 clear hkv
 obtain⟨ao,cap,rfl,_⟩:∃ ao cap,nv=.slice ao nodes.length cap∧True:=by
  rcases h4.2 with ⟨hv,hn0⟩|⟨g,cap,cur,hv,_⟩
  ·exact⟨none,0,by rw[hv,hn0],trivial⟩
  ·exact⟨_,cap,hv,trivial⟩
 have c0:w.cell? ⟨bb,0,none⟩=some tv:=by rw[Lib.cell_of_heap h2];rfl
 have c1:w.cell? ⟨bb,1,none⟩=some (.slice ao nodes.length cap):=by rw[Lib.cell_of_heap h2];rfl
 have hal:=(Below.refl w.heap.size w).alloc (Nat.le_refl _) (.cells #[.int .i64 kind,.int .i64 tok,kv] 134);have d0:=cell_later hal c0;have d1:=cell_later hal c1
 have hz:(w.alloc (.cells #[.int .i64 kind,.int .i64 tok,kv] 134)).frozen? ⟨bb,1,none⟩=false:=by
  simp[World.frozen?,(Lib.alloc_old w _ bb hlt).trans h2]
 go_enter Tryz.func232,Tryz.ntmps232;go_wp2;have nq:=heap_alloc_new w (.cells #[.int .i64 kind,.int .i64 tok,kv] 134)
 have e0:(w.alloc (.cells #[.int .i64 kind,.int .i64 tok,kv] 134)).cell? ⟨w.heap.size,0,none⟩=some (.int .i64 kind):=by rw[Lib.cell_of_heap nq];rfl
 have e1:(w.alloc (.cells #[.int .i64 kind,.int .i64 tok,kv] 134)).cell? ⟨w.heap.size,1,none⟩=some (.int .i64 tok):=by rw[Lib.cell_of_heap nq];rfl
 have e2:(w.alloc (.cells #[.int .i64 kind,.int .i64 tok,kv] 134)).cell? ⟨w.heap.size,2,none⟩=some kv:=by rw[Lib.cell_of_heap nq];rfl
 have hown:=h4.alloc (.cells #[.int .i64 kind,.int .i64 tok,kv] 134);have hbb:=(Lib.alloc_old w (.cells #[.int .i64 kind,.int .i64 tok,kv] 134) bb hlt).trans h2;have hne:=own_ne hown hbb (by decide)
 have hzq:(w.alloc (.cells #[.int .i64 kind,.int .i64 tok,kv] 134)).heap.size=w.heap.size+1:=by simp
 have hBw:B≤w.heap.size:=by omega
 generalize w.alloc (.cells #[.int .i64 kind,.int .i64 tok,kv] 134)=wq at e0 e1 e2 hown hbb hne hzq hal d0 d1 hz ⊢
 have acp:B≤wq.heap.size:=by omega
 have acr:bb<wq.heap.size:=by omega
 have hzz:∀ o,(wq.alloc o).drew.frozen? ⟨bb,1,none⟩=false:=fun o=>by
  have:(wq.alloc o).drew.heap[bb]?=some (.cells #[tv,.slice ao nodes.length cap,.int .i64 used] 245 (0,0)):=(Lib.alloc_old wq o bb acr).trans hbb;simp[World.frozen?,this]
 have hzg:w.heap.size<wq.heap.size:=by omega
 have hne2:some w.heap.size≠(Value.slice ao nodes.length cap).ownBlock:=fun q=>by have:=(h4.lt w.heap.size q.symm).2;omega
 have Cc:Hid (∀ u∈[Value.int .i64 kind,.int .i64 tok,kv],u.oneCell'=true):=ah (by
  intro u hu;simp only[List.mem_cons,List.not_mem_nil,or_false] at hu
  rcases hu with rfl|rfl|rfl
  ·rfl
  ·rfl
  ·exact hone)
 have hcc:∀ o,(wq.alloc o).drew.cell? ⟨bb,1,none⟩=some (.slice ao nodes.length cap):=fun o=>by
  have:(wq.alloc o).drew.heap[bb]?=some (.cells #[tv,.slice ao nodes.length cap,.int .i64 used] 245 (0,0)):=(Lib.alloc_old wq o bb acr).trans hbb;rw[Lib.cell_of_heap this];rfl
 clear nq c0 c1 hzq
 go_region_law ((refine step_append_lies _ (by rfl) _ _ _ (by rfl) B 134 i0 _ 3 40 Tryz.underlying87 hi hz0 hz1 hz2 rfl (by omega) (.slice ao nodes.length cap) nodes.length _ (by rfl) (oq (hown.alloc _)) ⟨wq.heap.size,0,none⟩ 1 1 [.int .i64 kind,.int .i64 tok,kv] (by rfl) (by rfl) (World.news_of_block (cs:=#[.int .i64 kind,.int .i64 tok,kv]) (t:=134) (fr:=(0,0)) (heap_alloc_new wq _)) (Cc.out) (by omega) (by unfold maxLen;omega) (by omega) (by simp;omega) (wq.heap.size+1) (by simp) ?_;intro gg cap5 w5 hown5 gq xM Kn;have Qz:=(gq.frozen_far ⟨bb,1,none⟩ (by simp;omega) hne).trans (hzz _);have hc5:=(gq.cell_far ⟨bb,1,none⟩ (by simp;omega) hne).trans (hcc _)))
 all_goals
  have NS:Below B w w5:=(((Below.refl _ _).mono hBw).trans (hal.mono hBw)).trans ((((Below.refl wq.heap.size wq).mono acp).alloc acp (.cells #[.int .i64 kind,.int .i64 tok,kv] 134)).drew.grown gq (by simp;omega) (fun q hq=>(hown.lt q hq).1))
  have hkb:∀ (k:Nat) (cs:Array Value) (T:TypeId) (fr:Nat × Nat),w.heap[k]?=some (.cells cs T fr)→T≠134→w5.heap[k]?=some (.cells cs T fr):=fun k cs T fr h0 h1=>by
   have hk:=(bQ h0).1
   have h2:wq.heap[k]?=some (.cells cs T fr):=by rw[hal.block k hk];exact h0
   exact gZ (oq (hown.alloc _)) gq ((Lib.alloc_old wq _ k (by omega)).trans h2) h1
  have Vl:=hkb bb _ _ _ h2 (by decide)
  have hc0:w5.cell? ⟨bb,0,none⟩=some tv:=by rw[Lib.cell_of_heap Vl];rfl
  have h5':=fun p hp=>(h5 p hp)
  have H4:=ah hown5;clear gq hown5 xM d0 d1 e0 e1 e2 hzz hcc hz hone h4 hown;go_wp2;go_ret;generalize Value.slice (some ⟨gg,0,none⟩) (nodes.length+1) cap5=nv5 at H4 ⊢;have acs:bb<w5.heap.size:=(bQ Vl).1
  have aa0:Kb B w ((w5.setCell ⟨bb,1,none⟩ nv5).alloc (.cells #[tv,nv5] 89)):=by
   refine⟨(NS.setCell h1 _).alloc (by have:=NS.size;simp;omega) _,fun k cs T fr h0 q1 q2=>?_⟩;have r1:=hkb k cs T fr h0 q2;have hk5:=(bQ r1).1;rw[Lib.alloc_old _ _ k (by simpa using hk5),heap_setCell_other]
   ·exact r1
   ·show k≠bb
    rintro rfl;rw[Vl] at r1;simp only[Option.some.injEq,Obj.cells.injEq] at r1;exact q1 r1.2.1.symm
  refine⟨kg (by omega),⟨h1,nv5,l++[(⟨kind,tok,ks⟩,kv)],?_,by simp[h3],?_,?_⟩,aa0⟩
  ·rw[Lib.alloc_old _ _ bb (by simpa using acs),heap_setCell_same w5 bb 1 _ _ _ Vl]
   rfl
  ·rw[List.flatMap_append,bC]
   exact(iD H4.out (own_ne H4.out Vl (by decide)) nv5).alloc _
  ·intro p hp
   rcases List.mem_append.1 hp with hp|hp
   ·exact(h5 p hp).kept aa0.kp
   ·rw[List.mem_singleton] at hp
    subst hp;exact HI.out.kept aa0.kp
end Go.Proofs.YtknicmmigbhpcaaGreatDoor
