/- Walks and plain laws: LexW3, LexW4, LexSigns, LexW5, LexInfo, LexW6, LexFacts. -/
import Derived.Test.YtknicmmigbhpcaaGreatDoorF02
import Derived.Great.BuildSlice
import Derived.Deep.WholeRow
import Derived.KernelRfl
set_option maxHeartbeats 16000000
set_option maxRecDepth 100000
set_option linter.unusedVariables false
set_option linter.unusedSimpArgs false
namespace Go.Proofs.YtknicmmigbhpcaaGreatDoor
open Go.RowKit
def Qc (s:ByteArray)(t:Nat × Nat × Nat):Value:=.tuple #[.int .i64 t.1,.string (s.extract 0 t.2.1),.int .i64 t.2.2]
theorem jV {s:ByteArray}{t:Nat × Nat × Nat}{a b:Int}{x:ByteArray}(h1:a=t.1)(h2:x=s.extract 0 t.2.1)(h3:b=t.2.2):Ending.returned (.tuple #[.int .i64 a,.string x,.int .i64 b])=.returned (Qc s t):=by
 rw[h1,h2,h3];rfl
theorem rZ (s:ByteArray):(⟨#[]⟩:ByteArray)=s.extract 0 0:=pW (by rw[gL];rfl)
theorem ext_size (s:ByteArray)(k:Nat)(h:k≤s.size):(s.extract 0 k).size=k:=by rw[ByteArray.size_extract];omega
theorem take_takeWhile (p:UInt8→Bool)(T:List UInt8):T.take (T.takeWhile p).length=T.takeWhile p:=by
 obtain⟨r,hr⟩:=List.takeWhile_prefix (p:=p) (l:=T)
 conv=>lhs;arg 2;rw[← hr]
 simp
theorem Tw (p:UInt8→Bool)(s:ByteArray):kE p s≤s.size:=by rw[Lib.size_eq];exact jL p _
theorem Jf (p:UInt8→Bool)(s:ByteArray):(s.extract 0 (kE p s)).data.toList=s.data.toList.takeWhile p:=by
 rw[gL,List.drop_zero,kE,take_takeWhile]
theorem L9 (s:ByteArray)(w:World)(hs:s.size≤1099511627776) :
  Calls Tryz.prog 199 #[.string s] w fun e w'=>e=.returned (Qc s (nP s.data.toList))∧w'=w:=by
 have hr:=Tw aL s;have hn:=Jf aL s;have hz:=ext_size s _ hr;have HR:=ah (Qa s w hs)
 by_cases Gy:60<kE aL s
 ·have hq:nP s.data.toList=(0,0,21):=by rw[nP,if_pos (.inl Gy)]
  have HQ:=ah hq;generalize hy:s.extract 0 (kE aL s)=y at HR hz
  have hI:(60:Int) < ↑y.size:=by omega
  have hD:decide ((60:Int) < ↑y.size)=true:=decide_eq_true hI;clear hq hn hz;go_enter Tryz.func199,Tryz.ntmps199;go_wp2_with (go_at_call 254;refine HR.out.mono ?_;rintro e w1 ⟨rfl,rfl⟩);go_ret3
  refine⟨jV (t:=nP s.data.toList) ?_ ?_ ?_,rfl⟩<;>rw[HQ.out]
  ·rfl
  ·exact rZ s
  ·rfl
 ·by_cases h1:1<kE aL s
  ·have h0:0<(s.extract 0 (kE aL s)).size:=by omega
   generalize hy:s.extract 0 (kE aL s)=y at HR hz hn h0;have hb:=Aw h0;rw[hn] at hb
   have hI:¬ (60:Int) < ↑y.size:=by omega
   have hD:decide ((60:Int) < ↑y.size)=false:=decide_eq_false hI
   have hI1:(1:Int) < ↑y.size:=by omega
   have hD1:decide ((1:Int) < ↑y.size)=true:=decide_eq_true hI1
   by_cases hc:(y[0]'h0)=48
   ·have hq:nP s.data.toList=(0,0,21):=by rw[nP,if_pos (.inr ⟨h1,by rw[hb,hc]⟩)]
    have hE:(((y[0]'h0).toNat:Int) == 48)=true:=by rw[hc];rfl
    have HQ:=ah hq;clear hq hn hb hc hz;go_enter Tryz.func199,Tryz.ntmps199;go_wp2_with (go_at_call 254;refine HR.out.mono ?_;rintro e w1 ⟨rfl,rfl⟩);go_ret3
    refine⟨jV (t:=nP s.data.toList) ?_ ?_ ?_,rfl⟩<;>rw[HQ.out]
    ·rfl
    ·exact rZ s
    ·rfl
   ·have hq:nP s.data.toList=(3,kE aL s,0):=by
     rw[nP,if_neg]
     ·rfl
     ·rintro(h|⟨_,h⟩)
      ·exact Gy h
      ·rw[hb] at h;injection h with h;exact hc h
    have hE:(((y[0]'h0).toNat:Int) == 48)=false:=by
     rw[← Bool.not_eq_true,beq_iff_eq];intro h;exact hc (UInt8.toNat_inj.1 (by show _=48;omega))
    have HQ:=ah hq;have HY:=ah hy;clear hq hn hb hc hy hz;go_enter Tryz.func199,Tryz.ntmps199;go_wp2_with (go_at_call 254;refine HR.out.mono ?_;rintro e w1 ⟨rfl,rfl⟩);go_ret3
    refine⟨jV (t:=nP s.data.toList) ?_ ?_ ?_,rfl⟩<;>rw[HQ.out]
    ·rfl
    ·exact HY.out.symm
    ·rfl
  ·have hq:nP s.data.toList=(3,kE aL s,0):=by
    rw[nP,if_neg]
    ·rfl
    ·rintro(h|⟨h,_⟩)
     ·exact Gy h
     ·exact h1 h
   generalize hy:s.extract 0 (kE aL s)=y at HR hz
   have hI:¬ (60:Int) < ↑y.size:=by omega
   have hD:decide ((60:Int) < ↑y.size)=false:=decide_eq_false hI
   have hI1:¬ (1:Int) < ↑y.size:=by omega
   have hD1:decide ((1:Int) < ↑y.size)=false:=decide_eq_false hI1;have HQ:=ah hq;have HY:=ah hy;clear hq hn hy hz;go_enter Tryz.func199,Tryz.ntmps199;go_wp2_with (go_at_call 254;refine HR.out.mono ?_;rintro e w1 ⟨rfl,rfl⟩);go_ret3
   refine⟨jV (t:=nP s.data.toList) ?_ ?_ ?_,rfl⟩<;>rw[HQ.out]
   ·rfl
   ·exact HY.out.symm
   ·rfl
theorem Tx (w:World):Calls Tryz.prog 256 #[] w fun e w'=>e=.returned (.agg #[.string ⟨#[97,115,115,101,114,116]⟩,.string ⟨#[98,111,111,108]⟩,.string ⟨#[101,108,115,101]⟩,.string ⟨#[102,97,108,115,101]⟩,.string ⟨#[102,117,110]⟩,.string ⟨#[105,102]⟩,.string ⟨#[105,109,112,111,114,116]⟩,.string ⟨#[105,110]⟩,.string ⟨#[105,110,116]⟩,.string ⟨#[108,101,116]⟩,.string ⟨#[110,111,116]⟩,.string ⟨#[112,117,98]⟩,.string ⟨#[114,101,115]⟩,.string ⟨#[116,104,101,110]⟩,.string ⟨#[116,114,117,101]⟩])∧Below w.heap.size w w':=by
 go_enter Tryz.func256,Tryz.ntmps256;go_wp2;refine bodyPost_ret (v:=.agg #[.string ⟨#[97,115,115,101,114,116]⟩,.string ⟨#[98,111,111,108]⟩,.string ⟨#[101,108,115,101]⟩,.string ⟨#[102,97,108,115,101]⟩,.string ⟨#[102,117,110]⟩,.string ⟨#[105,102]⟩,.string ⟨#[105,109,112,111,114,116]⟩,.string ⟨#[105,110]⟩,.string ⟨#[105,110,116]⟩,.string ⟨#[108,101,116]⟩,.string ⟨#[110,111,116]⟩,.string ⟨#[112,117,98]⟩,.string ⟨#[114,101,115]⟩,.string ⟨#[116,104,101,110]⟩,.string ⟨#[116,114,117,101]⟩]) (results_cell_row rfl _ _ w.heap.size 306 _ (0,0) _ rfl (heap_alloc_new _ _) Tryz.underlying306 rfl (by kernel_rfl)) rfl ⟨rfl,(Below.refl _ _).alloc (Nat.le_refl _) _⟩
def zL (x:ByteArray)(j:Nat):ByteArray:=if j<15 then ⟨(pE.getD j []).toArray⟩ else x
theorem Qd:∀ j:Fin 15,Lib.bsGo (fun t=>Op.bytesLess (if t<15 then pE.getD t [] else pE.getD j []) (pE.getD j [])) 15 0 15=j:=by decide
theorem uZ (x:ByteArray)(j:Nat):(zL x j).data.toList=if j<15 then pE.getD j [] else x.data.toList:=by
 unfold zL
 split<;>rfl
theorem Qe (x:ByteArray):∀ j,j<15→(#[.string ⟨#[97,115,115,101,114,116]⟩,.string ⟨#[98,111,111,108]⟩,.string ⟨#[101,108,115,101]⟩,.string ⟨#[102,97,108,115,101]⟩,.string ⟨#[102,117,110]⟩,.string ⟨#[105,102]⟩,.string ⟨#[105,109,112,111,114,116]⟩,.string ⟨#[105,110]⟩,.string ⟨#[105,110,116]⟩,.string ⟨#[108,101,116]⟩,.string ⟨#[110,111,116]⟩,.string ⟨#[112,117,98]⟩,.string ⟨#[114,101,115]⟩,.string ⟨#[116,104,101,110]⟩,.string ⟨#[116,114,117,101]⟩]:Array Value)[0+j]?=some (.string (zL x j))
 | 0,_=>rfl
 | 1,_=>rfl
 | 2,_=>rfl
 | 3,_=>rfl
 | 4,_=>rfl
 | 5,_=>rfl
 | 6,_=>rfl
 | 7,_=>rfl
 | 8,_=>rfl
 | 9,_=>rfl
 | 10,_=>rfl
 | 11,_=>rfl
 | 12,_=>rfl
 | 13,_=>rfl
 | 14,_=>rfl
 | n+15,h=>absurd h (by omega)
theorem X9 (j:Nat)(hj:j<15):pE.getD j []∈pE:=by
 have hj0:j<pE.length:=hj;rw[List.getD_eq_getElem?_getD,List.getElem?_eq_getElem hj0,Option.getD_some];exact List.getElem_mem _
theorem Qf (x:ByteArray):decide (Lib.bsGo (fun t=>Op.bytesLess (zL x t).toList x.toList) 15 0 15<15∧zL x (Lib.bsGo (fun t=>Op.bytesLess (zL x t).toList x.toList) 15 0 15)=x)=decide (x.data.toList∈pE):=by
 simp only[Lib.toList_data,uZ]
 by_cases h:x.data.toList∈pE
 ·obtain⟨j,hj0,e⟩:=List.mem_iff_getElem.1 h
  have ek:pE.getD j []=x.data.toList:=by rw[List.getD_eq_getElem?_getD,List.getElem?_eq_getElem hj0,Option.getD_some,e]
  have hj:j<15:=hj0;have hk:=Qd ⟨j,hj⟩;simp only[ek] at hk;rw[hk,decide_eq_true h,decide_eq_true];refine⟨hj,pW ?_⟩;rw[uZ,if_pos hj,ek]
 ·rw[decide_eq_false h,decide_eq_false]
  rintro⟨hb,e⟩
  apply h
  rw[← e,uZ,if_pos hb];exact X9 _ hb
def Tz (x:ByteArray)(w:World)(e:Ending)(w':World):Prop :=
 (∃ n:Nat,e=.returned (.tuple #[.int .i64 n,.bool (decide (x.data.toList∈pE))]))∧Below w.heap.size w w'
theorem Ma (b:Nat)(x:ByteArray)(w:World)(hc:∀ j,j<15→w.cell? ⟨b,0+j,none⟩=some (.string (zL x j))) :
  Calls Tryz.prog 92 #[.slice (some ⟨b,0,none⟩) 15 15,.string x] w (Tz x w):=by
 refine(Any2.slices_BinarySearch_string Tryz.A8 b 0 15 15 (zL x) x w (by decide) hc).mono ?_;rintro e w' ⟨rfl,q,rfl⟩;rw[Qf];exact⟨⟨_,rfl⟩,below_drewN (Below.refl _ _) _⟩
theorem TA (s:ByteArray)(w:World)(hs:s.size≤1099511627776) :
  Calls Tryz.prog 197 #[.string s] w fun e w'=>e=.returned (Qc s (lC s.data.toList))∧Below w.heap.size w w':=by
 have hr:=Tw aV s;have hn:=Jf aV s;have hz:=ext_size s _ hr;have HR:=ah (LZ s w hs)
 by_cases XE:40<kE aV s
 ·have hq:lC s.data.toList=(0,0,20):=by unfold lC;exact if_pos XE
  have HQ:=ah hq;generalize hy:s.extract 0 (kE aV s)=y at HR hz
  have hI:(40:Int) < ↑y.size:=by omega
  clear hq hn hz;go_enter Tryz.func197,Tryz.ntmps197;go_wp2_with (go_at_call 254;refine HR.out.mono ?_;rintro e w1 ⟨rfl,rfl⟩);go_ret3
  refine⟨jV (t:=lC s.data.toList) ?_ ?_ ?_,Below.refl _ _⟩<;>rw[HQ.out]
  ·rfl
  ·exact rZ s
  ·rfl
 ·have hq:lC s.data.toList=(if s.data.toList.takeWhile aV∈pE then (2,kE aV s,0) else (1,kE aV s,0)):=by unfold lC;exact if_neg XE
  have HQ:=ah hq;generalize hy:s.extract 0 (kE aV s)=y at HR hz hn;have HY:=ah hy;have HN:=ah hn
  have hI:¬ (40:Int) < ↑y.size:=by omega
  clear hq hn hy hz;go_enter Tryz.func197,Tryz.ntmps197;go_wp2_with (first|(go_at_call 254;refine HR.out.mono ?_;rintro e w1 ⟨rfl,rfl⟩)|(go_at_call 256;refine(Tx _).mono ?_;rintro e w2 ⟨rfl,hb⟩)|(go_at_call 92;refine(Ma _ y _ ?c1).mono ?_))
  case c1 =>
   intro j hj;rw[Lib.cell_of_heap (heap_alloc_new _ _)];exact Qe y j hj
  rintro e w3 ⟨⟨n,rfl⟩,hb3⟩;have hbb:=(hb.alloc hb.size _).trans (hb3.mono (by have:=hb.size;simp;omega))
  cases hk:decide (y.data.toList∈pE) with
  | true =>
   have HK:=ah hk;clear hk;go_wp2;go_ret3
   refine⟨jV (t:=lC s.data.toList) ?_ ?_ ?_,hbb⟩<;>rw[HQ.out,if_pos (by rw[← HN.out];exact of_decide_eq_true HK.out)]
   ·rfl
   ·exact HY.out.symm
   ·rfl
  | false =>
   have HK:=ah hk;clear hk;go_wp2;go_ret3
   refine⟨jV (t:=lC s.data.toList) ?_ ?_ ?_,hbb⟩<;>rw[HQ.out,if_neg (by rw[← HN.out];exact of_decide_eq_false HK.out)]
   ·rfl
   ·exact HY.out.symm
   ·rfl
def Jg:Array Value:=(iF.map fun x=>Value.string ⟨x.toArray⟩).toArray
theorem Qg (w:World):Calls Tryz.prog 200 #[] w fun e w'=>e=.returned (.agg Jg)∧Below w.heap.size w w':=by
 go_enter Tryz.func200,Tryz.ntmps200
 apply wp_seq_k
 intro K0 hK0;have HK:=ah hK0;clear hK0;go_wp2
 apply HK.out
 apply wp_seq_k
 intro K1 hK1
 apply wp_region_lit
 refine wpList_buildTo rfl 269 _ rfl (some 1) rfl Jg (by kernel_rfl) ?_;refine wpList_store_rowTo rfl 269 _ _ rfl rfl w.heap.size Jg rfl rfl 269 _ (heap_alloc_new _ _) (by kernel_rfl) (by decide) (by kernel_rfl) ?_;rw[World.setRow_alloc_new]
 apply wpList_nil
 apply hK1
 go_wp2;refine bodyPost_ret (v:=.agg Jg) (results_cell_row rfl _ _ w.heap.size 269 _ (0,0) _ rfl (heap_alloc_new _ _) Tryz.underlying269 rfl (by kernel_rfl)) rfl ⟨rfl,(Below.refl _ _).alloc (Nat.le_refl _) _⟩
theorem head_cons {s:ByteArray}(h:0<s.size):∃ r,s.data.toList=(s[0]'h) :: r:=by
 have hb:=Aw h
 cases hq:s.data.toList with
 | nil=>rw[hq] at hb;cases hb
 | cons c r =>
  rw[hq] at hb
  injection hb with hb
  rw[← hb];exact⟨r,rfl⟩
def yH (k:Nat):ByteArray:=⟨(iF.getD k []).toArray⟩
theorem EG (T:List UInt8):∀ (l:List (List UInt8)) (k:Nat),k<l.length→(∀ j,j<k→Lib.hasPrefix T (l.getD j [])=false)→Lib.hasPrefix T (l.getD k [])=true→l.find? (fun x=>x.isPrefixOf T)=some (l.getD k [])
 | [],k,hk,_,_=>absurd hk (by simp)
 | x :: l,0,_,_,h=>by
  have h:x.isPrefixOf T=true:=h;simp[h]
 | x :: l,k+1,hk,hj,h=>by
  have h0:x.isPrefixOf T=false:=hj 0 (by omega);have:=EG T l k (by simpa using hk) (fun j hjk=>by simpa using hj (j+1) (by omega)) (by simpa using h);simp only[List.find?_cons,h0]
  simpa using this
theorem Qh (T:List UInt8)(l:List (List UInt8))(hj:∀ j,j<l.length→Lib.hasPrefix T (l.getD j [])=false):l.find? (fun x=>x.isPrefixOf T)=none:=by
 rw[List.find?_eq_none];intro x hx;obtain⟨j,hjl,e⟩:=List.mem_iff_getElem.1 hx;have:=hj j hjl;rw[List.getD_eq_getElem?_getD,List.getElem?_eq_getElem hjl,Option.getD_some,e] at this;intro h;rw[Lib.hasPrefix] at this;rw[this] at h;cases h
theorem Mc:∀ k:Nat,k<22→∀ w:World,(Instr.index 269 (.agg Jg) (.int .i64 k)).run Tryz.prog w=.ok (.string (yH k)) w
 | 0,_=>fun _=>by kernel_rfl
 | 1,_=>fun _=>by kernel_rfl
 | 2,_=>fun _=>by kernel_rfl
 | 3,_=>fun _=>by kernel_rfl
 | 4,_=>fun _=>by kernel_rfl
 | 5,_=>fun _=>by kernel_rfl
 | 6,_=>fun _=>by kernel_rfl
 | 7,_=>fun _=>by kernel_rfl
 | 8,_=>fun _=>by kernel_rfl
 | 9,_=>fun _=>by kernel_rfl
 | 10,_=>fun _=>by kernel_rfl
 | 11,_=>fun _=>by kernel_rfl
 | 12,_=>fun _=>by kernel_rfl
 | 13,_=>fun _=>by kernel_rfl
 | 14,_=>fun _=>by kernel_rfl
 | 15,_=>fun _=>by kernel_rfl
 | 16,_=>fun _=>by kernel_rfl
 | 17,_=>fun _=>by kernel_rfl
 | 18,_=>fun _=>by kernel_rfl
 | 19,_=>fun _=>by kernel_rfl
 | 20,_=>fun _=>by kernel_rfl
 | 21,_=>fun _=>by kernel_rfl
 | n+22,h=>absurd h (by omega)
theorem Jh (k:Nat):(yH k).data.toList=iF.getD k []:=rfl
theorem TB:iF.length=22:=rfl
theorem Qi (s:ByteArray)(w:World)(hs:s.size≤1099511627776) :
  Calls Tryz.prog 125 #[.string s] w fun e w'=>e=.returned (Qc s (dY s.data.toList))∧Below w.heap.size w w':=by
 by_cases h0:0<s.size
 ·obtain⟨r,hr⟩:=head_cons h0
  have hI:(0:Int) < ↑s.size:=by omega
  have he:s.toList.isEmpty=false:=by rw[qN];exact decide_eq_false (by omega)
  generalize hc:(s[0]'h0)=c at hr
  by_cases hl:dG c=true
  ·have hl':dG (s[0]'h0)=true:=by rw[hc];exact hl
   have hq:dY s.data.toList=lC s.data.toList:=by rw[hr,dY,if_pos hl]
   have HQ:=ah hq;have HW:=ah (TA s);clear hq hr hc hl;go_enter Tryz.func125,Tryz.ntmps125;go_wp2_with (first|(go_at_call 196;refine(qO _ _).mono ?_;rintro e w1 ⟨rfl,rfl⟩)|(go_at_call 197;refine(HW.out _ hs).mono ?_;rintro e w1 ⟨he,hb⟩;rw[Qc] at he;subst he));go_ret3
   refine⟨jV (t:=dY s.data.toList) ?_ ?_ ?_,hb⟩<;>rw[HQ.out]
  ·have hl':dG (s[0]'h0)=false:=by rw[hc];simpa using hl
   by_cases hd:aL c=true
   ·have hd':aL (s[0]'h0)=true:=by rw[hc];exact hd
    have hq:dY s.data.toList=nP s.data.toList:=by rw[hr,dY,if_neg hl,if_pos hd]
    have HQ:=ah hq;have HW:=ah (L9 s);clear hq hr hc hl hd;go_enter Tryz.func125,Tryz.ntmps125;go_wp2_with (first|(go_at_call 196;refine(qO _ _).mono ?_;rintro e w1 ⟨rfl,rfl⟩)|(go_at_call 198;refine(pY _ _).mono ?_;rintro e w1 ⟨rfl,rfl⟩)|(go_at_call 199;refine(HW.out _ hs).mono ?_;rintro e w1 ⟨he,rfl⟩;rw[Qc] at he;subst he));go_ret3
    refine⟨jV (t:=dY s.data.toList) ?_ ?_ ?_,Below.refl _ _⟩<;>rw[HQ.out]
   ·have hd':aL (s[0]'h0)=false:=by rw[hc];simpa using hd
    have hq:dY s.data.toList=Aj s.data.toList:=by rw[hr,dY,if_neg hl,if_neg hd]
    have HQ:=ah hq;clear hq hr hc hl hd;go_enter Tryz.func125,Tryz.ntmps125;go_wp2_with (first|(go_at_call 196;refine(qO _ _).mono ?_;rintro e w1 ⟨rfl,rfl⟩)|(go_at_call 198;refine(pY _ _).mono ?_;rintro e w1 ⟨rfl,rfl⟩)|(go_at_call 200;refine(Qg _).mono ?_;rintro e w1 ⟨rfl,hb⟩))
    go_loop [6,29] (fun x n=>∃ k:Nat,n=.int .i64 k∧k≤22∧∀ j,j<k→Lib.hasPrefix s.data.toList (iF.getD j [])=false) (fun _ n=>22 - (intOf n).toNat)
    case atStart=>exact⟨0,rfl,by omega,fun j hj=>absurd hj (by omega)⟩
    case round =>
     obtain⟨k,rfl,hk,hj⟩:=hrel;have HJ:=ah hj;have HP:=ah (Tryz.strings_HasPrefix s);clear hj
     by_cases hlt:k<22
     ·have hi:(k:Int)<22:=by omega
      have hx:=Mc k hlt
      cases hb2:Lib.hasPrefix s.data.toList (yH k).data.toList with
      | true =>
       have hf:=EG s.data.toList iF k (by rw[TB];exact hlt) HJ.out hb2
       have hq:dY s.data.toList=(4,(iF.getD k []).length,0):=by rw[HQ.out,Aj,pX,hf]
       have HB:=ah hb2;have L8:=ah hq
       have hX:yH k=s.extract 0 (iF.getD k []).length:=by
        refine pW ?_;rw[gL,List.drop_zero,Jh];exact(List.prefix_iff_eq_take.1 (List.isPrefixOf_iff_prefix.1 hb2))
       have HX:=ah hX;clear hb2 hf hq hX;go_wp2_with (go_at_call 194;refine(HP.out (yH k) _).mono ?_;rw[HB.out];rintro e w2 ⟨rfl,rfl⟩);go_ret3
       refine⟨jV (t:=dY s.data.toList) ?_ ?_ ?_,hb⟩<;>rw[L8.out]
       ·rfl
       ·exact HX.out
       ·rfl
      | false =>
       have HB:=ah hb2;clear hb2;go_wp2_with (go_at_call 194;refine(HP.out (yH k) _).mono ?_;rw[HB.out];rintro e w2 ⟨rfl,rfl⟩)
       go_round
       case rel =>
        refine⟨k+1,by go_num,by omega,fun j hj=>?_⟩
        rcases Nat.lt_or_ge j k with h|h
        ·exact HJ.out j h
        ·have:j=k:=by omega
         subst this;exact HB.out
       case measure=>simp[intOf];omega
     ·have hk2:k=22:=by omega
      subst hk2
      have hq:dY s.data.toList=(0,0,20):=by rw[HQ.out,Aj,pX,Qh _ _ (fun j hj=>HJ.out j hj)]
      have L8:=ah hq;clear hq hlt hk;go_wp2;go_ret3
      refine⟨jV (t:=dY s.data.toList) ?_ ?_ ?_,hb⟩<;>rw[L8.out]
      ·rfl
      ·exact rZ s
      ·rfl
 ·have hz:s.size=0:=by omega
  have he:s.toList.isEmpty=true:=by rw[qN];exact decide_eq_true hz
  have hn:s.data.toList=[]:=List.eq_nil_of_length_eq_zero (by rw[← Lib.size_eq];exact hz)
  have hq:dY s.data.toList=(5,0,0):=by rw[hn,dY]
  have HQ:=ah hq;clear hq hn hz h0;go_enter Tryz.func125,Tryz.ntmps125;go_wp2;go_ret3
  refine⟨jV (t:=dY s.data.toList) ?_ ?_ ?_,Below.refl _ _⟩<;>rw[HQ.out]
  ·rfl
  ·exact rZ s
  ·rfl
end Go.Proofs.YtknicmmigbhpcaaGreatDoor

namespace Go.Proofs
theorem Tryz.Qj:(Tryz.prog.info? 136).map (fun i=>(i.zero,i.size,i.bytes))=some (some (.agg #[.int .i64 0,.string ByteArray.empty,.string ByteArray.empty,.int .i64 0]),4,48):=by kernel_rfl
end Go.Proofs

namespace Go.Proofs.YtknicmmigbhpcaaGreatDoor
open Go.RowKit
def Md (acc:List Tok):Except (Nat × Nat) (List Tok)→Except (Nat × Nat) (List Tok)
 | .error e=>.error e
 | .ok l=>.ok (acc++l)
theorem TD (x:Except (Nat × Nat) (List Tok)):Md [] x=x:=by cases x<;>rfl
theorem Qk (a b:List Tok)(x:Except (Nat × Nat) (List Tok)):Md a (Md b x)=Md (a++b) x:=by
 cases x
 ·rfl
 ·simp[Md]
theorem TF (n:Nat)(T:List UInt8)(p k:Nat)(t:Nat × Nat × Nat)(hk:bJ false T=k)(ht:dY (T.drop k)=t)(he:t.2.2≠0):nQ (n+1) T p=.error (t.2.2,p+k):=by
 subst hk ht;rw[nQ];rw[if_pos he]
theorem TG (n:Nat)(T:List UInt8)(p k:Nat)(t:Nat × Nat × Nat)(hk:bJ false T=k)(ht:dY (T.drop k)=t)(he:t.2.2=0)(h5:t.1=5):nQ (n+1) T p=.ok [⟨5,T.take k,[],p+k⟩]:=by
 subst hk ht;rw[nQ];rw[if_neg (by omega),if_pos h5]
theorem Ql (n:Nat)(T:List UInt8)(p k:Nat)(t:Nat × Nat × Nat)(hk:bJ false T=k)(ht:dY (T.drop k)=t)(he:t.2.2=0)(h5:t.1≠5) :
  nQ (n+1) T p=Md [⟨t.1,T.take k,(T.drop k).take t.2.1,p+k⟩] (nQ n (T.drop (k+t.2.1)) (p+k+t.2.1)):=by
 subst hk ht;rw[nQ];rw[if_neg (by omega),if_neg h5,List.drop_drop]
 cases nQ n _ _<;>rfl
theorem Me {w:World}{g:Nat}{x y z u:Value}(h0:w.cell? ⟨g,0,none⟩=some x)(h1:w.cell? ⟨g,1,none⟩=some y)(h2:w.cell? ⟨g,2,none⟩=some z)(h3:w.cell? ⟨g,3,none⟩=some u) :
  ∀ j v,[x,y,z,u][j]?=some v→w.cell? ((⟨g,0,none⟩:Addr).add j)=some v:=by
 intro j v hj
 match j,hj with
 | 0,hj=>simp at hj;subst hj;simpa [Addr.add] using h0
 | 1,hj=>simp at hj;subst hj;simpa [Addr.add] using h1
 | 2,hj=>simp at hj;subst hj;simpa [Addr.add] using h2
 | 3,hj=>simp at hj;subst hj;simpa [Addr.add] using h3
theorem own_below {w w':World}{base e sz n:Nat}{v:Value}{xs:List Value}(h:w.ownsRow base e sz v n xs)(hb:Below w.heap.size w w'):w'.ownsRow base e sz v n xs:=by
 refine⟨h.1,?_⟩
 rcases h.2 with hn|⟨g,cap,cur,hv,hg,hh,hr⟩
 ·exact .inl hn
 ·exact .inr ⟨g,cap,cur,hv,hg,by rw[hb.block g (bG hh).1];exact hh,hr⟩
theorem Qm (T:List UInt8)(h:(dY T).1=5):(dY T).2.1=0:=by
 cases T with
 | nil=>rfl
 | cons c r =>
  exfalso
  rw[dY] at h
  split at h
  ·rw[lC] at h
   split at h
   ·cases h
   ·split at h<;>cases h
  ·split at h
   ·rw[nP] at h
    split at h<;>cases h
   ·rw[Aj] at h
    split at h<;>cases h
theorem Qn {kd pk:Nat}{l t:List UInt8}{y z:ByteArray}{a:Int}(hy:y.data.toList=l)(hz:z.data.toList=t)(ha:a=pk) :
  [Value.int .i64 kd,.string y,.string z,.int .i64 a]=bV ⟨kd,l,t,pk⟩:=by
 subst hy hz ha
 rfl
def OV (S:List UInt8)(w:World)(e:Ending)(w':World):Prop :=
 Below w.heap.size w w'∧match bW S with
 | .ok l=>∃ v,e=.returned (.tuple #[v,.agg #[.int .i64 0,.int .i64 0]])∧Rec w'.heap.size w' v 4 bV l
 | .error x=>e=.returned (.tuple #[.slice none 0 0,.agg #[.int .i64 x.1,.int .i64 x.2]])
theorem GD (s:ByteArray)(w:World)(hs:s.size≤1099511627776):Calls Tryz.prog 74 #[.string s] w (OV s.data.toList w):=by
 obtain⟨i0,hi,hz0,hz1,hz2⟩:=info_parts Tryz.Qj
 by_cases hbig:65536<s.size
 ·have hI:(65536:Int) < ↑s.size:=by omega
  have hq:bW s.data.toList=.error (11,0):=by rw[bW,if_pos (by rw[← Lib.size_eq];exact hbig)]
  have HQ:=ah hq;clear hq;go_enter Tryz.func74,Tryz.ntmps74;go_wp2;refine bodyPost_ret (v:=.tuple #[.slice none 0 0,.agg #[.int .i64 11,.int .i64 0]]) (by simp[results,Tryz.results74,go_sem]) rfl ?_;refine⟨(Below.refl _ _).alloc (Nat.le_refl _) _,?_⟩;rw[HQ.out]
  rfl
 ·have hI:¬ (65536:Int) < ↑s.size:=by omega
  have hq:bW s.data.toList=nQ (s.size+1) s.data.toList 0:=by rw[bW,if_neg (by rw[← Lib.size_eq];exact hbig),← Lib.size_eq]
  have HQ:=ah hq;clear hq;go_enter Tryz.func74,Tryz.ntmps74;go_wp2;generalize hw1:w.alloc (.cells #[.int .i64 0,.int .i64 0] 75)=w1
  have hb1:Below w.heap.size w w1:=by rw[← hw1];exact(Below.refl _ _).alloc (Nat.le_refl _) _
  have hf1:w1.heap[w.heap.size]?=some (.cells #[.int .i64 0,.int .i64 0] 75 (0,0)):=by rw[← hw1];exact heap_alloc_new _ _
  have hlt1:w.heap.size<w1.heap.size:=by rw[← hw1];simp
  clear hw1
  go_loopw [4,5] (fun out at0 wr=>∃ (p m:Nat) (acc:List Tok),at0=.int .i64 p∧p≤s.size∧s.size<p+m∧nQ (s.size+1) s.data.toList 0=Md acc (nQ m (s.data.toList.drop p) p)∧acc.length≤p ∧
   wr.ownsRow w1.heap.size 136 4 out acc.length (acc.flatMap bV)∧Below w1.heap.size w1 wr) (fun _ at0 _=>s.size - (intOf at0).toNat)
  case atStart=>exact⟨0,s.size+1,[],rfl,Nat.zero_le _,by omega,(TD _).symm,Nat.le_refl _,World.ownsRow_nil _ _ _ _,Below.refl _ _⟩
  case round =>
   obtain⟨p,m,acc,rfl,hp,hm,hl,hal,hown,hb⟩:=hrel;have hz:=hb.size
   obtain⟨m,rfl⟩:∃ m',m=m'+1:=⟨m - 1,by omega⟩
   have hxl:(s.extract p s.size).data.toList=s.data.toList.drop p:=mF s p
   have hxz:(s.extract p s.size).size≤1099511627776:=by rw[ByteArray.size_extract];omega
   have hbt:=Jd (s.extract p s.size) wr hxz;generalize hk:bJ false (s.extract p s.size).data.toList=k at hbt
   have hkl:k≤s.size - p:=by rw[← hk,hxl];have:=mG false (s.data.toList.drop p);rwa [List.length_drop,← Lib.size_eq] at this
   have hys:((s.extract p s.size).extract 0 k).size=k:=by rw[ByteArray.size_extract,ByteArray.size_extract];omega
   have hyl:((s.extract p s.size).extract 0 k).data.toList=(s.data.toList.drop p).take k:=by rw[gL,List.drop_zero,hxl]
   generalize hy:(s.extract p s.size).extract 0 k=y at hbt hys hyl;have ZQ:(s.extract (p+k) s.size).data.toList=s.data.toList.drop (p+k):=mF s _
   have huz:(s.extract (p+k) s.size).size≤1099511627776:=by rw[ByteArray.size_extract];omega
   have htk:=fun w=>Qi (s.extract (p+k) s.size) w huz
   have hpk:(p:Int)+(k:Int)≤↑s.size:=by omega
   generalize ht:dY (s.extract (p+k) s.size).data.toList=t at htk
   have htl:t.2.1≤s.size - (p+k):=by rw[← ht,ZQ];have:=wF (s.data.toList.drop (p+k));rwa [List.length_drop,← Lib.size_eq] at this
   obtain⟨kd,n,er⟩:=t;simp only at htl
   have hzs:((s.extract (p+k) s.size).extract 0 n).size=n:=by rw[ByteArray.size_extract,ByteArray.size_extract];omega
   have hzl:((s.extract (p+k) s.size).extract 0 n).data.toList=(s.data.toList.drop (p+k)).take n:=by rw[gL,List.drop_zero,ZQ]
   rw[hxl] at hk;rw[ZQ,← List.drop_drop] at ht;have HB:=ah hbt;have HT:=ah htk;have HYL:=ah hyl;have HZL:=ah hzl;have ZR:=ah ht;have HK:=ah hk;have HL:=ah hl;have HZS:=ah hzs;clear hbt htk hy hyl ZQ hxl hk hl huz hxz ht hzl hzs;go_wp2_with (first|(go_at_call 124;refine HB.out.mono ?_;rintro e w2 ⟨rfl,hb2⟩)|(go_at_call 125;refine(HT.out _).mono ?_));rintro e w3 ⟨he,hb3⟩;obtain rfl:e=.returned (.tuple #[.int .i64 kd,.string ((s.extract (p+k) s.size).extract 0 n),.int .i64 er]):=he;have ae8:=hb3.size;have ae9:=hb2.size;have vg:Below w1.heap.size w1 w3:=(hb.trans (hb2.mono hz)).trans (hb3.mono (by omega));have hown3:=own_below (own_below hown hb2) hb3
   have hf3:w3.heap[w.heap.size]?=some (.cells #[.int .i64 0,.int .i64 0] 75 (0,0)):=by rw[vg.block _ hlt1];exact hf1
   have hbw:Below w.heap.size w w3:=hb1.trans (vg.mono (by omega));clear hb2 hb3 hown hb
   by_cases her:er=0
   ·subst her
    generalize hzz:(s.extract (p+k) s.size).extract 0 n=z;have HZZ:=ah hzz
    have hzn:z.size=n:=by rw[← hzz];exact HZS.out
    have abL:z.data.toList=(s.data.toList.drop (p+k)).take n:=by rw[← hzz];exact HZL.out
    have adx:=ah abL;clear hzz abL;go_wp2_with (at_builtin;refine wpList_append_own _ rfl _ _ 86 rfl w1.heap.size 136 i0 (.agg #[.int .i64 0,.string ByteArray.empty,.string ByteArray.empty,.int .i64 0]) 4 48 Tryz.underlying86 hi hz0 hz1 hz2 rfl (by decide) _ _ _ rfl (hown3.alloc _) ⟨w3.heap.size,0,none⟩ 1 1 [.int .i64 kd,.string y,.string z,.int .i64 (p+k)] rfl rfl ?c1 ?c2 ?c3 ?c4 ?c5 ?_)
    case c1=>exact Me (by go_simp) (by go_simp) (by go_simp) (by go_simp)
    case c2=>intro u hu;simp at hu;rcases hu with rfl|rfl|rfl|rfl<;>rfl
    case c3=>unfold maxLen;omega
    case c4=>omega
    case c5=>simp;omega
    intro v' w4 hown' hgrow _;have hb4:Below w1.heap.size w1 w4:=(vg.alloc (by omega) _).grown hgrow (by simp;omega) (fun q hq=>(hown3.lt q hq).1);have GH:=fU (hown3.alloc _) hgrow ((Lib.alloc_old w3 _ _ (by omega)).trans hf3) (by decide);have hcl:=Qn (kd:=kd) (pk:=p+k) HYL.out adx.out (by rfl:((p:Int)+(k:Int))=((p+k:Nat):Int));rw[hcl] at hown'
    have wJ:w4.ownsRow w1.heap.size 136 4 v' (acc++[Tok.mk kd ((s.data.toList.drop p).take k) ((s.data.toList.drop (p+k)).take n) (p+k)]).length ((acc++[Tok.mk kd ((s.data.toList.drop p).take k) ((s.data.toList.drop (p+k)).take n) (p+k)]).flatMap bV):=by
     rw[List.flatMap_append,bP];exact hown'
    have afa:=hb4.size;have qP:Below w.heap.size w w4:=hb1.trans (hb4.mono (by omega));clear hgrow hown' hcl hown3 vg hbw
    by_cases h5:kd=5
    ·have hk5:((kd:Int) == 5)=true:=by rw[h5];rfl
     have hq:=HL.out;rw[TG _ _ _ _ _ HK.out ZR.out rfl h5] at hq
     have hn0:n=0:=by have:=Qm ((s.data.toList.drop p).drop k) (by rw[ZR.out];exact h5);rw[ZR.out] at this;exact this
     rw[hn0,List.take_zero,h5] at wJ;have L8:=ah hq;clear hq h5 hn0
     have f0:w4.cell? ⟨w.heap.size,0,none⟩=some (.int .i64 0):=by rw[Lib.cell_of_heap GH];rfl
     have f1:w4.cell? ⟨w.heap.size,1,none⟩=some (.int .i64 0):=by rw[Lib.cell_of_heap GH];rfl
     have z0:∀ j,w4.frozen? ⟨w.heap.size,j,none⟩=false:=by intro j;simp[World.frozen?,GH]
     go_wp2;refine bodyPost_ret (v:=.tuple #[v',.agg #[.int .i64 0,.int .i64 0]]) (by simp[results,Tryz.results74,go_sem,f0,f1]) rfl ?_;refine⟨(qP.setCell (Nat.le_refl _) _).setCell (Nat.le_refl _) _,?_⟩;rw[HQ.out,L8.out];exact⟨_,rfl,Sl.fF (ownsRow_setCell_below (ownsRow_setCell_below wJ hlt1 _) hlt1 _)⟩
    ·have hk5:((kd:Int) == 5)=false:=by rw[← Bool.not_eq_true,beq_iff_eq];omega
     have hq:=HL.out;rw[Ql _ _ _ _ _ HK.out ZR.out rfl h5,Qk,List.drop_drop,List.drop_drop,← Nat.add_assoc p k] at hq
     have hn0:0<n:=by have:=wG ((s.data.toList.drop p).drop k) (by rw[ZR.out]) (by rw[ZR.out];exact h5);rw[ZR.out] at this;exact this
     have L8:=ah hq;clear hq;go_wp2
     go_roundw
     case rel=>exact⟨p+k+n,m,_,by go_num,by omega,by omega,L8.out,by rw[bP];simp;omega,wJ,hb4⟩
     case measure=>simp[intOf];omega
   ·have hne:((er:Int) == 0)=false:=by rw[← Bool.not_eq_true,beq_iff_eq];omega
    have f0:w3.cell? ⟨w.heap.size,0,none⟩=some (.int .i64 0):=by rw[Lib.cell_of_heap hf3];rfl
    have f1:w3.cell? ⟨w.heap.size,1,none⟩=some (.int .i64 0):=by rw[Lib.cell_of_heap hf3];rfl
    have z0:∀ j,w3.frozen? ⟨w.heap.size,j,none⟩=false:=by intro j;simp[World.frozen?,hf3]
    have hq:=HL.out;rw[TF _ _ _ _ _ HK.out ZR.out her] at hq;have L8:=ah hq;clear hq;go_wp2;refine bodyPost_ret (v:=.tuple #[.slice none 0 0,.agg #[.int .i64 er,.int .i64 (p+k)]]) (by simp[results,Tryz.results74,go_sem,f0,f1]) rfl ?_;refine⟨(hbw.setCell (Nat.le_refl _) _).setCell (Nat.le_refl _) _,?_⟩;rw[HQ.out,L8.out]
    rfl
end Go.Proofs.YtknicmmigbhpcaaGreatDoor

namespace Go.Proofs.YtknicmmigbhpcaaGreatDoor
def lH (t:Tok):Nat:=t.lead.length+t.text.length
def fP:List Tok→Nat→Nat
 | [],_=>0
 | _ :: _,0=>0
 | t :: l,i+1=>lH t+fP l i
theorem vk (l:List Tok):fP l 0=0:=by cases l<;>rfl
theorem jX (t:Tok)(l:List Tok)(i:Nat):fP (t :: l) (i+1)=lH t+fP l i:=rfl
theorem jw:∀ (l:List Tok) (i:Nat) (h:i<l.length),fP l (i+1)=fP l i+lH l[i]
 | [],i,h=>absurd h (by simp)
 | t :: l,0,_=>by simp[fP,vk]
 | t :: l,i+1,h=>by
  have:=jw l i (by simpa using h);simp only[jX,List.getElem_cons_succ];rw[this];omega
theorem TH (T:List UInt8)(h:(dY T).1=5):T=[]:=by
 cases T with
 | nil=>rfl
 | cons c r =>
  exfalso
  rw[dY] at h
  split at h
  ·rw[lC] at h
   split at h
   ·cases h
   ·split at h<;>cases h
  ·split at h
   ·rw[nP] at h
    split at h<;>cases h
   ·rw[Aj] at h
    split at h<;>cases h
structure Laid (T:List UInt8) (p:Nat) (l:List Tok):Prop where
 some:0<l.length
 whole:fP l l.length=T.length
 place:∀ (i:Nat) (h:i<l.length),l[i].place=p+fP l i+l[i].lead.length
 last:∀ (i:Nat) (h:i<l.length),l[i].kind=5↔i=l.length - 1
 empty:∀ (i:Nat) (h:i<l.length),l[i].text=[]↔l[i].kind=5
 text:∀ (i:Nat) (h:i<l.length),(T.drop (fP l i+l[i].lead.length)).take l[i].text.length=l[i].text
 lead:∀ (i:Nat) (h:i<l.length),(T.drop (fP l i)).take l[i].lead.length=l[i].lead
theorem Laid.inside {T:List UInt8}{p:Nat}{l:List Tok}(h:Laid T p l):∀ i,i≤l.length→fP l i≤T.length:=by
 intro i hi
 have:∀ k,i+k=l.length→fP l i≤T.length:=by
  intro k
  induction k generalizing i with
  | zero=>intro e;rw[← h.whole,← e];exact Nat.le_refl _
  | succ k ih =>
   intro e;have:=ih (i+1) (by omega) (by omega);rw[jw l i (by omega)] at this;omega
 exact this (l.length - i) (by omega)
theorem Laid.count {T:List UInt8}{p:Nat}{l:List Tok}(h:Laid T p l):l.length≤T.length+1:=by
 have h1:∀ i,i<l.length→i≤fP l i:=by
  intro i
  induction i with
  | zero=>omega
  | succ i ih =>
   intro hi;have h2:=ih (by omega)
   have h5:l[i].kind≠5:=fun q=>by have:=(h.last i (by omega)).1 q;omega
   have h6:l[i].text≠[]:=fun q=>h5 ((h.empty i (by omega)).1 q)
   have h7:0<l[i].text.length:=List.length_pos_iff.2 h6;rw[jw l i (by omega),lH];omega
 have hs:=h.some;have:=h1 (l.length - 1) (by omega);have:=h.inside (l.length - 1) (by omega);omega
theorem EH:∀ (n:Nat) (T:List UInt8) (p:Nat) (l:List Tok),nQ n T p=.ok l→Laid T p l
 | 0,_,_,_,h=>by cases h
 | n+1,T,p,l,h=>by
  rw[nQ] at h;have hk:=mG false T;generalize hkk:bJ false T=k at h hk
  by_cases he:(dY (T.drop k)).2.2≠0
  ·rw[if_pos he] at h;cases h
  rw[if_neg he] at h
  by_cases h5:(dY (T.drop k)).1=5
  ·rw[if_pos h5] at h
   injection h with h
   subst h;have hnil:=TH _ h5
   have hl:T.length=k:=by
    have:=congrArg List.length hnil;rw[List.length_drop,List.length_nil] at this;omega
   have htk:(T.take k).length=k:=by rw[List.length_take];omega
   have one:∀ i,i<1→i=0:=fun i h=>by omega
   refine⟨by simp,by simp[fP,lH];omega,?_,?_,?_,?_,?_⟩<;>(intro i hi;obtain rfl:=one i hi;simp[fP])<;>omega
  ·rw[if_neg h5] at h
   have hpos:=wG (T.drop k) (by omega) h5;have hlen:=wF (T.drop k);rw[List.length_drop] at hlen;generalize dY (T.drop k)=t at h he h5 hpos hlen
   cases hr:nQ n ((T.drop k).drop t.2.1) (p+k+t.2.1) with
   | error e=>simp only[hr] at h;cases h
   | ok r =>
    simp only[hr] at h
    injection h with h
    subst h;have ih:=EH n _ _ _ hr
    have htk:(T.take k).length=k:=by rw[List.length_take];omega
    have htx:((T.drop k).take t.2.1).length=t.2.1:=by rw[List.length_take,List.length_drop];omega
    have hone:lH ⟨t.1,T.take k,(T.drop k).take t.2.1,p+k⟩=k+t.2.1:=by simp only[lH];rw[htk,htx]
    have hs:=ih.some;refine⟨by simp,?_,?_,?_,?_,?_,?_⟩
    ·rw[dX,jX,ih.whole,hone,List.length_drop,List.length_drop];omega
    ·intro i hi
     cases i with
     | zero=>simp only[List.getElem_cons_zero,fP];rw[htk];omega
     | succ i =>
      have:=ih.place i (by simpa using hi);simp only[List.getElem_cons_succ,jX];rw[this,hone];omega
    ·intro i hi
     cases i with
     | zero=>simp only[List.getElem_cons_zero,dX];exact⟨fun h=>absurd h h5,fun h=>by omega⟩
     | succ i =>
      have:=ih.last i (by simpa using hi);simp only[List.getElem_cons_succ,dX];rw[this];omega
    ·intro i hi
     cases i with
     | zero =>
      simp only[List.getElem_cons_zero];exact⟨fun h=>by rw[h] at htx;simp at htx;omega,fun h=>absurd h h5⟩
     | succ i =>
      simp only[List.getElem_cons_succ];exact ih.empty i (by simpa using hi)
    ·intro i hi
     cases i with
     | zero=>simp only[List.getElem_cons_zero,fP];rw[htk,htx,Nat.zero_add]
     | succ i =>
      have:=ih.text i (by simpa using hi);simp only[List.getElem_cons_succ,jX];rw[List.drop_drop,List.drop_drop] at this;rw[hone]
      have hi':i<r.length:=by simpa using hi
      rw[show k+t.2.1+fP r i+r[i].lead.length=k+(t.2.1+(fP r i+r[i].lead.length)) from by omega];exact this
    ·intro i hi
     cases i with
     | zero=>simp only[List.getElem_cons_zero,fP];rw[htk,List.drop_zero]
     | succ i =>
      have:=ih.lead i (by simpa using hi);simp only[List.getElem_cons_succ,jX];rw[List.drop_drop,List.drop_drop] at this;rw[hone];rw[show k+t.2.1+fP r i=k+(t.2.1+fP r i) from by omega];exact this
theorem Ba:∀ (n:Nat) (T:List UInt8) (p:Nat) (e:Nat × Nat),nQ n T p=.error e→T.length<n→p≤e.2∧e.2≤p+T.length∧(e.1=20∨e.1=21)
 | 0,_,_,_,_,h=>absurd h (by omega)
 | n+1,T,p,e,h,hn=>by
  rw[nQ] at h;have hk:=mG false T;generalize hkk:bJ false T=k at h hk
  by_cases he:(dY (T.drop k)).2.2≠0
  ·rw[if_pos he] at h
   injection h with h
   subst h;refine⟨by simp,by simp only;omega,?_⟩;simp only
   cases hd:T.drop k with
   | nil=>rw[hd] at he;exact absurd rfl he
   | cons c r =>
    rw[hd] at he;rw[dY] at he ⊢
    by_cases hc:dG c=true
    ·rw[if_pos hc] at he ⊢
     simp only[lC] at he ⊢
     split
     ·exact .inl rfl
     ·rename_i XE;rw[if_neg XE] at he;exfalso;apply he;split<;>rfl
    ·rw[if_neg hc] at he ⊢
     by_cases hd:aL c=true
     ·rw[if_pos hd] at he ⊢
      simp only[nP] at he ⊢
      split
      ·exact .inr rfl
      ·rename_i Gy;rw[if_neg Gy] at he;exact absurd rfl he
     ·rw[if_neg hd] at he ⊢
      rw[Aj] at he ⊢
      cases hs:pX (c :: r) with
      | none=>exact .inl rfl
      | some x=>rw[hs] at he;exact absurd rfl he
  rw[if_neg he] at h
  by_cases h5:(dY (T.drop k)).1=5
  ·rw[if_pos h5] at h;cases h
  ·rw[if_neg h5] at h
   have hpos:=wG (T.drop k) (by omega) h5;have hlen:=wF (T.drop k);rw[List.length_drop] at hlen;generalize dY (T.drop k)=t at h he h5 hpos hlen
   cases hr:nQ n ((T.drop k).drop t.2.1) (p+k+t.2.1) with
   | ok r=>simp only[hr] at h;cases h
   | error x =>
    simp only[hr] at h
    injection h with h
    subst h;have:=Ba n _ _ _ hr (by rw[List.length_drop,List.length_drop];omega);rw[List.length_drop,List.length_drop] at this;omega
theorem jy {S:List UInt8}{l:List Tok}(h:bW S=.ok l):Laid S 0 l:=by
 rw[bW] at h
 split at h
 ·cases h
 ·exact EH _ _ _ _ h
theorem wK {S:List UInt8}{e:Nat × Nat}(h:bW S=.error e):e.2≤S.length∧(e.1=20∨e.1=21∨e.1=11):=by
 rw[bW] at h
 split at h
 ·injection h with h;subst h;exact⟨Nat.zero_le _,.inr (.inr rfl)⟩
 ·have:=Ba _ _ _ _ h (by omega);omega
end Go.Proofs.YtknicmmigbhpcaaGreatDoor
