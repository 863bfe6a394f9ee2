/- Walks and plain laws: LexW3, LexW4, LexSigns, LexW5, LexInfo, LexW6, Builder, LexWhole, RefLex1, RefLex2, RefLex3, RefLex4. -/
import Derived.Test.YtknicmmigbhpcaaGreatDoorB04
import Derived.Great.BuildSlice
import Derived.Deep.WholeRow
import Derived.KernelRfl
set_option maxHeartbeats 16000000
set_option maxRecDepth 100000
set_option linter.unusedVariables false
set_option linter.unusedSimpArgs false
namespace Go.Proofs.YtknicmmigbhpcaaGreatDoor
open Go.RowKit
def Qv (s:ByteArray)(t:Nat × Nat × Nat):Value:=.tuple #[.int .i64 t.1,.string (s.extract 0 t.2.1),.int .i64 t.2.2]
theorem jW {s:ByteArray}{t:Nat × Nat × Nat}{a b:Int}{x:ByteArray}(h1:a=t.1)(h2:x=s.extract 0 t.2.1)(h3:b=t.2.2):Ending.returned (.tuple #[.int .i64 a,.string x,.int .i64 b])=.returned (Qv s t):=by
 rw[h1,h2,h3];rfl
theorem sJ (s:ByteArray):(⟨#[]⟩:ByteArray)=s.extract 0 0:=pW (by rw[gN];rfl)
theorem ext_size (s:ByteArray)(k:Nat)(h:k≤s.size):(s.extract 0 k).size=k:=by rw[ByteArray.size_extract];omega
theorem take_takeWhile (p:UInt8→Bool)(T:List UInt8):T.take (T.takeWhile p).length=T.takeWhile p:=by
 obtain⟨r,hr⟩:=List.takeWhile_prefix (p:=p) (l:=T)
 conv=>lhs;arg 2;rw[← hr]
 simp
theorem TW (p:UInt8→Bool)(s:ByteArray):kI p s≤s.size:=by rw[Lib.size_eq];exact jM p _
theorem JD (p:UInt8→Bool)(s:ByteArray):(s.extract 0 (kI p s)).data.toList=s.data.toList.takeWhile p:=by
 rw[gN,List.drop_zero,kI,take_takeWhile]
theorem Mx (s:ByteArray)(w:World)(hs:s.size≤1099511627776) :
  Calls Tryz.prog 199 #[.string s] w fun e w'=>e=.returned (Qv s (nP s.data.toList))∧w'=w:=by
 have hr:=TW aL s;have hn:=JD aL s;have hz:=ext_size s _ hr;have HR:=ah (Qt s w hs)
 by_cases GQ:60<kI aL s
 ·have hq:nP s.data.toList=(0,0,21):=by rw[nP,if_pos (.inl GQ)]
  have HQ:=ah hq;generalize hy:s.extract 0 (kI aL s)=y at HR hz
  have hI:(60:Int) < ↑y.size:=by omega
  have hD:decide ((60:Int) < ↑y.size)=true:=decide_eq_true hI;clear hq hn hz;go_enter Tryz.func199,Tryz.ntmps199;go_wp2_with (go_at_call 254;refine HR.out.mono ?_;rintro e w1 ⟨rfl,rfl⟩);go_ret3
  refine⟨jW (t:=nP s.data.toList) ?_ ?_ ?_,rfl⟩<;>rw[HQ.out]
  ·rfl
  ·exact sJ s
  ·rfl
 ·by_cases h1:1<kI aL s
  ·have h0:0<(s.extract 0 (kI aL s)).size:=by omega
   generalize hy:s.extract 0 (kI aL s)=y at HR hz hn h0;have hb:=AO h0;rw[hn] at hb
   have hI:¬ (60:Int) < ↑y.size:=by omega
   have hD:decide ((60:Int) < ↑y.size)=false:=decide_eq_false hI
   have hI1:(1:Int) < ↑y.size:=by omega
   have hD1:decide ((1:Int) < ↑y.size)=true:=decide_eq_true hI1
   by_cases hc:(y[0]'h0)=48
   ·have hq:nP s.data.toList=(0,0,21):=by rw[nP,if_pos (.inr ⟨h1,by rw[hb,hc]⟩)]
    have hE:(((y[0]'h0).toNat:Int) == 48)=true:=by rw[hc];rfl
    have HQ:=ah hq;clear hq hn hb hc hz;go_enter Tryz.func199,Tryz.ntmps199;go_wp2_with (go_at_call 254;refine HR.out.mono ?_;rintro e w1 ⟨rfl,rfl⟩);go_ret3
    refine⟨jW (t:=nP s.data.toList) ?_ ?_ ?_,rfl⟩<;>rw[HQ.out]
    ·rfl
    ·exact sJ s
    ·rfl
   ·have hq:nP s.data.toList=(3,kI aL s,0):=by
     rw[nP,if_neg]
     ·rfl
     ·rintro(h|⟨_,h⟩)
      ·exact GQ h
      ·rw[hb] at h;injection h with h;exact hc h
    have hE:(((y[0]'h0).toNat:Int) == 48)=false:=by
     rw[← Bool.not_eq_true,beq_iff_eq];intro h;exact hc (UInt8.toNat_inj.1 (by show _=48;omega))
    have HQ:=ah hq;have HY:=ah hy;clear hq hn hb hc hy hz;go_enter Tryz.func199,Tryz.ntmps199;go_wp2_with (go_at_call 254;refine HR.out.mono ?_;rintro e w1 ⟨rfl,rfl⟩);go_ret3
    refine⟨jW (t:=nP s.data.toList) ?_ ?_ ?_,rfl⟩<;>rw[HQ.out]
    ·rfl
    ·exact HY.out.symm
    ·rfl
  ·have hq:nP s.data.toList=(3,kI aL s,0):=by
    rw[nP,if_neg]
    ·rfl
    ·rintro(h|⟨h,_⟩)
     ·exact GQ h
     ·exact h1 h
   generalize hy:s.extract 0 (kI aL s)=y at HR hz
   have hI:¬ (60:Int) < ↑y.size:=by omega
   have hD:decide ((60:Int) < ↑y.size)=false:=decide_eq_false hI
   have hI1:¬ (1:Int) < ↑y.size:=by omega
   have hD1:decide ((1:Int) < ↑y.size)=false:=decide_eq_false hI1;have HQ:=ah hq;have HY:=ah hy;clear hq hn hy hz;go_enter Tryz.func199,Tryz.ntmps199;go_wp2_with (go_at_call 254;refine HR.out.mono ?_;rintro e w1 ⟨rfl,rfl⟩);go_ret3
   refine⟨jW (t:=nP s.data.toList) ?_ ?_ ?_,rfl⟩<;>rw[HQ.out]
   ·rfl
   ·exact HY.out.symm
   ·rfl
theorem TY (w:World):Calls Tryz.prog 256 #[] w fun e w'=>e=.returned (.agg #[.string ⟨#[97,115,115,101,114,116]⟩,.string ⟨#[98,111,111,108]⟩,.string ⟨#[101,108,115,101]⟩,.string ⟨#[102,97,108,115,101]⟩,.string ⟨#[102,117,110]⟩,.string ⟨#[105,102]⟩,.string ⟨#[105,109,112,111,114,116]⟩,.string ⟨#[105,110]⟩,.string ⟨#[105,110,116]⟩,.string ⟨#[108,101,116]⟩,.string ⟨#[110,111,116]⟩,.string ⟨#[112,117,98]⟩,.string ⟨#[114,101,115]⟩,.string ⟨#[116,104,101,110]⟩,.string ⟨#[116,114,117,101]⟩])∧Below w.heap.size w w':=by
 go_enter Tryz.func256,Tryz.ntmps256;go_wp2;refine bodyPost_ret (v:=.agg #[.string ⟨#[97,115,115,101,114,116]⟩,.string ⟨#[98,111,111,108]⟩,.string ⟨#[101,108,115,101]⟩,.string ⟨#[102,97,108,115,101]⟩,.string ⟨#[102,117,110]⟩,.string ⟨#[105,102]⟩,.string ⟨#[105,109,112,111,114,116]⟩,.string ⟨#[105,110]⟩,.string ⟨#[105,110,116]⟩,.string ⟨#[108,101,116]⟩,.string ⟨#[110,111,116]⟩,.string ⟨#[112,117,98]⟩,.string ⟨#[114,101,115]⟩,.string ⟨#[116,104,101,110]⟩,.string ⟨#[116,114,117,101]⟩]) (results_cell_row rfl _ _ w.heap.size 306 _ (0,0) _ rfl (heap_alloc_new _ _) Tryz.underlying306 rfl (by kernel_rfl)) rfl ⟨rfl,(Below.refl _ _).alloc (Nat.le_refl _) _⟩
def zR (x:ByteArray)(j:Nat):ByteArray:=if j<15 then ⟨(pF.getD j []).toArray⟩ else x
theorem Qw:∀ j:Fin 15,Lib.bsGo (fun t=>Op.bytesLess (if t<15 then pF.getD t [] else pF.getD j []) (pF.getD j [])) 15 0 15=j:=by decide
theorem vC (x:ByteArray)(j:Nat):(zR x j).data.toList=if j<15 then pF.getD j [] else x.data.toList:=by
 unfold zR
 split<;>rfl
theorem Qx (x:ByteArray):∀ j,j<15→(#[.string ⟨#[97,115,115,101,114,116]⟩,.string ⟨#[98,111,111,108]⟩,.string ⟨#[101,108,115,101]⟩,.string ⟨#[102,97,108,115,101]⟩,.string ⟨#[102,117,110]⟩,.string ⟨#[105,102]⟩,.string ⟨#[105,109,112,111,114,116]⟩,.string ⟨#[105,110]⟩,.string ⟨#[105,110,116]⟩,.string ⟨#[108,101,116]⟩,.string ⟨#[110,111,116]⟩,.string ⟨#[112,117,98]⟩,.string ⟨#[114,101,115]⟩,.string ⟨#[116,104,101,110]⟩,.string ⟨#[116,114,117,101]⟩]:Array Value)[0+j]?=some (.string (zR x j))
 | 0,_=>rfl
 | 1,_=>rfl
 | 2,_=>rfl
 | 3,_=>rfl
 | 4,_=>rfl
 | 5,_=>rfl
 | 6,_=>rfl
 | 7,_=>rfl
 | 8,_=>rfl
 | 9,_=>rfl
 | 10,_=>rfl
 | 11,_=>rfl
 | 12,_=>rfl
 | 13,_=>rfl
 | 14,_=>rfl
 | n+15,h=>absurd h (by omega)
theorem Yr (j:Nat)(hj:j<15):pF.getD j []∈pF:=by
 have hj0:j<pF.length:=hj;rw[List.getD_eq_getElem?_getD,List.getElem?_eq_getElem hj0,Option.getD_some];exact List.getElem_mem _
theorem Qy (x:ByteArray):decide (Lib.bsGo (fun t=>Op.bytesLess (zR x t).toList x.toList) 15 0 15<15∧zR x (Lib.bsGo (fun t=>Op.bytesLess (zR x t).toList x.toList) 15 0 15)=x)=decide (x.data.toList∈pF):=by
 simp only[Lib.toList_data,vC]
 by_cases h:x.data.toList∈pF
 ·obtain⟨j,hj0,e⟩:=List.mem_iff_getElem.1 h
  have ek:pF.getD j []=x.data.toList:=by rw[List.getD_eq_getElem?_getD,List.getElem?_eq_getElem hj0,Option.getD_some,e]
  have hj:j<15:=hj0;have hk:=Qw ⟨j,hj⟩;simp only[ek] at hk;rw[hk,decide_eq_true h,decide_eq_true];refine⟨hj,pW ?_⟩;rw[vC,if_pos hj,ek]
 ·rw[decide_eq_false h,decide_eq_false]
  rintro⟨hb,e⟩
  apply h
  rw[← e,vC,if_pos hb];exact Yr _ hb
def T9 (x:ByteArray)(w:World)(e:Ending)(w':World):Prop :=
 (∃ n:Nat,e=.returned (.tuple #[.int .i64 n,.bool (decide (x.data.toList∈pF))]))∧Below w.heap.size w w'
theorem MB (b:Nat)(x:ByteArray)(w:World)(hc:∀ j,j<15→w.cell? ⟨b,0+j,none⟩=some (.string (zR x j))) :
  Calls Tryz.prog 92 #[.slice (some ⟨b,0,none⟩) 15 15,.string x] w (T9 x w):=by
 refine(Any2.slices_BinarySearch_string Tryz.Bu b 0 15 15 (zR x) x w (by decide) hc).mono ?_;rintro e w' ⟨rfl,q,rfl⟩;rw[Qy];exact⟨⟨_,rfl⟩,below_drewN (Below.refl _ _) _⟩
theorem Ua (s:ByteArray)(w:World)(hs:s.size≤1099511627776) :
  Calls Tryz.prog 197 #[.string s] w fun e w'=>e=.returned (Qv s (lu s.data.toList))∧Below w.heap.size w w':=by
 have hr:=TW aV s;have hn:=JD aV s;have hz:=ext_size s _ hr;have HR:=ah (Mt s w hs)
 by_cases XM:40<kI aV s
 ·have hq:lu s.data.toList=(0,0,20):=by unfold lu;exact if_pos XM
  have HQ:=ah hq;generalize hy:s.extract 0 (kI aV s)=y at HR hz
  have hI:(40:Int) < ↑y.size:=by omega
  clear hq hn hz;go_enter Tryz.func197,Tryz.ntmps197;go_wp2_with (go_at_call 254;refine HR.out.mono ?_;rintro e w1 ⟨rfl,rfl⟩);go_ret3
  refine⟨jW (t:=lu s.data.toList) ?_ ?_ ?_,Below.refl _ _⟩<;>rw[HQ.out]
  ·rfl
  ·exact sJ s
  ·rfl
 ·have hq:lu s.data.toList=(if s.data.toList.takeWhile aV∈pF then (2,kI aV s,0) else (1,kI aV s,0)):=by unfold lu;exact if_neg XM
  have HQ:=ah hq;generalize hy:s.extract 0 (kI aV s)=y at HR hz hn;have HY:=ah hy;have HN:=ah hn
  have hI:¬ (40:Int) < ↑y.size:=by omega
  clear hq hn hy hz;go_enter Tryz.func197,Tryz.ntmps197;go_wp2_with (first|(go_at_call 254;refine HR.out.mono ?_;rintro e w1 ⟨rfl,rfl⟩)|(go_at_call 256;refine(TY _).mono ?_;rintro e w2 ⟨rfl,hb⟩)|(go_at_call 92;refine(MB _ y _ ?c1).mono ?_))
  case c1 =>
   intro j hj;rw[Lib.cell_of_heap (heap_alloc_new _ _)];exact Qx y j hj
  rintro e w3 ⟨⟨n,rfl⟩,hb3⟩;have hbb:=(hb.alloc hb.size _).trans (hb3.mono (by have:=hb.size;simp;omega))
  cases hk:decide (y.data.toList∈pF) with
  | true =>
   have HK:=ah hk;clear hk;go_wp2;go_ret3
   refine⟨jW (t:=lu s.data.toList) ?_ ?_ ?_,hbb⟩<;>rw[HQ.out,if_pos (by rw[← HN.out];exact of_decide_eq_true HK.out)]
   ·rfl
   ·exact HY.out.symm
   ·rfl
  | false =>
   have HK:=ah hk;clear hk;go_wp2;go_ret3
   refine⟨jW (t:=lu s.data.toList) ?_ ?_ ?_,hbb⟩<;>rw[HQ.out,if_neg (by rw[← HN.out];exact of_decide_eq_false HK.out)]
   ·rfl
   ·exact HY.out.symm
   ·rfl
def JE:Array Value:=(iI.map fun x=>Value.string ⟨x.toArray⟩).toArray
theorem Qz (w:World):Calls Tryz.prog 200 #[] w fun e w'=>e=.returned (.agg JE)∧Below w.heap.size w w':=by
 go_enter Tryz.func200,Tryz.ntmps200
 apply wp_seq_k
 intro K0 hK0;have HK:=ah hK0;clear hK0;go_wp2
 apply HK.out
 apply wp_seq_k
 intro K1 hK1
 apply wp_region_lit
 refine wpList_buildTo rfl 269 _ rfl (some 1) rfl JE (by kernel_rfl) ?_;refine wpList_store_rowTo rfl 269 _ _ rfl rfl w.heap.size JE rfl rfl 269 _ (heap_alloc_new _ _) (by kernel_rfl) (by decide) (by kernel_rfl) ?_;rw[World.setRow_alloc_new]
 apply wpList_nil
 apply hK1
 go_wp2;refine bodyPost_ret (v:=.agg JE) (results_cell_row rfl _ _ w.heap.size 269 _ (0,0) _ rfl (heap_alloc_new _ _) Tryz.underlying269 rfl (by kernel_rfl)) rfl ⟨rfl,(Below.refl _ _).alloc (Nat.le_refl _) _⟩
theorem head_cons {s:ByteArray}(h:0<s.size):∃ r,s.data.toList=(s[0]'h) :: r:=by
 have hb:=AO h
 cases hq:s.data.toList with
 | nil=>rw[hq] at hb;cases hb
 | cons c r =>
  rw[hq] at hb
  injection hb with hb
  rw[← hb];exact⟨r,rfl⟩
def yO (k:Nat):ByteArray:=⟨(iI.getD k []).toArray⟩
theorem Fa (T:List UInt8):∀ (l:List (List UInt8)) (k:Nat),k<l.length→(∀ j,j<k→Lib.hasPrefix T (l.getD j [])=false)→Lib.hasPrefix T (l.getD k [])=true→l.find? (fun x=>x.isPrefixOf T)=some (l.getD k [])
 | [],k,hk,_,_=>absurd hk (by simp)
 | x :: l,0,_,_,h=>by
  have h:x.isPrefixOf T=true:=h;simp[h]
 | x :: l,k+1,hk,hj,h=>by
  have h0:x.isPrefixOf T=false:=hj 0 (by omega);have:=Fa T l k (by simpa using hk) (fun j hjk=>by simpa using hj (j+1) (by omega)) (by simpa using h);simp only[List.find?_cons,h0]
  simpa using this
theorem QA (T:List UInt8)(l:List (List UInt8))(hj:∀ j,j<l.length→Lib.hasPrefix T (l.getD j [])=false):l.find? (fun x=>x.isPrefixOf T)=none:=by
 rw[List.find?_eq_none];intro x hx;obtain⟨j,hjl,e⟩:=List.mem_iff_getElem.1 hx;have:=hj j hjl;rw[List.getD_eq_getElem?_getD,List.getElem?_eq_getElem hjl,Option.getD_some,e] at this;intro h;rw[Lib.hasPrefix] at this;rw[this] at h;cases h
theorem MC:∀ k:Nat,k<22→∀ w:World,(Instr.index 269 (.agg JE) (.int .i64 k)).run Tryz.prog w=.ok (.string (yO k)) w
 | 0,_=>fun _=>by kernel_rfl
 | 1,_=>fun _=>by kernel_rfl
 | 2,_=>fun _=>by kernel_rfl
 | 3,_=>fun _=>by kernel_rfl
 | 4,_=>fun _=>by kernel_rfl
 | 5,_=>fun _=>by kernel_rfl
 | 6,_=>fun _=>by kernel_rfl
 | 7,_=>fun _=>by kernel_rfl
 | 8,_=>fun _=>by kernel_rfl
 | 9,_=>fun _=>by kernel_rfl
 | 10,_=>fun _=>by kernel_rfl
 | 11,_=>fun _=>by kernel_rfl
 | 12,_=>fun _=>by kernel_rfl
 | 13,_=>fun _=>by kernel_rfl
 | 14,_=>fun _=>by kernel_rfl
 | 15,_=>fun _=>by kernel_rfl
 | 16,_=>fun _=>by kernel_rfl
 | 17,_=>fun _=>by kernel_rfl
 | 18,_=>fun _=>by kernel_rfl
 | 19,_=>fun _=>by kernel_rfl
 | 20,_=>fun _=>by kernel_rfl
 | 21,_=>fun _=>by kernel_rfl
 | n+22,h=>absurd h (by omega)
theorem JF (k:Nat):(yO k).data.toList=iI.getD k []:=rfl
theorem Ub:iI.length=22:=rfl
theorem QB (s:ByteArray)(w:World)(hs:s.size≤1099511627776) :
  Calls Tryz.prog 125 #[.string s] w fun e w'=>e=.returned (Qv s (dY s.data.toList))∧Below w.heap.size w w':=by
 by_cases h0:0<s.size
 ·obtain⟨r,hr⟩:=head_cons h0
  have hI:(0:Int) < ↑s.size:=by omega
  have he:s.toList.isEmpty=false:=by rw[qO];exact decide_eq_false (by omega)
  generalize hc:(s[0]'h0)=c at hr
  by_cases hl:dH c=true
  ·have hl':dH (s[0]'h0)=true:=by rw[hc];exact hl
   have hq:dY s.data.toList=lu s.data.toList:=by rw[hr,dY,if_pos hl]
   have HQ:=ah hq;have HW:=ah (Ua s);clear hq hr hc hl;go_enter Tryz.func125,Tryz.ntmps125;go_wp2_with (first|(go_at_call 196;refine(qV _ _).mono ?_;rintro e w1 ⟨rfl,rfl⟩)|(go_at_call 197;refine(HW.out _ hs).mono ?_;rintro e w1 ⟨he,hb⟩;rw[Qv] at he;subst he));go_ret3
   refine⟨jW (t:=dY s.data.toList) ?_ ?_ ?_,hb⟩<;>rw[HQ.out]
  ·have hl':dH (s[0]'h0)=false:=by rw[hc];simpa using hl
   by_cases hd:aL c=true
   ·have hd':aL (s[0]'h0)=true:=by rw[hc];exact hd
    have hq:dY s.data.toList=nP s.data.toList:=by rw[hr,dY,if_neg hl,if_pos hd]
    have HQ:=ah hq;have HW:=ah (Mx s);clear hq hr hc hl hd;go_enter Tryz.func125,Tryz.ntmps125;go_wp2_with (first|(go_at_call 196;refine(qV _ _).mono ?_;rintro e w1 ⟨rfl,rfl⟩)|(go_at_call 198;refine(p9 _ _).mono ?_;rintro e w1 ⟨rfl,rfl⟩)|(go_at_call 199;refine(HW.out _ hs).mono ?_;rintro e w1 ⟨he,rfl⟩;rw[Qv] at he;subst he));go_ret3
    refine⟨jW (t:=dY s.data.toList) ?_ ?_ ?_,Below.refl _ _⟩<;>rw[HQ.out]
   ·have hd':aL (s[0]'h0)=false:=by rw[hc];simpa using hd
    have hq:dY s.data.toList=Aq s.data.toList:=by rw[hr,dY,if_neg hl,if_neg hd]
    have HQ:=ah hq;clear hq hr hc hl hd;go_enter Tryz.func125,Tryz.ntmps125;go_wp2_with (first|(go_at_call 196;refine(qV _ _).mono ?_;rintro e w1 ⟨rfl,rfl⟩)|(go_at_call 198;refine(p9 _ _).mono ?_;rintro e w1 ⟨rfl,rfl⟩)|(go_at_call 200;refine(Qz _).mono ?_;rintro e w1 ⟨rfl,hb⟩))
    go_loop [6,29] (fun x n=>∃ k:Nat,n=.int .i64 k∧k≤22∧∀ j,j<k→Lib.hasPrefix s.data.toList (iI.getD j [])=false) (fun _ n=>22 - (intOf n).toNat)
    case atStart=>exact⟨0,rfl,by omega,fun j hj=>absurd hj (by omega)⟩
    case round =>
     obtain⟨k,rfl,hk,hj⟩:=hrel;have HJ:=ah hj;have HP:=ah (Tryz.strings_HasPrefix s);clear hj
     by_cases hlt:k<22
     ·have hi:(k:Int)<22:=by omega
      have hx:=MC k hlt
      cases hb2:Lib.hasPrefix s.data.toList (yO k).data.toList with
      | true =>
       have hf:=Fa s.data.toList iI k (by rw[Ub];exact hlt) HJ.out hb2
       have hq:dY s.data.toList=(4,(iI.getD k []).length,0):=by rw[HQ.out,Aq,pX,hf]
       have HB:=ah hb2;have Mw:=ah hq
       have hX:yO k=s.extract 0 (iI.getD k []).length:=by
        refine pW ?_;rw[gN,List.drop_zero,JF];exact(List.prefix_iff_eq_take.1 (List.isPrefixOf_iff_prefix.1 hb2))
       have HX:=ah hX;clear hb2 hf hq hX;go_wp2_with (go_at_call 194;refine(HP.out (yO k) _).mono ?_;rw[HB.out];rintro e w2 ⟨rfl,rfl⟩);go_ret3
       refine⟨jW (t:=dY s.data.toList) ?_ ?_ ?_,hb⟩<;>rw[Mw.out]
       ·rfl
       ·exact HX.out
       ·rfl
      | false =>
       have HB:=ah hb2;clear hb2;go_wp2_with (go_at_call 194;refine(HP.out (yO k) _).mono ?_;rw[HB.out];rintro e w2 ⟨rfl,rfl⟩)
       go_round
       case rel =>
        refine⟨k+1,by go_num,by omega,fun j hj=>?_⟩
        rcases Nat.lt_or_ge j k with h|h
        ·exact HJ.out j h
        ·have:j=k:=by omega
         subst this;exact HB.out
       case measure=>simp[intOf];omega
     ·have hk2:k=22:=by omega
      subst hk2
      have hq:dY s.data.toList=(0,0,20):=by rw[HQ.out,Aq,pX,QA _ _ (fun j hj=>HJ.out j hj)]
      have Mw:=ah hq;clear hq hlt hk;go_wp2;go_ret3
      refine⟨jW (t:=dY s.data.toList) ?_ ?_ ?_,hb⟩<;>rw[Mw.out]
      ·rfl
      ·exact sJ s
      ·rfl
 ·have hz:s.size=0:=by omega
  have he:s.toList.isEmpty=true:=by rw[qO];exact decide_eq_true hz
  have hn:s.data.toList=[]:=List.eq_nil_of_length_eq_zero (by rw[← Lib.size_eq];exact hz)
  have hq:dY s.data.toList=(5,0,0):=by rw[hn,dY]
  have HQ:=ah hq;clear hq hn hz h0;go_enter Tryz.func125,Tryz.ntmps125;go_wp2;go_ret3
  refine⟨jW (t:=dY s.data.toList) ?_ ?_ ?_,Below.refl _ _⟩<;>rw[HQ.out]
  ·rfl
  ·exact sJ s
  ·rfl
end Go.Proofs.YtknicmmigbhpcaaGreatDoor

namespace Go.Proofs
theorem Tryz.QC:(Tryz.prog.info? 136).map (fun i=>(i.zero,i.size,i.bytes))=some (some (.agg #[.int .i64 0,.string ByteArray.empty,.string ByteArray.empty,.int .i64 0]),4,48):=by kernel_rfl
end Go.Proofs

namespace Go.Proofs.YtknicmmigbhpcaaGreatDoor
open Go.RowKit
def ME (acc:List Tok):Except (Nat × Nat) (List Tok)→Except (Nat × Nat) (List Tok)
 | .error e=>.error e
 | .ok l=>.ok (acc++l)
theorem Uc (x:Except (Nat × Nat) (List Tok)):ME [] x=x:=by cases x<;>rfl
theorem QD (a b:List Tok)(x:Except (Nat × Nat) (List Tok)):ME a (ME b x)=ME (a++b) x:=by
 cases x
 ·rfl
 ·simp[ME]
theorem Ud (n:Nat)(T:List UInt8)(p k:Nat)(t:Nat × Nat × Nat)(hk:bK false T=k)(ht:dY (T.drop k)=t)(he:t.2.2≠0):nQ (n+1) T p=.error (t.2.2,p+k):=by
 subst hk ht;rw[nQ];rw[if_pos he]
theorem Ue (n:Nat)(T:List UInt8)(p k:Nat)(t:Nat × Nat × Nat)(hk:bK false T=k)(ht:dY (T.drop k)=t)(he:t.2.2=0)(h5:t.1=5):nQ (n+1) T p=.ok [⟨5,T.take k,[],p+k⟩]:=by
 subst hk ht;rw[nQ];rw[if_neg (by omega),if_pos h5]
theorem QE (n:Nat)(T:List UInt8)(p k:Nat)(t:Nat × Nat × Nat)(hk:bK false T=k)(ht:dY (T.drop k)=t)(he:t.2.2=0)(h5:t.1≠5) :
  nQ (n+1) T p=ME [⟨t.1,T.take k,(T.drop k).take t.2.1,p+k⟩] (nQ n (T.drop (k+t.2.1)) (p+k+t.2.1)):=by
 subst hk ht;rw[nQ];rw[if_neg (by omega),if_neg h5,List.drop_drop]
 cases nQ n _ _<;>rfl
theorem MF {w:World}{g:Nat}{x y z u:Value}(h0:w.cell? ⟨g,0,none⟩=some x)(h1:w.cell? ⟨g,1,none⟩=some y)(h2:w.cell? ⟨g,2,none⟩=some z)(h3:w.cell? ⟨g,3,none⟩=some u) :
  ∀ j v,[x,y,z,u][j]?=some v→w.cell? ((⟨g,0,none⟩:Addr).add j)=some v:=by
 intro j v hj
 match j,hj with
 | 0,hj=>simp at hj;subst hj;simpa [Addr.add] using h0
 | 1,hj=>simp at hj;subst hj;simpa [Addr.add] using h1
 | 2,hj=>simp at hj;subst hj;simpa [Addr.add] using h2
 | 3,hj=>simp at hj;subst hj;simpa [Addr.add] using h3
theorem own_below {w w':World}{base e sz n:Nat}{v:Value}{xs:List Value}(h:w.ownsRow base e sz v n xs)(hb:Below w.heap.size w w'):w'.ownsRow base e sz v n xs:=by
 refine⟨h.1,?_⟩
 rcases h.2 with hn|⟨g,cap,cur,hv,hg,hh,hr⟩
 ·exact .inl hn
 ·exact .inr ⟨g,cap,cur,hv,hg,by rw[hb.block g (bG hh).1];exact hh,hr⟩
theorem QF (T:List UInt8)(h:(dY T).1=5):(dY T).2.1=0:=by
 cases T with
 | nil=>rfl
 | cons c r =>
  exfalso
  rw[dY] at h
  split at h
  ·rw[lu] at h
   split at h
   ·cases h
   ·split at h<;>cases h
  ·split at h
   ·rw[nP] at h
    split at h<;>cases h
   ·rw[Aq] at h
    split at h<;>cases h
theorem QG {kd pk:Nat}{l t:List UInt8}{y z:ByteArray}{a:Int}(hy:y.data.toList=l)(hz:z.data.toList=t)(ha:a=pk) :
  [Value.int .i64 kd,.string y,.string z,.int .i64 a]=bY ⟨kd,l,t,pk⟩:=by
 subst hy hz ha
 rfl
def Ph (S:List UInt8)(w:World)(e:Ending)(w':World):Prop :=
 Below w.heap.size w w'∧match bO S with
 | .ok l=>∃ v,e=.returned (.tuple #[v,.agg #[.int .i64 0,.int .i64 0]])∧Rec w'.heap.size w' v 4 bY l
 | .error x=>e=.returned (.tuple #[.slice none 0 0,.agg #[.int .i64 x.1,.int .i64 x.2]])
theorem GY (s:ByteArray)(w:World)(hs:s.size≤1099511627776):Calls Tryz.prog 74 #[.string s] w (Ph s.data.toList w):=by
 obtain⟨i0,hi,hz0,hz1,hz2⟩:=info_parts Tryz.QC
 by_cases hbig:65536<s.size
 ·have hI:(65536:Int) < ↑s.size:=by omega
  have hq:bO s.data.toList=.error (11,0):=by rw[bO,if_pos (by rw[← Lib.size_eq];exact hbig)]
  have HQ:=ah hq;clear hq;go_enter Tryz.func74,Tryz.ntmps74;go_wp2;refine bodyPost_ret (v:=.tuple #[.slice none 0 0,.agg #[.int .i64 11,.int .i64 0]]) (by simp[results,Tryz.results74,go_sem]) rfl ?_;refine⟨(Below.refl _ _).alloc (Nat.le_refl _) _,?_⟩;rw[HQ.out]
  rfl
 ·have hI:¬ (65536:Int) < ↑s.size:=by omega
  have hq:bO s.data.toList=nQ (s.size+1) s.data.toList 0:=by rw[bO,if_neg (by rw[← Lib.size_eq];exact hbig),← Lib.size_eq]
  have HQ:=ah hq;clear hq;go_enter Tryz.func74,Tryz.ntmps74;go_wp2;generalize hw1:w.alloc (.cells #[.int .i64 0,.int .i64 0] 75)=w1
  have hb1:Below w.heap.size w w1:=by rw[← hw1];exact(Below.refl _ _).alloc (Nat.le_refl _) _
  have hf1:w1.heap[w.heap.size]?=some (.cells #[.int .i64 0,.int .i64 0] 75 (0,0)):=by rw[← hw1];exact heap_alloc_new _ _
  have hlt1:w.heap.size<w1.heap.size:=by rw[← hw1];simp
  clear hw1
  go_loopw [4,5] (fun out at0 wr=>∃ (p m:Nat) (acc:List Tok),at0=.int .i64 p∧p≤s.size∧s.size<p+m∧nQ (s.size+1) s.data.toList 0=ME acc (nQ m (s.data.toList.drop p) p)∧acc.length≤p ∧
   wr.ownsRow w1.heap.size 136 4 out acc.length (acc.flatMap bY)∧Below w1.heap.size w1 wr) (fun _ at0 _=>s.size - (intOf at0).toNat)
  case atStart=>exact⟨0,s.size+1,[],rfl,Nat.zero_le _,by omega,(Uc _).symm,Nat.le_refl _,World.ownsRow_nil _ _ _ _,Below.refl _ _⟩
  case round =>
   obtain⟨p,m,acc,rfl,hp,hm,hl,hal,hown,hb⟩:=hrel;have hz:=hb.size
   obtain⟨m,rfl⟩:∃ m',m=m'+1:=⟨m - 1,by omega⟩
   have hxl:(s.extract p s.size).data.toList=s.data.toList.drop p:=mD s p
   have hxz:(s.extract p s.size).size≤1099511627776:=by rw[ByteArray.size_extract];omega
   have hbt:=JC (s.extract p s.size) wr hxz;generalize hk:bK false (s.extract p s.size).data.toList=k at hbt
   have hkl:k≤s.size - p:=by rw[← hk,hxl];have:=mE false (s.data.toList.drop p);rwa [List.length_drop,← Lib.size_eq] at this
   have hys:((s.extract p s.size).extract 0 k).size=k:=by rw[ByteArray.size_extract,ByteArray.size_extract];omega
   have hyl:((s.extract p s.size).extract 0 k).data.toList=(s.data.toList.drop p).take k:=by rw[gN,List.drop_zero,hxl]
   generalize hy:(s.extract p s.size).extract 0 k=y at hbt hys hyl;have Z7:(s.extract (p+k) s.size).data.toList=s.data.toList.drop (p+k):=mD s _
   have huz:(s.extract (p+k) s.size).size≤1099511627776:=by rw[ByteArray.size_extract];omega
   have htk:=fun w=>QB (s.extract (p+k) s.size) w huz
   have hpk:(p:Int)+(k:Int)≤↑s.size:=by omega
   generalize ht:dY (s.extract (p+k) s.size).data.toList=t at htk
   have htl:t.2.1≤s.size - (p+k):=by rw[← ht,Z7];have:=wJ (s.data.toList.drop (p+k));rwa [List.length_drop,← Lib.size_eq] at this
   obtain⟨kd,n,er⟩:=t;simp only at htl
   have hzs:((s.extract (p+k) s.size).extract 0 n).size=n:=by rw[ByteArray.size_extract,ByteArray.size_extract];omega
   have hzl:((s.extract (p+k) s.size).extract 0 n).data.toList=(s.data.toList.drop (p+k)).take n:=by rw[gN,List.drop_zero,Z7]
   rw[hxl] at hk;rw[Z7,← List.drop_drop] at ht;have HB:=ah hbt;have HT:=ah htk;have HYL:=ah hyl;have HZL:=ah hzl;have Z8:=ah ht;have HK:=ah hk;have HL:=ah hl;have HZS:=ah hzs;clear hbt htk hy hyl Z7 hxl hk hl huz hxz ht hzl hzs;go_wp2_with (first|(go_at_call 124;refine HB.out.mono ?_;rintro e w2 ⟨rfl,hb2⟩)|(go_at_call 125;refine(HT.out _).mono ?_));rintro e w3 ⟨he,hb3⟩;obtain rfl:e=.returned (.tuple #[.int .i64 kd,.string ((s.extract (p+k) s.size).extract 0 n),.int .i64 er]):=he;have afh:=hb3.size;have afi:=hb2.size;have vD:Below w1.heap.size w1 w3:=(hb.trans (hb2.mono hz)).trans (hb3.mono (by omega));have hown3:=own_below (own_below hown hb2) hb3
   have hf3:w3.heap[w.heap.size]?=some (.cells #[.int .i64 0,.int .i64 0] 75 (0,0)):=by rw[vD.block _ hlt1];exact hf1
   have hbw:Below w.heap.size w w3:=hb1.trans (vD.mono (by omega));clear hb2 hb3 hown hb
   by_cases her:er=0
   ·subst her
    generalize hzz:(s.extract (p+k) s.size).extract 0 n=z;have HZZ:=ah hzz
    have hzn:z.size=n:=by rw[← hzz];exact HZS.out
    have abS:z.data.toList=(s.data.toList.drop (p+k)).take n:=by rw[← hzz];exact HZL.out
    have adD:=ah abS;clear hzz abS;go_wp2_with (at_builtin;refine wpList_append_own _ rfl _ _ 86 rfl w1.heap.size 136 i0 (.agg #[.int .i64 0,.string ByteArray.empty,.string ByteArray.empty,.int .i64 0]) 4 48 Tryz.underlying86 hi hz0 hz1 hz2 rfl (by decide) _ _ _ rfl (hown3.alloc _) ⟨w3.heap.size,0,none⟩ 1 1 [.int .i64 kd,.string y,.string z,.int .i64 (p+k)] rfl rfl ?c1 ?c2 ?c3 ?c4 ?c5 ?_)
    case c1=>exact MF (by go_simp) (by go_simp) (by go_simp) (by go_simp)
    case c2=>intro u hu;simp at hu;rcases hu with rfl|rfl|rfl|rfl<;>rfl
    case c3=>unfold maxLen;omega
    case c4=>omega
    case c5=>simp;omega
    intro v' w4 hown' hgrow _;have hb4:Below w1.heap.size w1 w4:=(vD.alloc (by omega) _).grown hgrow (by simp;omega) (fun q hq=>(hown3.lt q hq).1);have GZ:=gL (hown3.alloc _) hgrow ((Lib.alloc_old w3 _ _ (by omega)).trans hf3) (by decide);have hcl:=QG (kd:=kd) (pk:=p+k) HYL.out adD.out (by rfl:((p:Int)+(k:Int))=((p+k:Nat):Int));rw[hcl] at hown'
    have wU:w4.ownsRow w1.heap.size 136 4 v' (acc++[Tok.mk kd ((s.data.toList.drop p).take k) ((s.data.toList.drop (p+k)).take n) (p+k)]).length ((acc++[Tok.mk kd ((s.data.toList.drop p).take k) ((s.data.toList.drop (p+k)).take n) (p+k)]).flatMap bY):=by
     rw[List.flatMap_append,bN];exact hown'
    have afj:=hb4.size;have lQ:Below w.heap.size w w4:=hb1.trans (hb4.mono (by omega));clear hgrow hown' hcl hown3 vD hbw
    by_cases h5:kd=5
    ·have hk5:((kd:Int) == 5)=true:=by rw[h5];rfl
     have hq:=HL.out;rw[Ue _ _ _ _ _ HK.out Z8.out rfl h5] at hq
     have hn0:n=0:=by have:=QF ((s.data.toList.drop p).drop k) (by rw[Z8.out];exact h5);rw[Z8.out] at this;exact this
     rw[hn0,List.take_zero,h5] at wU;have Mw:=ah hq;clear hq h5 hn0
     have f0:w4.cell? ⟨w.heap.size,0,none⟩=some (.int .i64 0):=by rw[Lib.cell_of_heap GZ];rfl
     have f1:w4.cell? ⟨w.heap.size,1,none⟩=some (.int .i64 0):=by rw[Lib.cell_of_heap GZ];rfl
     have z0:∀ j,w4.frozen? ⟨w.heap.size,j,none⟩=false:=by intro j;simp[World.frozen?,GZ]
     go_wp2;refine bodyPost_ret (v:=.tuple #[v',.agg #[.int .i64 0,.int .i64 0]]) (by simp[results,Tryz.results74,go_sem,f0,f1]) rfl ?_;refine⟨(lQ.setCell (Nat.le_refl _) _).setCell (Nat.le_refl _) _,?_⟩;rw[HQ.out,Mw.out];exact⟨_,rfl,Sl.eZ (ownsRow_setCell_below (ownsRow_setCell_below wU hlt1 _) hlt1 _)⟩
    ·have hk5:((kd:Int) == 5)=false:=by rw[← Bool.not_eq_true,beq_iff_eq];omega
     have hq:=HL.out;rw[QE _ _ _ _ _ HK.out Z8.out rfl h5,QD,List.drop_drop,List.drop_drop,← Nat.add_assoc p k] at hq
     have hn0:0<n:=by have:=wK ((s.data.toList.drop p).drop k) (by rw[Z8.out]) (by rw[Z8.out];exact h5);rw[Z8.out] at this;exact this
     have Mw:=ah hq;clear hq;go_wp2
     go_roundw
     case rel=>exact⟨p+k+n,m,_,by go_num,by omega,by omega,Mw.out,by rw[bN];simp;omega,wU,hb4⟩
     case measure=>simp[intOf];omega
   ·have hne:((er:Int) == 0)=false:=by rw[← Bool.not_eq_true,beq_iff_eq];omega
    have f0:w3.cell? ⟨w.heap.size,0,none⟩=some (.int .i64 0):=by rw[Lib.cell_of_heap hf3];rfl
    have f1:w3.cell? ⟨w.heap.size,1,none⟩=some (.int .i64 0):=by rw[Lib.cell_of_heap hf3];rfl
    have z0:∀ j,w3.frozen? ⟨w.heap.size,j,none⟩=false:=by intro j;simp[World.frozen?,hf3]
    have hq:=HL.out;rw[Ud _ _ _ _ _ HK.out Z8.out her] at hq;have Mw:=ah hq;clear hq;go_wp2;refine bodyPost_ret (v:=.tuple #[.slice none 0 0,.agg #[.int .i64 er,.int .i64 (p+k)]]) (by simp[results,Tryz.results74,go_sem,f0,f1]) rfl ?_;refine⟨(hbw.setCell (Nat.le_refl _) _).setCell (Nat.le_refl _) _,?_⟩;rw[HQ.out,Mw.out]
    rfl
theorem sizeBuilder:(Tryz.prog.info? 153).map (·.size)=some 2:=by kernel_rfl
class QH (T:TypeId):Prop where
 lies:liesAt Tryz.prog Tryz.prog.depth T (2 / Tryz.prog.cellsOf T) 0 153 1=true
 ne:T≠5
instance:QH 153:=⟨by kernel_rfl,by decide⟩
instance:QH 155:=⟨by kernel_rfl,by decide⟩
theorem Tryz.infoByte:(Tryz.prog.info? 5).map (fun i=>(i.zero,i.size,i.bytes))=some (some (.int .u8 0),1,1):=by kernel_rfl
theorem Bw (b:Nat)(w:World)(h0:w.cell? ⟨b,0,none⟩=some (.pointer (some ⟨b,0,none⟩))) :
  Calls Tryz.prog 130 #[.pointer (some ⟨b,0,none⟩)] w fun e w'=>e=.returned (.tuple #[])∧w'=w:=by
 obtain⟨j,hj,_⟩:=Option.map_eq_some_iff.1 sizeBuilder;go_enter Tryz.func130,Tryz.ntmps130;go_wp2;rw[Lib.run_neq_ptr_same w _ Tryz.underlying150 hj];go_wp2
 go_end0
 exact⟨rfl,rfl⟩
theorem Ar {T:TypeId}[hT:QH T](b:Nat)(w:World)(h0:w.cell? ⟨b,0,none⟩=some (.pointer none))(hsh:w.shape? b=some (T,2))(hfz:w.frozen? ⟨b,0,none⟩=false) :
  Calls Tryz.prog 130 #[.pointer (some ⟨b,0,none⟩)] w fun e w'=>e=.returned (.tuple #[])∧w'=w.setCell ⟨b,0,none⟩ (.pointer (some ⟨b,0,none⟩)):=by
 obtain⟨j,hj,hjs⟩:=Option.map_eq_some_iff.1 sizeBuilder;go_enter Tryz.func130,Tryz.ntmps130;go_wp2;rw[Lib.run_to_unsafe w ⟨b,0,none⟩ Tryz.underlying150 Tryz.underlying277 hj (by rw[hjs];decide) hsh (Nat.zero_lt_succ 1)];simp only[Result.andThen];rw[Oper.upon_value];go_wp2;rw[run_callFunc_extern Tryz.func210 (by kernel_rfl) (by kernel_rfl) (by kernel_rfl) (e:=Extern.AbiNoEscape.same) (by kernel_rfl)];rw[Lib.run_noEscape];simp only[Result.andThen];rw[Oper.upon_value];go_wp2;rw[Lib.run_from_unsafe w ⟨b,0,none⟩ Tryz.underlying277 Tryz.underlying150 hj hsh hT.lies];simp only[Result.andThen];rw[Oper.upon_value];go_wp2
 go_end0
 exact⟨rfl,rfl⟩
theorem JG {T:TypeId}[hT:QH T](B b:Nat)(bs:List Value)(w:World)(h:Lib.IsBuilderF T 5 B b bs w) :
  Calls Tryz.prog 130 #[.pointer (some ⟨b,0,none⟩)] w fun e w'=>e=.returned (.tuple #[])∧(Lib.BuilderAtF T 5 B b (.pointer (some ⟨b,0,none⟩)) bs w'∧Below B w w'∧Lib.OthersKept 5 (some b) w w'):=by
 rcases h with h|h
 ·refine(Ar b w h.cell0 h.shape h.frozen0).mono ?_
  rintro e w' ⟨rfl,rfl⟩;exact⟨rfl,h.used _,(Below.refl B w).setCell (p:=⟨b,0,none⟩) h.1 _,(Lib.OthersKept.refl _ _ w).setCell ⟨b,0,none⟩ rfl _⟩
 ·refine(Bw b w h.cell0).mono ?_
  rintro e w' ⟨rfl,rfl⟩;exact⟨rfl,h,Below.refl B _,Lib.OthersKept.refl _ _ _⟩
theorem writeString {T:TypeId}[hT:QH T](B b:Nat)(bs:List Value)(s:ByteArray)(w:World)(h:Lib.IsBuilderF T 5 B b bs w)(hlen:bs.length+s.size≤140737488355328)(hBw:B≤w.heap.size) :
  Calls Tryz.prog 79 #[.pointer (some ⟨b,0,none⟩),.string s] w fun e w'=>e=.returned (.tuple #[.int .i64 s.size,.nilIface])∧(Lib.IsBuilderF T 5 B b (bs++Lib.strCells s) w'∧Below B w w'∧Lib.OthersKept 5 (some b) w w'):=by
 obtain⟨i0,hi,hz0,hz1,hz2⟩:=info_parts Tryz.infoByte;go_enter Tryz.func79,Tryz.ntmps79;go_wp2_with (go_at_call 130;refine(JG B b bs _ h).mono ?_);rintro e w1 ⟨rfl,h1,hb1,hk1⟩;obtain⟨hB,v,hbk,hown,hne⟩:=h1
 have c0:w1.cell? ⟨b,0,none⟩=some (.pointer (some ⟨b,0,none⟩)):=by rw[Lib.cell_of_heap hbk];rfl
 have c1:w1.cell? ⟨b,1,none⟩=some v:=by rw[Lib.cell_of_heap hbk];rfl
 go_wp2_with (at_builtin;refine Lib.wpList_append_own_stringF _ rfl _ _ 151 9 rfl B 5 i0 Tryz.underlying151 Tryz.underlying9 hi hz0 hz1 hz2 _ _ _ rfl hown s rfl ?c3 ?c4 ?c5 ?_)
 case c3=>unfold maxLen;omega
 case c4=>omega
 case c5=>have:=hb1.size;omega
 intro v' w2 hown' hgrow _
 have hlt:b<w1.heap.size:=by
  rcases Nat.lt_or_ge b w1.heap.size with h'|h'
  ·exact h'
  ·simp[Array.getElem?_eq_none h'] at hbk
 have hb2:w2.heap[b]?=some (.cells #[.pointer (some ⟨b,0,none⟩),v] T (0,0)):=by
  rw[hgrow.block b hlt (fun e=>hne e.symm)];exact hbk
 have d0:w2.cell? ⟨b,0,none⟩=some (.pointer (some ⟨b,0,none⟩)):=by rw[Lib.cell_of_heap hb2];rfl
 have d1:w2.cell? ⟨b,1,none⟩=some v:=by rw[Lib.cell_of_heap hb2];rfl
 have f1:w2.frozen? ⟨b,1,none⟩=false:=Lib.frozen_of_heap hb2 1
 obtain⟨ao,n',cap,rfl⟩:∃ ao n' cap,v'=.slice ao n' cap:=by
  rcases hown'.2 with ⟨hv,_⟩|⟨g,cap,cur,fz,hv,_⟩
  ·exact⟨_,_,_,hv⟩
  ·exact⟨_,_,_,hv⟩
 go_wp2;go_ret2;refine⟨rfl,?_,?_,(hk1.grown hgrow (Lib.ownsRowF_kind hown)).setCell ⟨b,1,none⟩ rfl _⟩
 ·exact Or.inr (Lib.BuilderAtF.put (T:=T) (e:=5) hB hb2 (bs':=bs++Lib.strCells s) (by simpa [Lib.strCells_length] using hown') hT.ne)
 ·exact(hb1.grown hgrow (by have:=hb1.size;omega) (fun k hk=>(hown.lt k hk).1)).setCell (p:=⟨b,1,none⟩) hB _
def jO (B b:Nat)(acc:List UInt8)(w:World)(T:TypeId:=153):Prop:=Lib.IsBuilderF T 5 B b (Lib.byteCells acc) w
theorem jO.at {T:TypeId}{B b:Nat}{acc:List UInt8}{w:World}(h:jO B b acc w T):∃ p,Lib.BuilderAtF T 5 B b p (Lib.byteCells acc) w:=by
 rcases h with h|h
 ·exact⟨_,h⟩
 ·exact⟨_,h⟩
theorem jO.le {T:TypeId}{B b:Nat}{acc:List UInt8}{w:World}(h:jO B b acc w T):B≤b:=by obtain⟨p,h⟩:=h.at;exact h.1
theorem jO.lt {T:TypeId}{B b:Nat}{acc:List UInt8}{w:World}(h:jO B b acc w T):b<w.heap.size:=by obtain⟨p,h⟩:=h.at;exact h.lt
theorem jO.alloc {T:TypeId}{B b:Nat}{acc:List UInt8}{w:World}(h:jO B b acc w T)(o:Obj):jO B b acc (w.alloc o) T:=by
 rcases h with h|h
 ·exact Or.inl (h.alloc o)
 ·exact Or.inr (h.alloc o)
theorem jO.drew {T:TypeId}{B b:Nat}{acc:List UInt8}{w:World}(h:jO B b acc w T):jO B b acc w.drew T:=by
 rcases h with h|h
 ·exact Or.inl h.drew
 ·exact Or.inr h.drew
theorem jO.fresh {T:TypeId}(w:World):jO w.heap.size w.heap.size [] (w.alloc (.cells #[.pointer none,.slice none 0 0] T)) T :=
 Lib.IsBuilderF.of (Lib.fresh_isBuilder T 5 w)
theorem jO.mono {T:TypeId}{B B' b:Nat}{acc:List UInt8}{w:World}(h:jO B b acc w T)(hb:B'≤B):jO B' b acc w T:=by
 have key:∀ p,Lib.BuilderAtF T 5 B b p (Lib.byteCells acc) w→Lib.BuilderAtF T 5 B' b p (Lib.byteCells acc) w:=by
  rintro p ⟨h1,v,h2,⟨h3,h4⟩,h5⟩;refine⟨by omega,v,h2,⟨h3,?_⟩,h5⟩
  rcases h4 with h4|⟨g,cap,cur,fz,q1,q2,q3⟩
  ·exact Or.inl h4
  ·exact Or.inr ⟨g,cap,cur,fz,q1,by omega,q3⟩
 rcases h with h|h
 ·exact Or.inl (key _ h)
 ·exact Or.inr (key _ h)
theorem jO.ne {T:TypeId}{B b k:Nat}{acc:List UInt8}{w:World}(h:jO B b acc w T){cs:Array Value}{T':TypeId}{fr:Nat × Nat}(hk:w.heap[k]?=some (.cells cs T' fr))(hT:T'≠T):k≠b:=by
 obtain⟨p,_,v,hb,_⟩:=h.at;rintro rfl;rw[hk] at hb;simp only[Option.some.injEq,Obj.cells.injEq] at hb;exact hT hb.2.1
theorem jO.block {T:TypeId}{B b k:Nat}{acc:List UInt8}{w w':World}(h:jO B b acc w T)(ho:Lib.OthersKept 5 (some b) w w'){cs:Array Value}{T':TypeId}{fr:Nat × Nat}(hk:w.heap[k]?=some (.cells cs T' fr))
  (hT:T'≠T) (he:T'≠5):w'.heap[k]?=some (.cells cs T' fr) :=
 ho k _ hk (fun e=>h.ne hk hT (Option.some.inj e)) (fun c fz e=>he (by injection e))
theorem jO.row {T:TypeId}{B b base e sz n:Nat}{v:Value}{xs:List Value}{acc:List UInt8}{w w':World}(h:jO B b acc w T)(ho:Lib.OthersKept 5 (some b) w w')(hr:w.ownsRow base e sz v n xs)
  (hT:e≠T) (he:e≠5):w'.ownsRow base e sz v n xs:=by
 obtain⟨h1,h2⟩:=hr;refine⟨h1,?_⟩
 rcases h2 with h2|⟨g,cap,cur,q1,q2,q3,q4⟩
 ·exact Or.inl h2
 ·exact Or.inr ⟨g,cap,cur,q1,q2,h.block ho q3 hT he,q4⟩
theorem jO.grown {T:TypeId}{B b base e sz n:Nat}{v:Value}{xs:List Value}{acc:List UInt8}{w w':World}(h:jO B b acc w T)(hr:w.ownsRow base e sz v n xs)(hg:w.grownBy w' v.ownBlock)
  (hT:e≠T) (he:e≠5):jO B b acc w' T:=by
 have hrow:∀ k,v.ownBlock=some k→∃ cs,w.heap[k]?=some (.cells cs e (0,0)):=by
  intro k hk
  rcases hr.2 with ⟨rfl,_⟩|⟨g,cap,cur,rfl,_,hgg,_⟩
  ·simp[Value.ownBlock] at hk
  ·simp[Value.ownBlock] at hk;subst hk;exact⟨_,hgg⟩
 have key:∀ p,Lib.BuilderAtF T 5 B b p (Lib.byteCells acc) w→Lib.BuilderAtF T 5 B b p (Lib.byteCells acc) w':=by
  rintro p ⟨h1,u,h2,h3,h5⟩;have hlt:b<w.heap.size:=h.lt;refine⟨h1,u,?_,h3.kept hg ?_,h5⟩
  ·rw[hg.block b hlt (fun q=>?_)]
   ·exact h2
   ·obtain⟨cs,hcs⟩:=hrow b q.symm
    exact h.ne hcs hT rfl
  ·rcases h3.2 with ⟨rfl,_⟩|⟨g,cap,cur,fz,rfl,_,hgg,_⟩
   ·exact Or.inl rfl
   ·refine Or.inr (fun q=>?_)
    obtain⟨cs,hcs⟩:=hrow g (by rw[← q];rfl);rw[hcs] at hgg;simp only[Option.some.injEq,Obj.cells.injEq] at hgg;exact he hgg.2.1
 rcases h with h|h
 ·exact Or.inl (key _ h)
 ·exact Or.inr (key _ h)
theorem ku {T:TypeId}[QH T](B b:Nat)(acc:List UInt8)(s:ByteArray)(w:World)(h:jO B b acc w T)(hlen:acc.length+s.size≤140737488355328)(hBw:B≤w.heap.size) :
  Calls Tryz.prog 79 #[.pointer (some ⟨b,0,none⟩),.string s] w fun e w'=>e=.returned (.tuple #[.int .i64 s.size,.nilIface])∧jO B b (acc++s.data.toList) w' T∧Below B w w'∧Lib.OthersKept 5 (some b) w w':=by
 have:=writeString B b (Lib.byteCells acc) s w h (by rw[Lib.byteCells_length];exact hlen) hBw;rw[Lib.strCells_eq,← Lib.byteCells_append] at this;exact this
theorem zS (B b:Nat)(acc:List UInt8)(w:World)(h:jO B b acc w)(hBw:B≤w.heap.size) :
  Calls Tryz.prog 77 #[.pointer (some ⟨b,0,none⟩)] w fun e w'=>e=.returned (.string ⟨acc.toArray⟩)∧jO B b acc w'∧Below B w w'∧Lib.OthersKept 5 (some b) w w' :=
 Tryz.Builder_String_any_k B b acc w h hBw
def gq:List Tok→List UInt8
 | []=>[]
 | t :: l=>t.lead++t.text++gq l
theorem Bz:∀ (l:List Tok),(gq l).length=fP l l.length
 | []=>rfl
 | t :: l=>by rw[gq,bN,bN,Bz l,eG,jY,lI]
theorem sK:∀ (l:List Tok) (t:Tok),gq (l++[t])=gq l++(t.lead++t.text)
 | [],t=>by simp[gq]
 | x :: l,t=>by simp only[List.cons_append,gq,sK l t,List.append_assoc]
theorem Laid.BA {T:List UInt8}{p:Nat}{l:List Tok}(h:Laid T p l):∀ k,k≤l.length→gq (l.take k)=T.take (fP l k)
 | 0,_=>by simp[gq,vk]
 | k+1,hk=>by
  have hl:k<l.length:=hk;have hle:=h.inside (k+1) hk;rw[jA l k hl,lI] at hle;rw[List.take_succ_eq_append_getElem hl,sK,h.BA k (by omega),jA l k hl,lI];have h1:=h.lead k hl;have h2:=h.text k hl;generalize fP l k=a at h1 h2 hle ⊢;rw[← Nat.add_assoc,List.take_add (i:=a+l[k].lead.length),List.take_add (i:=a),h1,h2,List.append_assoc]
theorem Laid.JH {T:List UInt8}{p:Nat}{l:List Tok}(h:Laid T p l):gq l=T:=by
 have:=h.BA l.length (Nat.le_refl _);rw[List.take_length,h.whole,List.take_length] at this;exact this
theorem rJ:∀ (l:List Tok) (k:Nat),k≤l.length→(gq (l.take k)).length=fP l k
 | l,0,_=>by simp[gq,vk]
 | [],k+1,h=>absurd h (by simp)
 | t :: l,k+1,h=>by
  rw[List.take_succ_cons,gq,bN,bN,rJ l k (by simpa using h),jY,lI]
theorem MG (l:List Tok):∀ (i j:Nat),i≤j→j≤l.length→fP l i≤fP l j:=by
 intro i j h hj
 induction j with
 | zero=>exact Nat.le_of_eq (by rw[Nat.le_zero.1 h])
 | succ j ih =>
  rcases Nat.lt_or_ge i (j+1) with h'|h'
  ·have:=ih (by omega) (by omega)
   rw[jA l j (by omega)];omega
  ·obtain rfl:i=j+1:=by omega
   exact Nat.le_refl _
theorem iM (y:List UInt8):∃ Y:ByteArray,Y.data.toList=y∧ByteArray.mk y.toArray=Y:=⟨⟨y.toArray⟩,rfl,rfl⟩
theorem QI (v:Value)(l:List Tok)(w:World)(hl:l.length≤1099511627776)(hn:fP l l.length≤1099511627776)(hv:Rec w.heap.size w v 4 bY l) :
  Calls Tryz.prog 177 #[v] w fun e w'=>e=.returned (.string ⟨(gq l).toArray⟩)∧Below w.heap.size w w':=by
 obtain⟨ao,cap,rfl,hcap,hf⟩:=hv.form (fun _=>rfl);clear hv;go_enter Tryz.func177,Tryz.ntmps177;go_wp2
 go_loopw [8] (fun i wr=>∃ k:Nat,k≤l.length∧i=.int .i64 k∧jO w.heap.size w.heap.size (gq (l.take k)) wr∧Below w.heap.size w wr) (fun i _=>l.length - (intOf i).toNat)
 case atStart=>exact⟨0,Nat.zero_le _,rfl,jO.fresh w,(Below.refl _ _).alloc (Nat.le_refl _) _⟩
 case round =>
  obtain⟨k,hk,rfl,hbd,hbl⟩:=hrel;have hz:=hbl.size
  by_cases hlt:k<l.length
  ·obtain⟨b,off,rfl,hb,hcell⟩:=hf (by omega)
   have hx0:=(hbl.cell (p:=⟨b,off+k * 4,none⟩) hb).trans (hcell k 0 _ hlt rfl);have hx1:=(hbl.cell (p:=⟨b,off+k * 4+1,none⟩) hb).trans (hcell k 1 _ hlt rfl);have hx2:=(hbl.cell (p:=⟨b,off+k * 4+2,none⟩) hb).trans (hcell k 2 _ hlt rfl);have hx3:=(hbl.cell (p:=⟨b,off+k * 4+3,none⟩) hb).trans (hcell k 3 _ hlt rfl);have hmo:=MG l (k+1) l.length hlt (Nat.le_refl _);rw[jA l k hlt,lI,← rJ l k hk] at hmo
   have hsn:gq (l.take (k+1))=gq (l.take k)++(l[k].lead++l[k].text):=by rw[List.take_succ_eq_append_getElem hlt,sK]
   generalize l[k]=t at hx0 hx1 hx2 hx3 hmo hsn;obtain⟨c,x,y,q⟩:=t;simp only at hx0 hx1 hx2 hx3 hmo hsn;obtain⟨X,rfl,eX⟩:=iM x;obtain⟨Y,rfl,eY⟩:=iM y;rw[eX] at hx1;rw[eY] at hx2;simp only[aK] at hmo;generalize gq (l.take k)=acc at hbd hmo hsn;have HS:=ah hsn;have adE:=hbd.alloc (.cells #[.int .i64 c,.string X,.string Y,.int .i64 q] 136);have adF:=hbl.alloc hz (.cells #[.int .i64 c,.string X,.string Y,.int .i64 q] 136);clear hcell hf hsn eX eY;go_wp2_with (go_at_call 79;refine(ku w.heap.size w.heap.size acc (X++Y) _ adE ?c1 ?c2).mono ?_)
   case c1=>simp only[ByteArray.size_append];omega
   case c2=>simp;omega
   rintro e w2 ⟨rfl,abT,hb2,ho2⟩;rw[zM,← HS.out] at abT;clear ho2;go_wp2
   go_roundw
   case rel=>exact⟨k+1,by omega,by go_num,abT,adF.trans hb2⟩
   case measure=>simp[intOf];omega
  ·have hkl:k=l.length:=by omega
   subst hkl;rw[List.take_length] at hbd;clear hf;go_wp2_with (go_at_call 77;refine(zS w.heap.size w.heap.size _ _ hbd hz).mono ?_;rintro e w4 ⟨rfl,Uf,hb4,LY⟩);go_ret;exact⟨rfl,hbl.trans hb4⟩
end Go.Proofs.YtknicmmigbhpcaaGreatDoor

namespace Go.Proofs.YtknicmmigbhpcaaGreatDoor
open Go.RowKit
open Go.RowKit
open Go.RowKit
open Go.RowKit
end Go.Proofs.YtknicmmigbhpcaaGreatDoor
