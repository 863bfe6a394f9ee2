/- Walks and plain laws: ZedW3, BytesRev, DigitsW, SizeW, AtsW. -/
import Derived.Test.YtemkhbmkaalgdaaGreatDoorQ22
import Derived.Laws.BitsAllLaws
import Derived.Lib.UnsafeStr
import Derived.Laws.IdiomStrings
set_option maxHeartbeats 16000000
set_option maxRecDepth 100000
namespace Go.Proofs.YtemkhbmkaalgdaaGreatDoor
open Go.RowKit Go
theorem or_words (r x:Nat)(hr:r<4294967296)(hx:x<4294967296):bits BinOp.or IntKind.u64 ((r:Int) * 4294967296) (x:Int)=(r:Int) * 4294967296+(x:Int):=by
 have e:((r:Int) * 4294967296)=((r * 4294967296:Nat):Int):=by omega
 have h:(r * 4294967296) ||| x=r * 4294967296+x:=by
  rw [show (4294967296:Nat)=2 ^ 32 from rfl,← Nat.shiftLeft_eq,Nat.shiftLeft_add_eq_or_of_lt (by omega)]
 rw [e,u64_or_nat _ _ (by omega) (by omega),h]
 omega
theorem set_last {α:Type}(z v:α)(k:Nat)(L:List α):(List.replicate (k+1) z++L).set k v=List.replicate k z++v :: L:=by
 rw [List.replicate_succ',List.append_assoc,List.set_append_right _ _ (by simp),List.length_replicate,Nat.sub_self]
 rfl
def ShortPost (b:Nat)(ws:List Nat)(w:World)(e:Ending)(w':World):Prop :=
 ∃ cap,e=.returned (.tuple #[.slice (some ⟨w.heap.size,0,none⟩) (trimW (shortF b ws).1).length cap,.int .u64 ((shortF b ws).2:Nat)])∧Wd (fun k=>w.heap.size≤k) w' (.slice (some ⟨w.heap.size,0,none⟩) (trimW (shortF b ws).1).length cap) (trimW (shortF b ws).1)∧Below w.heap.size w w'
theorem zshort_any (P:Nat→Prop)(ao:Option Addr)(cap:Nat)(ws:List Nat)(b:Nat)(w:World)(h:Wd P w (.slice ao ws.length cap) ws)(hw:∀ x∈ws,x<4294967296)(hb:0<b)(hb9:b≤1000000000)(hn:ws.length≤1000) :
  Calls Tryz.prog 100 #[.slice ao ws.length cap,.int .u64 b] w (ShortPost b ws w):=by
 obtain ⟨i0,hi,hz0,hz1,hz2⟩:=info_parts Tryz.infoU32
 obtain ⟨ao',cap',hv,hc1,hf⟩:=h.form
 simp only [Value.slice.injEq] at hv
 obtain ⟨rfl,-,rfl⟩:=hv
 have HF:=Lib.hid hf
 have HW:=Lib.hid hw
 have hmk:=run_make (P:=Tryz.prog) w 35 175 i0 (.int .u32 0) Tryz.underlying35 hi hz0 .i64 .i64 ws.length ws.length (by omega) (by omega) (by rw [hz2];omega) (by omega)
 rw [hz1] at hmk
 clear hf h hw
 go_enter Tryz.func100,Tryz.ntmps100
 go_wp2
 have hnew:=heap_alloc_new w (.cells (madeCells #[Value.int .u32 0] ws.length) 175)
 have hbw:=below_new w (.cells (madeCells #[Value.int .u32 0] ws.length) 175)
 clear hmk
 generalize w.alloc _=w2 at hnew hbw ⊢
 go_loopw [7,8] (fun rv q wr=>∃ (k:Nat) (i:Int) (cs:Array Value),k≤ws.length∧q=.int .i64 i∧i+1=(k:Int)∧rv=.int .u64 ((shortF b (ws.drop k)).2:Nat)∧wr.heap[w.heap.size]?=some (.cells cs 175 (0,0))∧cs.toList=List.replicate k (.int .u32 0)++(shortF b (ws.drop k)).1.map (fun d=>.int .u32 (d:Nat))∧Below w.heap.size w wr) (fun _ q _=>(intOf q+1).toNat)
 case atStart=>exact ⟨ws.length,_,_,Nat.le_refl _,rfl,by omega,by rw [List.drop_length];rfl,hnew,by rw [toList_madeCells_one,List.drop_length];simp [shortF],hbw⟩
 case round =>
  obtain ⟨k,i,cs,hk,rfl,hik,rfl,hcs,hcl,hbl⟩:=hrel
  have hz:=hbl.size
  cases k with
  | zero =>
   obtain rfl:i=-1:=by omega
   rw [List.drop_zero] at hcl ⊢
   rw [List.replicate_zero,List.nil_append] at hcl
   have hsl:=shortF_len b ws
   have hWd:Wd (fun k=>w.heap.size≤k) wr (.slice (some ⟨w.heap.size,0,none⟩) (shortF b ws).1.length ws.length) (shortF b ws).1:=by
    refine ⟨_,_,rfl,by rw [hsl];exact Nat.le_refl _,by simp,fun h0=>⟨w.heap.size,0,rfl,Nat.le_refl _,(Array.getElem?_eq_some_iff.1 hcs).1,fun j hj=>?_⟩⟩
    rw [Lib.cell_of_heap hcs,Nat.zero_add,← Array.getElem?_toList,hcl,List.getElem?_eq_getElem hj]
   have hT:=ztrim_any _ (some ⟨w.heap.size,0,none⟩) ws.length (shortF b ws).1 wr hWd (by omega)
   obtain ⟨n,n1,n2,_,_⟩:=trimW_take (shortF b ws).1
   have hln:(trimW (shortF b ws).1).length=n:=by rw [n2,List.length_take];omega
   have hW2:Wd (fun k=>w.heap.size≤k) wr (.slice (some ⟨w.heap.size,0,none⟩) (trimW (shortF b ws).1).length ws.length) (trimW (shortF b ws).1):=by
    rw [hln,n2]
    exact hWd.take n1
   rw [hsl] at hT
   have HT:=Lib.hid hT
   have HW2:=Lib.hid hW2
   clear hT hW2 hWd hsl hln n1 n2 hcl
   go_wp2_with (go_at_call 75;refine HT.out.mono ?_;rintro e w8 ⟨rfl,rfl⟩)
   go_ret2
   exact ⟨_,rfl,HW2.out,hbl⟩
  | succ k =>
   obtain rfl:i=(k:Int):=by omega
   obtain ⟨bk,off,rfl,_,hbk,hcell⟩:=HF.out (by omega)
   have hx:=(hbl.cell (p:=⟨bk,off+k,none⟩) hbk).trans (hcell k (by omega))
   have hxw:=HW.out ws[k] (List.getElem_mem (by omega))
   have hdr:ws.drop k=ws[k] :: ws.drop (k+1):=List.drop_eq_getElem_cons (by omega)
   have hr:=shortF_rest b hb (ws.drop (k+1))
   have hsh:shortF b (ws.drop k)=(((shortF b (ws.drop (k+1))).2 * 4294967296+ws[k]) / b :: (shortF b (ws.drop (k+1))).1,((shortF b (ws.drop (k+1))).2 * 4294967296+ws[k]) % b):=by rw [hdr,shortF]
   have HS:=Lib.hid hsh
   have HCL:=Lib.hid hcl
   generalize (shortF b (ws.drop (k+1))).2=r at hr HS ⊢
   generalize ws[k]=x at hx hxw HS
   have hkI:(k:Int)<(ws.length:Int):=by omega
   clear hcell hdr hsh hcl
   have hlt:=(Array.getElem?_eq_some_iff.1 hcs).1
   have hor:=or_words r x (by omega) hxw
   have hk0:cs.toList[k]?=some (.int .u32 0):=by
    rw [HCL.out,List.getElem?_append_left (by simp),List.getElem?_replicate,if_pos (by omega)]
   have o0:wr.cell? ⟨w.heap.size,k,none⟩=some (.int .u32 0):=by rw [Lib.cell_of_heap hcs,← Array.getElem?_toList];exact hk0
   have oz:∀ j,wr.frozen? ⟨w.heap.size,j,none⟩=false:=by intro j;simp [World.frozen?,hcs]
   clear hk0
   have hq:(r * 4294967296+x) / b<4294967296:=by
    rw [Nat.div_lt_iff_lt_mul hb]
    have:(r+1) * 4294967296≤b * 4294967296:=Nat.mul_le_mul_right _ hr
    rw [Nat.mul_comm 4294967296 b]
    omega
   have e1:((r:Int) * 4294967296+(x:Int)) % (b:Int)=(((r * 4294967296+x) % b:Nat):Int):=by
    rw [Int.natCast_emod]
    congr 1
   have e2:((r:Int) * 4294967296+(x:Int)) / (b:Int) % 4294967296=(((r * 4294967296+x) / b:Nat):Int):=by
    have e3:((r:Int) * 4294967296+(x:Int)) / (b:Int)=(((r * 4294967296+x) / b:Nat):Int):=by
     rw [Int.natCast_ediv]
     congr 1
    rw [e3]
    generalize (r * 4294967296+x) / b=qq at hq ⊢
    omega
   have E1:=Lib.hid e1
   have E2:=Lib.hid e2
   clear e1 e2
   go_wp2
   refine ⟨⟨k,(k:Int) - 1,_,by omega,rfl,by omega,by rw [HS.out];exact val_int E1.out,heap_setCell_same wr w.heap.size k _ _ _ hcs,?_,hbl.setCell (Nat.le_refl _) _⟩,by simp [intOf]⟩
   rw [Array.toList_setIfInBounds,HCL.out,set_last,HS.out,E2.out]
   rfl
def RevPost (bk:Nat)(l:List UInt8)(rest:List Value)(fr:Nat × Nat)(w:World)(e:Ending)(w':World):Prop :=
 e=.returned (.tuple #[])∧w'.heap[bk]?=some (.cells (Lib.byteCells l.reverse++rest).toArray 5 fr)∧w'.heap.size=w.heap.size∧(∀ q,q≠bk→w'.heap[q]?=w.heap[q]?)∧Below bk w w'
theorem drew_heap (w:World):w.drew.heap=w.heap:=rfl
theorem split_ends {α:Type}:∀ (M:List α),2≤M.length→∃ x N y,M=x :: (N++[y])
 | [],h=>absurd h (by simp)
 | [x],h=>absurd h (by simp)
 | x :: y :: l,_=>⟨x,(y :: l).dropLast,(y :: l).getLast (by simp),by rw [List.dropLast_concat_getLast]⟩
theorem swap_ends {α:Type}(A N C:List α)(x y:α):((A++(x :: (N++y :: C))).set A.length y).set (A.length+N.length+1) x=A++(y :: (N++x :: C)):=by
 rw [List.set_append_right _ _ (Nat.le_refl _),Nat.sub_self,List.set_cons_zero,List.set_append_right _ _ (by omega),show A.length+N.length+1 - A.length=N.length+1 by omega,List.set_cons_succ,List.set_append_right _ _ (Nat.le_refl _),Nat.sub_self,List.set_cons_zero]
theorem heap_set_fr (w:World)(b i:Nat)(cs:Array Value)(T:TypeId)(fr:Nat × Nat)(v:Value)(hb:w.heap[b]?=some (.cells cs T fr)) :
  (w.setCell ⟨b,i,none⟩ v).heap[b]?=some (.cells (cs.setIfInBounds i v) T fr):=by
 simp [World.setCell,Array.getElem?_modify,hb]
theorem byteRev_any (bk cap:Nat)(l:List UInt8)(rest:List Value)(fr:Nat × Nat)(w:World)(h:w.heap[bk]?=some (.cells (Lib.byteCells l++rest).toArray 5 fr))(hf:l.length≤fr.1)(hn:l.length≤1099511627776) :
  Calls Tryz.prog 102 #[.slice (some ⟨bk,0,none⟩) l.length cap] w (RevPost bk l rest fr w):=by
 go_enter Tryz.func102,Tryz.ntmps102
 go_wp2
 go_loopg [2,3] l.length (fun k s2 s3 wr=>∃ (A M C:List UInt8),s2=.int .i64 (A.length:Nat)∧s3=.int .i64 ((A.length:Int)+(M.length:Int) - 1)∧M.length≤k∧l=C.reverse++M++A.reverse ∧
  wr.heap[bk]?=some (.cells (Lib.byteCells (A++M++C)++rest).toArray 5 fr)∧wr.heap.size=w.heap.size∧(∀ q,q≠bk→wr.heap[q]?=w.heap[q]?)∧Below bk w wr)
 case atStart=>exact ⟨[],l,[],rfl,by simp,Nat.le_refl _,by simp,by simpa using h,rfl,fun _ _=>rfl,Below.refl _ _⟩
 case round =>
  obtain ⟨A,M,C,rfl,rfl,hk,hl,hh,hsz,hoth,hbl⟩:=hrel
  have hlen:l.length=C.length+M.length+A.length:=by rw [hl];simp;omega
  by_cases hlt:2≤M.length
  ·obtain ⟨x,N,y,rfl⟩:=split_ends M hlt
   have hI:(A.length:Int)<(A.length:Int)+((x :: (N++[y])).length:Int) - 1:=by simp only [List.length_cons] at hlt ⊢;omega
   have hj:(A.length:Int)+((x :: (N++[y])).length:Int) - 1=((A.length+N.length+1:Nat):Int):=by simp;omega
   simp only [List.length_cons,List.length_append,List.length_nil] at hlen hk
   rw [hj] at hI ⊢
   have e:A++(x :: (N++[y]))++C=A++(x :: (N++y :: C)):=by simp
   rw [e] at hh
   have ci:wr.cell? ⟨bk,A.length,none⟩=some (.int .u8 x.toNat):=by
    rw [Lib.cell_of_heap hh]
    simp [Lib.byteCells]
   have cj:wr.cell? ⟨bk,A.length+N.length+1,none⟩=some (.int .u8 y.toNat):=by
    rw [Lib.cell_of_heap hh,List.getElem?_toArray,Lib.byteCells,List.map_append,List.append_assoc,List.getElem?_append_right (by simp;omega)]
    simp only [List.length_map]
    rw [show A.length+N.length+1 - A.length=N.length+1 by omega,List.map_cons,List.cons_append,List.getElem?_cons_succ,List.map_append,List.append_assoc,List.getElem?_append_right (by simp)]
    simp
   have fi:wr.frozen? ⟨bk,A.length,none⟩=false:=by
    simp [World.frozen?,hh]
    omega
   have fj:wr.frozen? ⟨bk,A.length+N.length+1,none⟩=false:=by
    simp [World.frozen?,hh]
    omega
   have h1:=heap_set_fr wr bk A.length _ _ _ (.int .u8 y.toNat) hh
   have h2:=heap_set_fr _ bk (A.length+N.length+1) _ _ _ (.int .u8 x.toNat) h1
   have HL:=Lib.hid hl
   have HH:=Lib.hid hh
   have H2:=Lib.hid h2
   have HO:=Lib.hid hoth
   clear hj hl hh h1 h2 hoth e
   go_wp2_with fail
   go_region
   go_wp2
   go_roundg N.length
   case measure=>omega
   case rel =>
    refine ⟨A++[y],N,x :: C,by simp,by simp;omega,Nat.le_refl _,by rw [HL.out];simp,?_,?_,?_,((hbl.setCell (Nat.le_refl _) _).setCell (Nat.le_refl _) _).drew⟩
    ·rw [drew_heap,H2.out]
     have e2:((Lib.byteCells (A++x :: (N++y :: C))++rest).toArray.setIfInBounds A.length (.int .u8 y.toNat)).setIfInBounds (A.length+N.length+1) (.int .u8 x.toNat)=(Lib.byteCells (A++[y]++N++x :: C)++rest).toArray:=by
      have:=swap_ends (Lib.byteCells A) (Lib.byteCells N) (Lib.byteCells C++rest) (.int .u8 x.toNat) (.int .u8 y.toNat)
      simp only [Lib.byteCells_length] at this
      apply Array.toList_inj.1
      simp only [Array.toList_setIfInBounds]
      have e3:Lib.byteCells (A++x :: (N++y :: C))++rest=Lib.byteCells A++(.int .u8 x.toNat :: (Lib.byteCells N++.int .u8 y.toNat :: (Lib.byteCells C++rest))):=by simp [Lib.byteCells]
      have e4:Lib.byteCells (A++[y]++N++x :: C)++rest=Lib.byteCells A++(.int .u8 y.toNat :: (Lib.byteCells N++.int .u8 x.toNat :: (Lib.byteCells C++rest))):=by simp [Lib.byteCells]
      rw [e3,e4,this]
     rw [e2]
    ·simpa using hsz
    ·intro q hq
     rw [drew_heap,heap_setCell_other _ _ _ _ hq,heap_setCell_other _ _ _ _ hq]
     exact HO.out q hq
  ·have hI:decide ((A.length:Int)<(A.length:Int)+(M.length:Int) - 1)=false:=decide_eq_false (by omega)
   have hr:M.reverse=M:=by
    match M,hlt with
    | [],_=>rfl
    | [x],_=>rfl
    | x :: y :: l,h=>exact absurd h (by simp)
   have HR:Hid (A++M++C=l.reverse):=Lib.hid (by rw [hl];simp [hr])
   have HH:=Lib.hid hh
   clear hl hh hr
   go_wp2
   go_end0
   exact ⟨rfl,by rw [← HR.out];exact HH.out,hsz,hoth,hbl⟩
def StrPost (l:List UInt8)(w:World)(r:Ending)(w':World):Prop:=r=.returned (.string ⟨l.toArray⟩)∧Below w.heap.size w w'
theorem wrap_small {n:Nat}(h:n<1000):IntKind.i64.wrap (n:Int)=(n:Int):=by
 unfold IntKind.wrap
 simp [IntKind.signed,IntKind.bits]
 omega
theorem wrap_byte {n:Nat}(h:n<256):IntKind.u8.wrap (n:Int)=(n:Int):=by
 unfold IntKind.wrap
 simp [IntKind.signed,IntKind.bits]
 omega
theorem text_one (W:World)(b:Nat)(x:Int)(d:Nat)(hd:d<256)(hx:x=(d:Int))(h:W.cell? ⟨b,0,none⟩=some (.int .u8 x)):(convert 100 9 (.slice (some ⟨b,0,none⟩) 1 1)).run Tryz.prog W=.ok (.string ⟨#[UInt8.ofNat d]⟩) W:=by
 refine run_convert_bytes_back _ 100 9 5 ⟨b,0,none⟩ 1 [UInt8.ofNat d] Tryz.underlying100 Tryz.underlying5 Tryz.underlying9 (fun j hj=>?_)
 obtain rfl:j=0:=by simp at hj;omega
 simp [Addr.add,Nat.mod_eq_of_lt hd,h,hx]
theorem lt_alloc_drew (w:World)(o:Obj):w.heap.size<(w.alloc o).drew.heap.size:=by simp
theorem lt_drew_alloc (w:World)(o:Obj):w.heap.size<(w.drew.alloc o).heap.size:=by simp
theorem cell_alloc_drew (w:World)(v:Value)(t:TypeId):(w.alloc (.cells #[v] t)).drew.cell? ⟨w.heap.size,0,none⟩=some v:=by simp
theorem cell_drew_alloc (w:World)(v:Value)(t:TypeId):(w.drew.alloc (.cells #[v] t)).cell? ⟨w.heap.size,0,none⟩=some v:=(World.cell?_of_block (a:=⟨w.heap.size,0,none⟩) (show (w.drew.alloc (.cells #[v] t)).heap[w.heap.size]?=(w.alloc (.cells #[v] t)).heap[w.heap.size]? from rfl)).trans (by simp)
theorem one_text (w:World)(x:Int)(d:Nat)(hd:d<256)(hx:x=(d:Int)):(convert 100 9 (.slice (some ⟨w.heap.size,0,none⟩) 1 1)).run Tryz.prog (w.alloc (.cells #[.int .u8 x] 5))=.ok (.string ⟨#[UInt8.ofNat d]⟩) (w.alloc (.cells #[.int .u8 x] 5)) :=
 text_one _ _ x d hd hx (by simp)
theorem digit_one (n:Nat)(w:World)(hn:n<10):Calls Tryz.prog 67 #[.int .i64 n] w (StrPost (decF n) w):=by
 have hc:=one_text w (48+(n:Int)) (48+n) (by omega) (by omega)
 have hd:decF n=[UInt8.ofNat (48+n)]:=by rw [decF,dif_pos hn]
 generalize UInt8.ofNat (48+n)=c at hc hd
 have HD:=Lib.hid hd
 clear hd
 go_enter Tryz.func67,Tryz.ntmps67
 go_wp2
 go_ret
 exact ⟨by rw [HD.out];rfl,(Below.refl _ _).alloc (Nat.le_refl _) _⟩
theorem digits_any (n:Nat)(w:World)(hn:n<100):Calls Tryz.prog 67 #[.int .i64 n] w (StrPost (decF n) w):=by
 by_cases h:n<10
 ·exact digit_one n w h
 ·have hw1:IntKind.i64.wrap ((n:Int) / 10)=((n / 10:Nat):Int):=by
   rw [show (n:Int) / 10=((n / 10:Nat):Int) by omega]
   exact wrap_small (by omega)
  have hw2:IntKind.i64.wrap (48+(n:Int).tmod 10)=((48+n % 10:Nat):Int):=by
   rw [show (n:Int).tmod 10=((n % 10:Nat):Int) by rw [Int.tmod_eq_emod_of_nonneg (by omega)];omega,show (48:Int)+((n % 10:Nat):Int)=((48+n % 10:Nat):Int) by omega]
   exact wrap_small (by omega)
  have hw3:IntKind.u8.wrap (IntKind.i64.wrap (48+(n:Int).tmod 10))=((48+n % 10:Nat):Int):=by
   rw [hw2]
   exact wrap_byte (by omega)
  have hc:=fun W=>one_text W (IntKind.u8.wrap (IntKind.i64.wrap (48+(n:Int).tmod 10))) (48+n % 10) (by omega) hw3
  have hc2:=fun W b=>text_one W b (IntKind.u8.wrap (IntKind.i64.wrap (48+(n:Int).tmod 10))) (48+n % 10) (by omega) hw3
  have hc3:=fun (W:World)=>hc2 (W.alloc (.cells #[.int .u8 (IntKind.u8.wrap (IntKind.i64.wrap (48+(n:Int).tmod 10)))] 5)).drew W.heap.size (cell_alloc_drew _ _ _)
  have HC2:=Lib.hid hc2
  have HW:=Lib.hid hw1
  have hd:decF n=[UInt8.ofNat (48+n / 10),UInt8.ofNat (48+n % 10)]:=by
   rw [decF,dif_neg h,decF,dif_pos (by omega)]
   rfl
  have hd1:decF (n / 10)=[UInt8.ofNat (48+n / 10)]:=by rw [decF,dif_pos (by omega)]
  have HD:=Lib.hid hd
  have H1:=Lib.hid (fun W=>digit_one (n / 10) W (by omega))
  rw [hd1] at H1
  generalize UInt8.ofNat (48+n / 10)=c1 at H1 HD
  generalize UInt8.ofNat (48+n % 10)=c2 at hc hc3 HC2 HD
  clear hd hd1 hc2 hw1 hw2 hw3
  go_enter Tryz.func67,Tryz.ntmps67
  go_wp2_with fail
  go_region_with (first|(go_at_call 67;rw [HW.out];refine (H1.out _).mono ?_;rintro e w3 ⟨rfl,hb3⟩;first|have hcc:=HC2.out w3 w.heap.size ((hb3.cell (p:=⟨w.heap.size,0,none⟩) (lt_alloc_drew _ _)).trans (cell_alloc_drew _ _ _))|have hcc:=HC2.out w3 w.heap.size ((hb3.cell (p:=⟨w.heap.size,0,none⟩) (lt_drew_alloc _ _)).trans (cell_drew_alloc _ _ _))|skip))
  all_goals
   have hs3:=hb3.size
   go_wp2
   go_ret
   refine ⟨by rw [HD.out];rfl,?_⟩
   first
    | exact (((Below.refl _ w).drew.trans hb3).alloc hs3 _)
    | exact ((Below.refl _ w).alloc (Nat.le_refl _) _).drew.trans (hb3.mono (by simp))
    | exact (((Below.refl _ w).drew).alloc (Nat.le_refl _) _).trans (hb3.mono (by simp))
mutual
def PE.size:PE→Nat
 | .mk _ _ _ _ _ _ kids _=>1+sizeE kids
def sizeE:List PE→Nat
 | []=>0
 | e :: l=>e.size+sizeE l
end
theorem sizeE_append:∀ (a b:List PE),sizeE (a++b)=sizeE a+sizeE b
 | [],b=>by simp [sizeE]
 | e :: a,b=>by rw [List.cons_append,sizeE,sizeE,sizeE_append a b,Nat.add_assoc]
mutual
theorem PE.ats_len:∀ e:PE,e.ats.length=e.size
 | .mk _ _ _ _ _ _ kids _=>by rw [PE.ats,PE.size,List.length_cons,atsE_len kids,Nat.add_comm]
theorem atsE_len:∀ l:List PE,(atsE l).length=sizeE l
 | []=>rfl
 | e :: l=>by rw [atsE,sizeE,List.length_append,PE.ats_len e,atsE_len l]
end
theorem sizeE_mem:∀ (l:List PE) (e:PE),e∈l→e.size≤sizeE l
 | x :: l,e,h=>by
  rw [sizeE]
  rcases List.mem_cons.1 h with rfl|h
  ·omega
  ·have:=sizeE_mem l e h
   omega
theorem PE.size_def (e:PE):e.size=1+sizeE e.kids:=by cases e;rfl
theorem PE.ats_def (e:PE):e.ats=(e.at_:Int) :: atsE e.kids:=by cases e;rfl
theorem atsE_append:∀ (a b:List PE),atsE (a++b)=atsE a++atsE b
 | [],b=>by simp [atsE]
 | e :: a,b=>by rw [List.cons_append,atsE,atsE,atsE_append a b,List.append_assoc]
theorem sizeE_few:∀ l:List PE,l.length≤sizeE l
 | []=>Nat.zero_le _
 | e :: l=>by
  have:=sizeE_few l
  rw [sizeE,e.size_def,List.length_cons]
  omega
theorem kids_sizeOf (e:PE):∀ x∈e.kids,SizeOf.sizeOf x<SizeOf.sizeOf e:=by
 intro x hx
 cases e with
 | mk op name module num txt yes kids at_ =>
  have:=List.sizeOf_lt_of_mem hx
  simp only [PE.mk.sizeOf_spec,PE.kids] at this ⊢
  omega
theorem EAt.slX {P:Nat→Prop}{w:World}{m k:Value}{x:PE}(h:EAt XA P w m k x):∃ am wn cm ae ce,m=.slice am wn cm∧k=.slice ae x.kids.length ce:=by
 obtain ⟨hnum,ae,ce,rfl,_,_⟩:=h.form
 obtain ⟨ws,hws,_⟩:=(hnum:NumAt _ _ _ _)
 obtain ⟨am,cm,rfl⟩:=hws.form
 exact ⟨am,_,cm,ae,ce,rfl,rfl⟩
theorem size_any:∀ (n:Nat) (e:PE),SizeOf.sizeOf e<n→∀ (B:Nat) (am:Option Addr) (wn cm:Nat) (ae:Option Addr) (ce:Nat) (w:World),EAt XA (fun b=>b<B) w (.slice am wn cm) (.slice ae e.kids.length ce) e→B≤w.heap.size→e.size≤1099511627776 →
  Calls Tryz.prog 27 #[.agg #[.int .i64 e.op,.string ⟨e.name.toArray⟩,.string ⟨e.module.toArray⟩,.bool (decide (e.num<0)),.slice am wn cm,.bool e.yes,.slice ae e.kids.length ce,.int .i64 e.at_]] w fun r w'=>r=.returned (.int .i64 e.size)∧Below w.heap.size w w'
 | 0,e,hs,_,_,_,_,_,_,_,_,_,_=>absurd hs (by omega)
 | n+1,e,hs,B,am,wn,cm,ae,ce,w,h,hB,hz=>by
  have hsub:=kids_sizeOf e
  have hdef:=e.size_def
  obtain ⟨hnum,ae',ce',hv,hcap,hf⟩:=h.form
  simp only [Value.slice.injEq] at hv
  obtain ⟨rfl,-,rfl⟩:=hv
  have hfew:=sizeE_few e.kids
  have IH:=Lib.hid (fun (x:PE) (hx:x∈e.kids)=>size_any n x (by have:=hsub x hx;omega))
  have HF:=Lib.hid hf
  have HD:=Lib.hid hdef
  have hkl:e.kids.length≤1099511627776:=by omega
  have hzk:sizeE e.kids+1≤1099511627776:=by omega
  clear h hnum hf hsub hs hdef hz
  go_enter Tryz.func27,Tryz.ntmps27
  go_wp2
  generalize hkk:e.kids=ks at *
  go_loopw [3,9] (fun nv q wr=>∃ k:Nat,k≤ks.length∧q=.int .i64 k∧nv=.int .i64 ((1+sizeE (ks.take k):Nat):Int)∧Below w.heap.size w wr) (fun _ q _=>ks.length - (intOf q).toNat)
  case atStart=>exact ⟨0,Nat.zero_le _,rfl,rfl,(Below.refl _ _).alloc (Nat.le_refl _) _⟩
  case round =>
   obtain ⟨k,hk,rfl,rfl,hbl⟩:=hrel
   have hw:=hbl.size
   by_cases hlt:k<ks.length
   ·obtain ⟨b,off,rfl,hbB,hbw,hkid⟩:=HF.out (by omega)
    obtain ⟨m,kv,hE,hc⟩:=hkid k hlt
    have hmem:ks[k]∈ks:=List.getElem_mem hlt
    have hsn:ks.take (k+1)=ks.take k++[ks[k]]:=List.take_succ_eq_append_getElem hlt
    have hle:=sizeE_mem ks _ hmem
    have hsz:sizeE (ks.take (k+1))=sizeE (ks.take k)+ks[k].size:=by rw [hsn,sizeE_append];simp [sizeE]
    have htl:sizeE (ks.take (k+1))≤sizeE ks:=by
     have:=sizeE_append (ks.take (k+1)) (ks.drop (k+1))
     rw [List.take_append_drop] at this
     omega
    obtain ⟨am1,wn1,cm1,ae1,ce1,rfl,rfl⟩:=hE.slX
    have IHx:=IH.out _ hmem B am1 wn1 cm1 ae1 ce1
    generalize ks[k]=x at hE hc hsz hle IHx
    have y0:=(hbl.cell (p:=⟨b,off+k * 8,none⟩) hbw).trans (hc 0 _ rfl)
    have y1:=(hbl.cell (p:=⟨b,off+k * 8+1,none⟩) hbw).trans (hc 1 _ rfl)
    have y2:=(hbl.cell (p:=⟨b,off+k * 8+2,none⟩) hbw).trans (hc 2 _ rfl)
    have y3:=(hbl.cell (p:=⟨b,off+k * 8+3,none⟩) hbw).trans (hc 3 _ rfl)
    have y4:=(hbl.cell (p:=⟨b,off+k * 8+4,none⟩) hbw).trans (hc 4 _ rfl)
    have y5:=(hbl.cell (p:=⟨b,off+k * 8+5,none⟩) hbw).trans (hc 5 _ rfl)
    have y6:=(hbl.cell (p:=⟨b,off+k * 8+6,none⟩) hbw).trans (hc 6 _ rfl)
    have y7:=(hbl.cell (p:=⟨b,off+k * 8+7,none⟩) hbw).trans (hc 7 _ rfl)
    simp only [strV] at y1 y2
    have hA:∀ o,EAt XA (fun b=>b<B) (wr.alloc o) (.slice am1 wn1 cm1) (.slice ae1 x.kids.length ce1) x:=fun o=>hE.frame (Alk.ofB (hbl.alloc hw o) (fun b hb=>by omega))
    have hbA:∀ o,Below w.heap.size w (wr.alloc o):=fun o=>hbl.alloc hw o
    have HI:=Lib.hid (fun o=>IHx (wr.alloc o) (hA o) (by simp;omega) (by omega))
    have HS:=Lib.hid hsz
    have hI2:(1:Int)+(sizeE (ks.take k):Int)+(x.size:Int)≤1099511627776:=by omega
    clear hkid hc hE IHx hsn hsz hA htl
    have hkI:(k:Int)<(ks.length:Int):=by omega
    go_wp2_with (go_at_call 27;refine (HI.out _).mono ?_;rintro r w2 ⟨rfl,hb2⟩)
    exact ⟨⟨k+1,by omega,by go_num,by rw [HS.out];go_num,(hbA _).trans (hb2.mono (hbA _).size)⟩,by simp [intOf];omega⟩
   ·obtain rfl:k=ks.length:=by omega
    have hkI:decide ((ks.length:Int)<(ks.length:Int))=false:=decide_eq_false (by omega)
    go_wp2
    go_ret
    refine ⟨?_,hbl⟩
    rw [HD.out,List.take_length];try rfl
theorem Tryz.infoIntA:(Tryz.prog.info? 3).map (fun i=>(i.zero,i.size,i.bytes))=some (some (.int .i64 0),1,8):=by kernel_rfl
def RowPost (l:List Int)(w:World)(r:Ending)(w':World):Prop :=
 ∃ g cap,r=.returned (.slice (some ⟨g,0,none⟩) l.length cap)∧w'.ownsRow w.heap.size 3 1 (.slice (some ⟨g,0,none⟩) l.length cap) l.length (l.map (Value.int .i64))∧Below w.heap.size w w'
theorem row_cell {w:World}{B e n cap:Nat}{g:Nat}{l:List Int}(h:w.ownsRow B e 1 (.slice (some ⟨g,0,none⟩) n cap) n (l.map (Value.int .i64))){j:Nat}{u:Value}(hj:(l.map (Value.int .i64))[j]?=some u):w.cell? (Addr.add ⟨g,0,none⟩ j)=some u:=by
 obtain ⟨ao,c,hv,_,hl,hc⟩:=Sl.ofOwns h
 obtain ⟨h1,h2⟩:=List.getElem?_eq_some_iff.1 hj
 obtain ⟨b,o,ha,_,hcell⟩:=hc (by omega)
 simp only [Value.slice.injEq] at hv
 rw [ha] at hv
 simp only [Option.some.injEq,Addr.mk.injEq] at hv
 obtain ⟨⟨rfl,rfl,-⟩,-,-⟩:=hv
 rw [← h2,show Addr.add ⟨g,0,none⟩ j=⟨g,0+j,none⟩ by unfold Addr.add;split <;> simp_all]
 exact hcell j h1
theorem row_form {W:World}{base n:Nat}{e:TypeId}{size:Nat}{v:Value}{xs:List Value}(h:W.ownsRow base e size v n xs)(h0:0<n):∃ g cap,v=.slice (some ⟨g,0,none⟩) n cap:=by
 rcases h.2 with ⟨_,h1⟩|⟨g,cap,_,rfl,_⟩
 ·omega
 ·exact ⟨g,cap,rfl⟩
theorem take_succ_at {α:Type}{l:List α}{k:Nat}(h:k<l.length):l.take (k+1)=l.take k++[l[k]]:=List.take_succ_eq_append_getElem h
theorem ats_any:∀ (n:Nat) (e:PE),SizeOf.sizeOf e<n→∀ (B:Nat) (am:Option Addr) (wn cm:Nat) (ae:Option Addr) (ce:Nat) (w:World),EAt XA (fun b=>b<B) w (.slice am wn cm) (.slice ae e.kids.length ce) e→B≤w.heap.size→e.size≤1099511627776 →
  Calls Tryz.prog 23 #[.agg #[.int .i64 e.op,.string ⟨e.name.toArray⟩,.string ⟨e.module.toArray⟩,.bool (decide (e.num<0)),.slice am wn cm,.bool e.yes,.slice ae e.kids.length ce,.int .i64 e.at_]] w (RowPost e.ats w)
 | 0,e,hs,_,_,_,_,_,_,_,_,_,_=>absurd hs (by omega)
 | n+1,e,hs,B,am,wn,cm,ae,ce,w,h,hB,hz=>by
  obtain ⟨i0,hi,hz0,hz1,hz2⟩:=info_parts Tryz.infoIntA
  have hsub:=kids_sizeOf e
  have hdef:=e.size_def
  have hats:=e.ats_def
  obtain ⟨hnum,ae',ce',hv,hcap,hf⟩:=h.form
  simp only [Value.slice.injEq] at hv
  obtain ⟨rfl,-,rfl⟩:=hv
  have hfew:=sizeE_few e.kids
  have IH:=Lib.hid (fun (x:PE) (hx:x∈e.kids)=>ats_any n x (by have:=hsub x hx;omega))
  have HF:=Lib.hid hf
  have HA:=Lib.hid hats
  have hkl:e.kids.length≤1099511627776:=by omega
  have hzk:sizeE e.kids+1≤1099511627776:=by omega
  clear h hnum hf hsub hs hdef hz hats
  go_enter Tryz.func23,Tryz.ntmps23
  go_wp2
  have e1:=heap_alloc_new (w.alloc (.cells #[.int .i64 e.op,.string ⟨e.name.toArray⟩,.string ⟨e.module.toArray⟩,.bool (decide (e.num<0)),.slice am wn cm,.bool e.yes,.slice ae e.kids.length ce,.int .i64 e.at_] 40)) (.cells #[.int .i64 e.at_] 3)
  have hb1:Below w.heap.size w ((w.alloc (.cells #[.int .i64 e.op,.string ⟨e.name.toArray⟩,.string ⟨e.module.toArray⟩,.bool (decide (e.num<0)),.slice am wn cm,.bool e.yes,.slice ae e.kids.length ce,.int .i64 e.at_] 40)).alloc (.cells #[.int .i64 e.at_] 3)):=((Below.refl _ w).alloc (Nat.le_refl _) _).alloc (by simp) _
  rw [World.size_alloc] at e1
  generalize (w.alloc _).alloc _=W at e1 hb1 ⊢
  generalize hkk:e.kids=ks at *
  go_loopw [3,12] (fun v q wr=>∃ (k:Nat) (g cap:Nat) (l:List Int),k≤ks.length∧q=.int .i64 k∧l=(e.at_:Int) :: atsE (ks.take k)∧v=.slice (some ⟨g,0,none⟩) l.length cap∧wr.ownsRow w.heap.size 3 1 (.slice (some ⟨g,0,none⟩) l.length cap) l.length (l.map (Value.int .i64))∧Below w.heap.size w wr) (fun _ q _=>ks.length - (intOf q).toNat)
  case atStart=>exact ⟨0,w.heap.size+1,1,[(e.at_:Int)],Nat.zero_le _,rfl,rfl,rfl,⟨rfl,.inr ⟨_,1,#[.int .i64 e.at_],rfl,by omega,e1,Nat.le_refl _,by decide,rfl,rfl⟩⟩,hb1⟩
  case round =>
   obtain ⟨k,g,cap,l,hk,rfl,hl,rfl,hrow,hbl⟩:=hrel
   have hw:=hbl.size
   by_cases hlt:k<ks.length
   ·obtain ⟨b,off,rfl,hbB,hbw,hkid⟩:=HF.out (by omega)
    obtain ⟨m,kv,hE,hc⟩:=hkid k hlt
    have hmem:ks[k]∈ks:=List.getElem_mem hlt
    have hle:=sizeE_mem ks _ hmem
    have hsz:l++ks[k].ats=(e.at_:Int) :: atsE (ks.take (k+1)):=by rw [take_succ_at hlt,atsE_append,hl,List.cons_append];simp [atsE]
    have htl:l.length+ks[k].size≤1+sizeE ks:=by
     have h1:=congrArg List.length hsz
     rw [List.length_append,PE.ats_len,List.length_cons,atsE_len] at h1
     have:=sizeE_append (ks.take (k+1)) (ks.drop (k+1))
     rw [List.take_append_drop] at this
     omega
    obtain ⟨am1,wn1,cm1,ae1,ce1,rfl,rfl⟩:=hE.slX
    have IHx:=IH.out _ hmem B am1 wn1 cm1 ae1 ce1
    generalize ks[k]=x at hE hc hsz hle IHx htl
    have y0:=(hbl.cell (p:=⟨b,off+k * 8,none⟩) hbw).trans (hc 0 _ rfl)
    have y1:=(hbl.cell (p:=⟨b,off+k * 8+1,none⟩) hbw).trans (hc 1 _ rfl)
    have y2:=(hbl.cell (p:=⟨b,off+k * 8+2,none⟩) hbw).trans (hc 2 _ rfl)
    have y3:=(hbl.cell (p:=⟨b,off+k * 8+3,none⟩) hbw).trans (hc 3 _ rfl)
    have y4:=(hbl.cell (p:=⟨b,off+k * 8+4,none⟩) hbw).trans (hc 4 _ rfl)
    have y5:=(hbl.cell (p:=⟨b,off+k * 8+5,none⟩) hbw).trans (hc 5 _ rfl)
    have y6:=(hbl.cell (p:=⟨b,off+k * 8+6,none⟩) hbw).trans (hc 6 _ rfl)
    have y7:=(hbl.cell (p:=⟨b,off+k * 8+7,none⟩) hbw).trans (hc 7 _ rfl)
    simp only [strV] at y1 y2
    have hA:∀ o,EAt XA (fun b=>b<B) (wr.alloc o) (.slice am1 wn1 cm1) (.slice ae1 x.kids.length ce1) x:=fun o=>hE.frame (Alk.ofB (hbl.alloc hw o) (fun b hb=>by omega))
    have hbA:∀ o,Below w.heap.size w (wr.alloc o):=fun o=>hbl.alloc hw o
    have HI:=Lib.hid (fun o=>IHx (wr.alloc o) (hA o) (by simp;omega) (by omega))
    have hxl:=x.ats_len
    have HS:=Lib.hid hsz
    have HX:=Lib.hid hxl
    have hxb:l.length+x.ats.length≤1099511627776:=by omega
    have hl0:0<l.length:=by rw [hl];simp
    clear hkid hc hE IHx hsz hA hl hxl
    have hkI:(k:Int)<(ks.length:Int):=by omega
    go_wp2_with (first|(go_at_call 23;refine (HI.out _).mono ?_;rintro r w2 ⟨g2,c2,rfl,hrow2,hb2⟩;have hown2:=own_below (hrow.alloc _) hb2;have hzz:=hb2.size;rw [World.size_alloc] at hzz)|(at_builtin;refine wpList_append_own_at _ rfl _ _ 71 rfl w.heap.size 3 i0 (.int .i64 0) 1 8 Tryz.underlying71 hi hz0 hz1 hz2 rfl (by decide) _ _ _ rfl hown2 ⟨g2,0,none⟩ x.ats.length c2 (x.ats.map (Value.int .i64)) rfl (by simp) (fun j u hj=>row_cell hrow2 hj) (by simp [Value.oneCell']) (by unfold maxLen;omega) (by omega) (by omega) ?_;intro v' w3 hown3 hgrow _ hob'))
    have hgrow':w2.grownBy w3 (Value.slice (some ⟨g,0,none⟩) l.length cap).ownBlock:=hgrow
    obtain ⟨g3,c3,rfl⟩:=row_form hown3 (by omega)
    refine ⟨⟨k+1,g3,c3,l++x.ats,by omega,by go_num,HS.out,?_,?_,?_⟩,by simp [intOf];omega⟩
    ·rw [List.length_append]
    ·rw [List.length_append,List.map_append]
     exact hown3
    ·exact ((hbA _).trans (hb2.mono (hbA _).size)).grown hgrow' (by omega) (fun q hq=>(hown2.lt q hq).1)
   ·obtain rfl:k=ks.length:=by omega
    have hkI:decide ((ks.length:Int)<(ks.length:Int))=false:=decide_eq_false (by omega)
    rw [List.take_length,← HA.out] at hl
    subst hl
    go_wp2
    go_ret
    exact ⟨g,cap,rfl,hrow,hbl⟩
end Go.Proofs.YtemkhbmkaalgdaaGreatDoor
