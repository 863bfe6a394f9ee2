/- Walks and plain laws: ShowF, ShowG, ShowH, ShowI. -/
import Derived.Test.YtdednahplodojaaGreatDoorB29
set_option maxHeartbeats 16000000
set_option maxRecDepth 100000
set_option linter.unusedVariables false
set_option linter.unusedSimpArgs false
namespace Go.Proofs.YtdednahplodojaaGreatDoor
open Go.RowKit Go
theorem formField0 (a b c d:Value)(w:World):(Instr.field 209 (.agg #[a,b,c,d]) 0).run Tryz.prog w=.ok a w:=by kernel_rfl
theorem level_any (op:Int)(NM MD:ByteArray)(ng:Bool)(am:Option Addr)(wn cm:Nat)(ys:Bool)(ae:Option Addr)(wk ce:Nat)(a_:Int)(w:World) :
  Calls Tryz.prog 172 #[.agg #[.int .i64 op,.string NM,.string MD,.bool ng,.slice am wn cm,.bool ys,.slice ae wk ce,.int .i64 a_]] w fun r w'=>r=.returned (.int .i64 (lvZ op))∧Below w.heap.size w w':=by
 have hBin:∀ W,Calls Tryz.prog 196 #[.int .i64 op] W fun r w'=>r=.returned (.bool (decide (7≤op) && decide (op≤20)))∧W=w':=fun W=>by
  by_cases h7:7≤op
  ·rw [decide_eq_true h7,Bool.true_and]
   go_enter Tryz.func196,Tryz.ntmps196
   go_wp2
   go_ret
   exact ⟨rfl,rfl⟩
  ·rw [decide_eq_false h7,Bool.false_and]
   have h7':op<7:=by omega
   go_enter Tryz.func196,Tryz.ntmps196
   go_wp2
   go_ret
   exact ⟨rfl,rfl⟩
 have HBn:=Lib.hid hBin
 clear hBin
 have hb0:=below_new w (.cells (boxZ op NM MD ng (.slice am wn cm) ys (.slice ae wk ce) a_) 40)
 by_cases h:7≤op∧op≤20
 ·have HT:=Lib.hid (fun W=>two_any op h.1 h.2 W)
  have HB:Hid (∀ W,Calls Tryz.prog 196 #[.int .i64 op] W fun r w'=>r=.returned (.bool true)∧W=w'):=Lib.hid fun W=>(HBn.out W).mono fun r w' q=>⟨by rw [q.1,decide_eq_true h.1,decide_eq_true h.2];rfl,q.2⟩
  clear HBn h
  have tf:=formField0
  generalize lvZ op=l at *
  go_enter Tryz.func172,Tryz.ntmps172
  go_wp2_with (first|(go_at_call 196;refine (HB.out _).mono ?_;rintro r w' ⟨rfl,rfl⟩)|(go_at_call 141;refine (HT.out _).mono ?_;rintro r w1 ⟨rfl,hb1⟩))
  go_ret
  exact ⟨rfl,hb0.trans (hb1.mono hb0.size)⟩
 ·have HB:Hid (∀ W,Calls Tryz.prog 196 #[.int .i64 op] W fun r w'=>r=.returned (.bool false)∧W=w'):=Lib.hid fun W=>(HBn.out W).mono fun r w' q=>⟨by
   rw [q.1]
   by_cases h7:7≤op
   ·rw [decide_eq_false (by omega:¬ op≤20),Bool.and_false]
   ·rw [decide_eq_false h7,Bool.false_and],q.2⟩
  clear HBn
  have hl:lvZ op=if op=5 then 8 else if op=6 then 4 else if 21≤op∧op≤23 then 0 else 9:=by
   unfold lvZ
   repeat' (first|omega|split)
  rw [hl]
  clear hl
  by_cases h5:op=5
  ·subst h5
   clear h
   go_enter Tryz.func172,Tryz.ntmps172
   go_wp2_with (go_at_call 196;refine (HB.out _).mono ?_;rintro r w' ⟨rfl,rfl⟩)
   go_ret
   exact ⟨rfl,hb0⟩
  by_cases h6:op=6
  ·subst h6
   clear h h5
   go_enter Tryz.func172,Tryz.ntmps172
   go_wp2_with (go_at_call 196;refine (HB.out _).mono ?_;rintro r w' ⟨rfl,rfl⟩)
   go_ret
   exact ⟨rfl,hb0⟩
  rw [if_neg h5,if_neg h6]
  have t5:(op == 5)=false:=beq_eq_false_iff_ne.2 h5
  have t6:(op == 6)=false:=beq_eq_false_iff_ne.2 h6
  by_cases h21:21≤op∧op≤23
  ·rw [if_pos h21]
   obtain ⟨u1,u2⟩:=h21
   clear h h5 h6
   go_enter Tryz.func172,Tryz.ntmps172
   go_wp2_with (go_at_call 196;refine (HB.out _).mono ?_;rintro r w' ⟨rfl,rfl⟩)
   go_ret
   exact ⟨rfl,hb0⟩
  ·rw [if_neg h21]
   by_cases u1:21≤op
   ·have u2:23<op:=by omega
    clear h h5 h6 h21
    go_enter Tryz.func172,Tryz.ntmps172
    go_wp2_with (go_at_call 196;refine (HB.out _).mono ?_;rintro r w' ⟨rfl,rfl⟩)
    go_ret
    exact ⟨rfl,hb0⟩
   ·have u2:op<21:=by omega
    clear h h5 h6 h21 u1
    go_enter Tryz.func172,Tryz.ntmps172
    go_wp2_with (go_at_call 196;refine (HB.out _).mono ?_;rintro r w' ⟨rfl,rfl⟩)
    go_ret
    exact ⟨rfl,hb0⟩
def WrPost (B' b:Nat)(acc:List UInt8)(w:World)(r:Ending)(w':World):Prop:=r=.returned (.tuple #[])∧Bld B' b acc w' 116∧Below B' w w'∧Lib.OthersKept 5 (some b) w w'
def catS (l:List ByteArray):List UInt8:=l.flatMap fun s=>s.data.toList
theorem catS_take {l:List ByteArray}{k:Nat}(h:k<l.length):catS (l.take (k+1))=catS (l.take k)++l[k].data.toList:=by
 unfold catS
 rw [List.take_succ_eq_append_getElem h,List.flatMap_append,List.flatMap_singleton]
theorem catS_le (l:List ByteArray)(k:Nat):(catS (l.take k)).length≤(catS l).length:=by
 unfold catS
 conv=>rhs;rw [← List.take_append_drop k l,List.flatMap_append,List.length_append]
 omega
theorem words_any (ss:List ByteArray)(B' b sb cap:Nat)(fr:Nat × Nat)(acc:List UInt8)(w:World)(hb:Bld B' b acc w 116)(hs:w.heap[sb]?=some (.cells (ss.map Value.string).toArray 9 fr))(hB:B'≤w.heap.size)(hn:acc.length+(catS ss).length≤1099511627776)(hl:ss.length≤1000) :
  Calls Tryz.prog 56 #[.pointer (some ⟨b,0,none⟩),.slice (some ⟨sb,0,none⟩) ss.length cap] w (WrPost B' b (acc++catS ss) w):=by
 have H0:Hid (Bld B' b acc w 116):=Lib.hid hb
 have HS:=Lib.hid hs
 clear hb hs
 go_enter Tryz.func56,Tryz.ntmps56
 go_wp2
 go_loopw [8] (fun q wr=>∃ k:Nat,k≤ss.length∧q=.int .i64 k∧Bld B' b (acc++catS (ss.take k)) wr 116∧Below B' w wr∧Lib.OthersKept 5 (some b) w wr) (fun q _=>ss.length - (intOf q).toNat)
 case atStart=>exact ⟨0,Nat.zero_le _,rfl,by simpa [catS] using H0.out,Below.refl _ _,Lib.OthersKept.refl _ _ _⟩
 case round =>
  obtain ⟨k,hk,rfl,hbd,hbl,hok⟩:=hrel
  have hz:=hbl.size
  by_cases hlt:k<ss.length
  ·have hS2:=H0.out.block hok HS.out (by decide) (by decide)
   have hx:wr.cell? ⟨sb,k,none⟩=some (.string ss[k]):=by
    rw [Lib.cell_of_heap hS2]
    simp [hlt]
   have hts:=catS_take hlt
   have hle:=catS_le ss (k+1)
   rw [hts,List.length_append,size_list] at hle
   have HBD:=Lib.hid hbd
   have HTS:=Lib.hid hts
   generalize ss[k]=S at hx hle HTS
   generalize catS (ss.take k)=c at hle HTS HBD
   have hlen:(acc++c).length+S.size≤140737488355328:=by rw [List.length_append];omega
   have hnc:(⟨b,0,none⟩:Addr).block<wr.heap.size:=HBD.out.lt
   have hkI:(k:Int)<(ss.length:Int):=by omega
   clear hbd hts hS2 hle
   go_wp2_with (go_at_call 78;refine (write_any B' b (acc++c) S _ HBD.out hlen (by omega)).mono ?_;rintro r w2 ⟨rfl,hb2,hl2,ho2⟩)
   exact ⟨⟨k+1,by omega,by go_num,by rw [HTS.out,← List.append_assoc];exact hb2,hbl.trans hl2,hok.trans ho2⟩,by simp [intOf];omega⟩
  ·obtain rfl:k=ss.length:=by omega
   have hkI:decide ((ss.length:Int)<(ss.length:Int))=false:=decide_eq_false (by omega)
   rw [List.take_length] at hbd
   have HBD:=Lib.hid hbd
   clear hbd
   go_wp2
   go_end0
   exact ⟨rfl,HBD.out,hbl,hok⟩
theorem ok_below {r:Option Nat}{w w':World}(hb:Below w.heap.size w w'):Lib.OthersKept 5 r w w':=fun k o hk _ _=>(hb.block k (Array.getElem?_eq_some_iff.1 hk).1).trans hk
structure ShSt (w:World) (B' b:Nat) (acc:List UInt8) (W:World):Prop where
 bld:Bld B' b acc W 116
 bel:Below B' w W
 kept:Lib.OthersKept 5 (some b) w W
theorem Bld.belowT {T:TypeId}{B b:Nat}{acc:List UInt8}{w w':World}(h:Bld B b acc w T)(hb:Below w.heap.size w w'):Bld B b acc w' T:=by
 have key:∀ p,Lib.BuilderAtF T 5 B b p (Lib.byteCells acc) w→Lib.BuilderAtF T 5 B b p (Lib.byteCells acc) w':=by
  rintro p ⟨h1,v,h2,⟨h3,h4⟩,h5⟩
  refine ⟨h1,v,(hb.block b h.lt).trans h2,⟨h3,?_⟩,h5⟩
  rcases h4 with h4|⟨g,cap,cur,fz,q1,q2,q3,q4⟩
  ·exact Or.inl h4
  ·exact Or.inr ⟨g,cap,cur,fz,q1,q2,(hb.block g (Array.getElem?_eq_some_iff.1 q3).1).trans q3,q4⟩
 rcases h with h|h
 ·exact Or.inl (key _ h)
 ·exact Or.inr (key _ h)
theorem ShSt.start {w:World}{B' b:Nat}{acc:List UInt8}(h:Bld B' b acc w 116):ShSt w B' b acc w:=⟨h,Below.refl _ _,Lib.OthersKept.refl _ _ _⟩
theorem ShSt.below {w W W':World}{B' b:Nat}{acc:List UInt8}(h:ShSt w B' b acc W)(hb:Below W.heap.size W W')(hB:B'≤w.heap.size):ShSt w B' b acc W' :=
 ⟨h.bld.belowT hb,h.bel.trans (hb.mono (Nat.le_trans hB h.bel.size)),h.kept.trans (ok_below hb)⟩
theorem ShSt.write {w W W':World}{B' b:Nat}{acc acc':List UInt8}{r:Ending}(h:ShSt w B' b acc W)(hw:WrPost B' b acc' W r W'):ShSt w B' b acc' W':=⟨hw.2.1,h.bel.trans hw.2.2.1,h.kept.trans hw.2.2.2⟩
theorem ShSt.box {w W:World}{B' b k:Nat}{acc acc0:List UInt8}(h:ShSt w B' b acc W)(h0:Bld B' b acc0 w 116){cs:Array Value}{T:TypeId}{fr:Nat × Nat}(hk:w.heap[k]?=some (.cells cs T fr))(hT:T≠116)(he:T≠5):W.heap[k]?=some (.cells cs T fr):=h0.block h.kept hk hT he
theorem WrPost.from {w w1 W:World}{B' b:Nat}{acc:List UInt8}(hb:Below w.heap.size w w1)(hB:B'≤w.heap.size)(h:ShSt w1 B' b acc W):WrPost B' b acc w (.returned (.tuple #[])) W :=
 ⟨rfl,h.bld,(hb.mono hB).trans h.bel,(ok_below hb).trans h.kept⟩
theorem WrPost.eq {B' b:Nat}{acc:List UInt8}{w W:World}{r:Ending}(h:WrPost B' b acc w r W):r=.returned (.tuple #[]):=h.1
theorem word1_any (S:ByteArray)(B' b:Nat)(acc:List UInt8)(w:World)(hb:Bld B' b acc w 116)(hB:B'≤w.heap.size)(hn:acc.length+S.size≤1099511627776) :
  Calls Tryz.prog 56 #[.pointer (some ⟨b,0,none⟩),.slice (some ⟨w.heap.size,0,none⟩) 1 1] (w.alloc (.cells #[.string S] 9)) (WrPost B' b (acc++S.data.toList) w):=by
 have hal:=below_new w (.cells #[.string S] 9)
 have h:=words_any [S] B' b w.heap.size 1 (0,0) acc (w.alloc (.cells #[.string S] 9)) (hb.alloc _) (heap_alloc_new w _) (by simp;omega) (by simp [catS,size_list];omega) (by simp)
 rw [show catS [S]=S.data.toList by simp [catS]] at h
 exact h.mono fun r w' q=>⟨q.1,q.2.1,(hal.mono hB).trans q.2.2.1,(ok_below hal).trans q.2.2.2⟩
theorem word2_any (S T:ByteArray)(B' b:Nat)(acc:List UInt8)(w:World)(hb:Bld B' b acc w 116)(hB:B'≤w.heap.size)(hn:acc.length+S.size+T.size≤1099511627776) :
  Calls Tryz.prog 56 #[.pointer (some ⟨b,0,none⟩),.slice (some ⟨w.heap.size,0,none⟩) 2 2] (w.alloc (.cells #[.string S,.string T] 9)) (WrPost B' b (acc++(S.data.toList++T.data.toList)) w):=by
 have hal:=below_new w (.cells #[.string S,.string T] 9)
 have h:=words_any [S,T] B' b w.heap.size 2 (0,0) acc (w.alloc (.cells #[.string S,.string T] 9)) (hb.alloc _) (heap_alloc_new w _) (by simp;omega) (by simp [catS,size_list];omega) (by simp)
 rw [show catS [S,T]=S.data.toList++T.data.toList by simp [catS]] at h
 exact h.mono fun r w' q=>⟨q.1,q.2.1,(hal.mono hB).trans q.2.2.1,(ok_below hal).trans q.2.2.2⟩
theorem word3_any (S T U:ByteArray)(B' b:Nat)(acc:List UInt8)(w:World)(hb:Bld B' b acc w 116)(hB:B'≤w.heap.size)(hn:acc.length+S.size+T.size+U.size≤1099511627776) :
  Calls Tryz.prog 56 #[.pointer (some ⟨b,0,none⟩),.slice (some ⟨w.heap.size,0,none⟩) 3 3] (w.alloc (.cells #[.string S,.string T,.string U] 9)) (WrPost B' b (acc++(S.data.toList++(T.data.toList++U.data.toList))) w):=by
 have hal:=below_new w (.cells #[.string S,.string T,.string U] 9)
 have h:=words_any [S,T,U] B' b w.heap.size 3 (0,0) acc (w.alloc (.cells #[.string S,.string T,.string U] 9)) (hb.alloc _) (heap_alloc_new w _) (by simp;omega) (by simp [catS,size_list];omega) (by simp)
 rw [show catS [S,T,U]=S.data.toList++(T.data.toList++U.data.toList) by simp [catS]] at h
 exact h.mono fun r w' q=>⟨q.1,q.2.1,(hal.mono hB).trans q.2.2.1,(ok_below hal).trans q.2.2.2⟩
def ShDoes (e:PZ):Prop:=∀ (B B' b:Nat) (am:Option Addr) (wn cm:Nat) (ae:Option Addr) (ce:Nat) (acc:List UInt8) (w:World),ZAt YA (fun k=>k<B) w (.slice am wn cm) (.slice ae e.kids.length ce) e→B≤B'→Bld B' b acc w 116→B'≤w.heap.size→acc.length+e.text.length≤1099511627776 →
  Calls Tryz.prog 88 #[.pointer (some ⟨b,0,none⟩),.agg #[.int .i64 e.op,.string ⟨e.name.toArray⟩,.string ⟨e.module.toArray⟩,.bool (decide (e.num<0)),.slice am wn cm,.bool e.yes,.slice ae e.kids.length ce,.int .i64 e.at_]] w (WrPost B' b (acc++e.text) w)
def KdDoes (e:PZ):Prop:=∀ (least:Int) (B B' b:Nat) (am:Option Addr) (wn cm:Nat) (ae:Option Addr) (ce:Nat) (acc:List UInt8) (w:World),ZAt YA (fun k=>k<B) w (.slice am wn cm) (.slice ae e.kids.length ce) e→B≤B'→Bld B' b acc w 116→B'≤w.heap.size→acc.length+(parZ least (e.op,e.text)).length≤1099511627776 →
  Calls Tryz.prog 138 #[.pointer (some ⟨b,0,none⟩),.agg #[.int .i64 e.op,.string ⟨e.name.toArray⟩,.string ⟨e.module.toArray⟩,.bool (decide (e.num<0)),.slice am wn cm,.bool e.yes,.slice ae e.kids.length ce,.int .i64 e.at_],.int .i64 least] w (WrPost B' b (acc++parZ least (e.op,e.text)) w)
theorem kid_any (e:PZ)(he:ShDoes e):KdDoes e:=by
 intro least B B' b am wn cm ae ce acc w h hBB hbd hB hn
 have hal:=below_new w (.cells (boxZ e.op ⟨e.name.toArray⟩ ⟨e.module.toArray⟩ (decide (e.num<0)) (.slice am wn cm) e.yes (.slice ae e.kids.length ce) e.at_) 40)
 have hN:=heap_alloc_new w (.cells (boxZ e.op ⟨e.name.toArray⟩ ⟨e.module.toArray⟩ (decide (e.num<0)) (.slice am wn cm) e.yes (.slice ae e.kids.length ce) e.at_) 40)
 have hb1:=hbd.belowT hal
 have hlv:=fun W=>level_any e.op ⟨e.name.toArray⟩ ⟨e.module.toArray⟩ (decide (e.num<0)) am wn cm e.yes ae e.kids.length ce e.at_ W
 have HLV:=Lib.hid hlv
 have HE:=Lib.hid (fun (acc':List UInt8) (W:World) (hW:Below B' w W) (hb:Bld B' b acc' W 116) (hn':acc'.length+e.text.length≤1099511627776)=>he B B' b am wn cm ae ce acc' W (h.frame (Alk.ofB hW (fun k hk=>by omega))) hBB hb (Nat.le_trans hB hW.size) hn')
 have hp:parZ least (e.op,e.text)=if lvZ e.op<least then [40]++e.text++[41] else e.text:=rfl
 have HP:=Lib.hid hp
 clear h he hbd hlv hp
 generalize parZ least (e.op,e.text)=out at *
 generalize e.text=tx at *
 generalize decide (e.num<0)=ng at *
 generalize e.op=op at *
 generalize lvZ op=lv at *
 have hwB:=hal.mono hB
 by_cases hl:lv<least
 ·have HO:Hid (out=[40]++tx++[41]):=Lib.hid (by rw [HP.out,if_pos hl])
  have hln:acc.length+1+tx.length+1≤1099511627776:=by
   have:=congrArg List.length HO.out
   simp only [List.length_append,List.length_cons,List.length_nil] at this
   omega
  clear HP hn
  go_enter Tryz.func138,Tryz.ntmps138
  go_upto_region 1 with fail
  change Code.wp _ _ _ _ (w.alloc (.cells (boxZ op ⟨e.name.toArray⟩ ⟨e.module.toArray⟩ ng (.slice am wn cm) e.yes (.slice ae e.kids.length ce) e.at_) 40))
  generalize w.alloc _=w1 at hal hN hb1 hwB ⊢
  have hB1:=Nat.le_trans hB hal.size
  obtain ⟨y0,y1,y2,y3,y4,y5,y6,y7⟩:=boxZ_cells hN
  have hl1:=(Array.getElem?_eq_some_iff.1 hN).1
  go_upto_region 3 with (go_at_call 172;refine (HLV.out _).mono ?_;rintro r w2 ⟨rfl,hb2⟩)
  have s2:=(ShSt.start hb1).below hb2 hB1
  have hz2:=s2.bel.size
  clear y0 y1 y2 y3 y4 y5 y6 y7
  go_upto_region 4 with (go_at_call 56;refine (word1_any ⟨#[40]⟩ B' b acc w2 s2.bld (by omega) (by show acc.length+1≤_;omega)).mono ?_;rintro r w3 h3;obtain rfl:=h3.eq)
  have s3:=s2.write h3
  have hz3:=s3.bel.size
  obtain ⟨y0,y1,y2,y3,y4,y5,y6,y7⟩:=boxZ_cells (s3.box hb1 hN (by decide) (by decide))
  have HE3:=Lib.hid (HE.out (acc++[40]) w3 (hwB.trans s3.bel) s3.bld (by rw [List.length_append];simp;omega))
  go_upto_region 5 with (go_at_call 88;refine HE3.out.mono ?_;rintro r w4 h4;obtain rfl:=h4.eq)
  have s4:=s3.write h4
  have hz4:=s4.bel.size
  clear y0 y1 y2 y3 y4 y5 y6 y7
  go_wp2_with (go_at_call 56;refine (word1_any ⟨#[41]⟩ B' b (acc++[40]++tx) w4 s4.bld (by omega) (by show (acc++[40]++tx).length+1≤_;simp;omega)).mono ?_;rintro r w5 h5;obtain rfl:=h5.eq)
  go_end0
  have:=WrPost.from hal hB (s4.write h5)
  rw [HO.out]
  simpa [List.append_assoc] using this
 ·have HO:Hid (out=tx):=Lib.hid (by rw [HP.out,if_neg hl])
  have hln:acc.length+tx.length≤1099511627776:=by rw [← HO.out];exact hn
  have hl':least≤lv:=by omega
  clear HP hn hl
  go_enter Tryz.func138,Tryz.ntmps138
  go_upto_region 1 with fail
  change Code.wp _ _ _ _ (w.alloc (.cells (boxZ op ⟨e.name.toArray⟩ ⟨e.module.toArray⟩ ng (.slice am wn cm) e.yes (.slice ae e.kids.length ce) e.at_) 40))
  generalize w.alloc _=w1 at hal hN hb1 hwB ⊢
  have hB1:=Nat.le_trans hB hal.size
  obtain ⟨y0,y1,y2,y3,y4,y5,y6,y7⟩:=boxZ_cells hN
  go_upto_region 2 with (go_at_call 172;refine (HLV.out _).mono ?_;rintro r w2 ⟨rfl,hb2⟩)
  have s2:=(ShSt.start hb1).below hb2 hB1
  clear y0 y1 y2 y3 y4 y5 y6 y7
  obtain ⟨y0,y1,y2,y3,y4,y5,y6,y7⟩:=boxZ_cells (s2.box hb1 hN (by decide) (by decide))
  have HE3:=Lib.hid (HE.out acc w2 (hwB.trans s2.bel) s2.bld hln)
  go_wp2_with (go_at_call 88;refine HE3.out.mono ?_;rintro r w4 h4;obtain rfl:=h4.eq)
  go_end0
  rw [HO.out]
  exact WrPost.from hal hB (s2.write h4)
theorem lvZ_pos (op:Int):0≤lvZ op:=by
 unfold lvZ
 repeat' (first|omega|split)
theorem parZ_zero (k:Int × List UInt8):parZ 0 k=k.2:=by
 have:=lvZ_pos k.1
 unfold parZ
 rw [if_neg (by omega)]
def partsZ:List ByteArray→List PZ→List UInt8
 | s :: ss,x :: xs=>s.data.toList++x.text++partsZ ss xs
 | _,_=>[]
theorem partsZ_snoc:∀ {ss:List ByteArray} {xs:List PZ} {k:Nat} (h:k<ss.length) (h2:k<xs.length),partsZ (ss.take (k+1)) (xs.take (k+1))=partsZ (ss.take k) (xs.take k)++(ss[k].data.toList++xs[k].text)
 | [],_,_,h,_=>absurd h (by simp)
 | _ :: _,[],_,_,h=>absurd h (by simp)
 | s :: ss,x :: xs,0,_,_=>by simp [partsZ]
 | s :: ss,x :: xs,k+1,h,h2=>by
  have ih:=partsZ_snoc (ss:=ss) (xs:=xs) (k:=k) (by simpa using h) (by simpa using h2)
  simp only [List.take_succ_cons,partsZ,List.getElem_cons_succ] at ih ⊢
  rw [ih]
  simp
theorem partsZ_le:∀ (ss:List ByteArray) (xs:List PZ) (k:Nat),(partsZ (ss.take k) (xs.take k)).length≤(partsZ ss xs).length
 | [],xs,k=>by simp [partsZ]
 | s :: ss,[],k=>by simp [partsZ]
 | s :: ss,x :: xs,0=>by simp [partsZ]
 | s :: ss,x :: xs,k+1=>by
  have:=partsZ_le ss xs k
  simp only [List.take_succ_cons,partsZ,List.length_append]
  omega
theorem KidsZ.at {B:Nat}{w:World}{ae:Option Addr}{ks:List PZ}(h:KidsZ B w ae ks){W:World}(hW:Below B w W){k:Nat}(hk:k<ks.length):∃ b off am wn cm ak ck,ae=some ⟨b,off,none⟩∧b<B∧ZAt YA (fun b=>b<B) W (.slice am wn cm) (.slice ak ks[k].kids.length ck) ks[k] ∧
  W.cell? ⟨b,off+k * 8,none⟩=some (.int .i64 ks[k].op)∧W.cell? ⟨b,off+k * 8+1,none⟩=some (.string ⟨ks[k].name.toArray⟩)∧W.cell? ⟨b,off+k * 8+2,none⟩=some (.string ⟨ks[k].module.toArray⟩)∧W.cell? ⟨b,off+k * 8+3,none⟩=some (.bool (decide (ks[k].num<0)))∧W.cell? ⟨b,off+k * 8+4,none⟩=some (.slice am wn cm)∧W.cell? ⟨b,off+k * 8+5,none⟩=some (.bool ks[k].yes)∧W.cell? ⟨b,off+k * 8+6,none⟩=some (.slice ak ks[k].kids.length ck)∧W.cell? ⟨b,off+k * 8+7,none⟩=some (.int .i64 ks[k].at_):=by
 obtain ⟨b,off,h1,h2,h3,h4⟩:=h (by omega)
 obtain ⟨am,wn,cm,ak,ck,h5,h6⟩:=h4 k hk
 exact ⟨b,off,am,wn,cm,ak,ck,h1,h2,h5.frame (Alk.ofB hW (fun b hb=>hb)),(hW.cell (p:=⟨b,off+k * 8,none⟩) h2).trans (h6 0 _ rfl),(hW.cell (p:=⟨b,off+k * 8+1,none⟩) h2).trans (h6 1 _ rfl),(hW.cell (p:=⟨b,off+k * 8+2,none⟩) h2).trans (h6 2 _ rfl),(hW.cell (p:=⟨b,off+k * 8+3,none⟩) h2).trans (h6 3 _ rfl),(hW.cell (p:=⟨b,off+k * 8+4,none⟩) h2).trans (h6 4 _ rfl),(hW.cell (p:=⟨b,off+k * 8+5,none⟩) h2).trans (h6 5 _ rfl),(hW.cell (p:=⟨b,off+k * 8+6,none⟩) h2).trans (h6 6 _ rfl),(hW.cell (p:=⟨b,off+k * 8+7,none⟩) h2).trans (h6 7 _ rfl)⟩
theorem parts_any (op:Int)(NM MD:ByteArray)(ng:Bool)(am:Option Addr)(wn cm:Nat)(ys:Bool)(ae:Option Addr)(ce:Nat)(a_:Int)(ks:List PZ)(ss:List ByteArray)(hl:ss.length≤ks.length)(hl2:ss.length≤1000)(hk:∀ x∈ks,KdDoes x)(B B' b sb cap:Nat)(fr:Nat × Nat)(acc:List UInt8)(w:World)
  (h:KidsZ B w ae ks) (hBB:B≤B') (hbd:Bld B' b acc w 116) (hs:w.heap[sb]?=some (.cells (ss.map Value.string).toArray 9 fr)) (hB:B'≤w.heap.size) (hn:acc.length+(partsZ ss ks).length≤1099511627776) :
  Calls Tryz.prog 139 #[.pointer (some ⟨b,0,none⟩),.agg #[.int .i64 op,.string NM,.string MD,.bool ng,.slice am wn cm,.bool ys,.slice ae ks.length ce,.int .i64 a_],.slice (some ⟨sb,0,none⟩) ss.length cap] w (WrPost B' b (acc++partsZ ss ks) w):=by
 have hal:=below_new w (.cells (boxZ op NM MD ng (.slice am wn cm) ys (.slice ae ks.length ce) a_) 40)
 have hN:=heap_alloc_new w (.cells (boxZ op NM MD ng (.slice am wn cm) ys (.slice ae ks.length ce) a_) 40)
 have hb1:=hbd.belowT hal
 have hs1:=(hal.block sb (Array.getElem?_eq_some_iff.1 hs).1).trans hs
 have hwB:=hal.mono hB
 have HH:=Lib.hid h
 have HK:=Lib.hid hk
 clear h hk hbd hs
 go_enter Tryz.func139,Tryz.ntmps139
 go_upto_region 1 with fail
 change Code.wp _ _ _ _ (w.alloc (.cells (boxZ op NM MD ng (.slice am wn cm) ys (.slice ae ks.length ce) a_) 40))
 generalize w.alloc _=w1 at hal hN hb1 hwB hs1 ⊢
 have hB1:=Nat.le_trans hB hal.size
 have HS1:=Lib.hid hs1
 have HN:=Lib.hid hN
 have HB1:=Lib.hid hb1
 clear hs1 hN hb1
 go_wp2
 go_loopw [10] (fun q wr=>∃ k:Nat,k≤ss.length∧q=.int .i64 k∧ShSt w1 B' b (acc++partsZ (ss.take k) (ks.take k)) wr) (fun q _=>ss.length - (intOf q).toNat)
 case atStart=>exact ⟨0,Nat.zero_le _,rfl,by simpa [partsZ] using ShSt.start HB1.out⟩
 case round =>
  obtain ⟨k,hkl,rfl,st⟩:=hrel
  have hz:=st.bel.size
  by_cases hlt:k<ss.length
  ·have hS2:=st.box HB1.out HS1.out (by decide) (by decide)
   have hx:wr.cell? ⟨sb,k,none⟩=some (.string ss[k]):=by
    rw [Lib.cell_of_heap hS2]
    simp [hlt]
   have hsn:=partsZ_snoc hlt (by omega:k<ks.length)
   have hle:=partsZ_le ss ks (k+1)
   rw [hsn,List.length_append,List.length_append,size_list] at hle
   have HD:=Lib.hid (HK.out _ (List.getElem_mem (by omega:k<ks.length)))
   have HKZ:=Lib.hid (fun W hW=>HH.out.at (W:=W) hW (by omega:k<ks.length))
   have HSN:=Lib.hid hsn
   have HST:=Lib.hid st
   clear hS2 hsn st
   generalize ss[k]=S at hx hle HSN
   generalize partsZ (ss.take k) (ks.take k)=c at hle HSN HST
   generalize ks[k]'(by omega)=x at hle HD HKZ HSN
   have hkI:(k:Int)<(ss.length:Int):=by omega
   have hkI2:(k:Int)<(ks.length:Int):=by omega
   have hln:acc.length+c.length+(S.size+x.text.length)≤1099511627776:=by omega
   clear hle
   go_upto_region 5 with (go_at_call 56;refine (word1_any S B' b (acc++c) wr HST.out.bld (by omega) (by rw [List.length_append];omega)).mono ?_;rintro r w2 h2;obtain rfl:=h2.eq)
   have s2:=HST.out.write h2
   have hz2:=s2.bel.size
   obtain ⟨y0,y1,y2,y3,y4,y5,y6,y7⟩:=boxZ_cells (s2.box HB1.out HN.out (by decide) (by decide))
   obtain ⟨kb,off,am1,wn1,cm1,ak1,ck1,rfl,hkB,hE,x0,x1,x2,x3,x4,x5,x6,x7⟩:=HKZ.out w2 ((hwB.trans s2.bel).mono hBB)
   have HC:=Lib.hid (HD.out 0 B B' b am1 wn1 cm1 ak1 ck1 (acc++c++S.data.toList) w2 hE hBB s2.bld (by omega) (by rw [parZ_zero];simp only [List.length_append,size_list];omega))
   have HSS:=Lib.hid s2
   clear hE HST h2 s2 HKZ HD y0 y1 y2 y3 y4 y5 y7 hx
   go_wp2_with (go_at_call 138;refine HC.out.mono ?_;rintro r w3 h3;obtain rfl:=h3.eq)
   refine ⟨⟨k+1,by omega,by go_num,?_⟩,by simp [intOf];omega⟩
   have:=HSS.out.write h3
   rw [parZ_zero] at this
   rw [HSN.out]
   simpa [List.append_assoc] using this
  ·obtain rfl:k=ss.length:=by omega
   have hkI:decide ((ss.length:Int)<(ss.length:Int))=false:=decide_eq_false (by omega)
   have hp:partsZ (ss.take ss.length) (ks.take ss.length)=partsZ ss ks:=by
    have:∀ (ss:List ByteArray) (ks:List PZ),partsZ (ss.take ss.length) (ks.take ss.length)=partsZ ss ks:=by
     intro ss
     induction ss with
     | nil=>intro ks;simp [partsZ]
     | cons s ss ih =>
      intro ks
      cases ks with
      | nil=>simp [partsZ]
      | cons x xs=>simp only [List.length_cons,List.take_succ_cons,partsZ,ih]
    exact this ss ks
   rw [hp] at st
   have HST:=Lib.hid st
   clear st hp
   go_wp2
   go_end0
   exact WrPost.from hal hB HST.out
theorem commaZ_snoc:∀ (l:List (List UInt8)) (t:List UInt8),commaZ (l++[t])=if l=[] then t else commaZ l++[44,32]++t
 | [],t=>rfl
 | [a],t=>by simp [commaZ]
 | a :: b :: l,t=>by
  have ih:=commaZ_snoc (b :: l) t
  rw [if_neg (by simp)] at ih ⊢
  simp only [List.cons_append] at ih ⊢
  rw [commaZ,ih,commaZ]
  simp
theorem commaZ_le:∀ (l r:List (List UInt8)),(commaZ l).length≤(commaZ (l++r)).length
 | l,[]=>by simp
 | l,t :: r=>by
  have h:=commaZ_le (l++[t]) r
  rw [List.append_assoc] at h
  have h2:=commaZ_snoc l t
  refine Nat.le_trans ?_ h
  rw [h2]
  split
  ·rename_i q;subst q;simp [commaZ]
  ·simp only [List.length_append];omega
 termination_by _ r=>r.length
def WrAskZ (f:FuncId)(lb:Array Value)(B' b:Nat)(w:World)(x:PZ):Prop:=∀ (acc:List UInt8) (W:World) (am:Option Addr) (wn cm:Nat) (ak:Option Addr) (ck:Nat),ShSt w B' b acc W→ZAt YA (fun k=>k<B') W (.slice am wn cm) (.slice ak x.kids.length ck) x→acc.length+x.text.length≤1099511627776 →
 Calls Tryz.prog f (#[.agg #[.int .i64 x.op,.string ⟨x.name.toArray⟩,.string ⟨x.module.toArray⟩,.bool (decide (x.num<0)),.slice am wn cm,.bool x.yes,.slice ak x.kids.length ck,.int .i64 x.at_]]++lb) W (WrPost B' b (acc++x.text) W)
theorem list_any (f:FuncId)(lb:Array Value)(eg:∀ args w,(callFunc f args).run Tryz.prog w=.ok (.enter f args) w)(ks:List PZ)(B B' b:Nat)(ae:Option Addr)(ce:Nat)(acc:List UInt8)(w:World)(hk:∀ x∈ks,WrAskZ f lb B' b w x)(h:KidsZ B w ae ks)(hBB:B≤B')(hbd:Bld B' b acc w 116)(hB:B'≤w.heap.size)(hn:acc.length+(commaZ (ks.map PZ.text)).length≤1099511627776)(hkl:ks.length≤1000000) :
  Calls Tryz.prog 173 #[.pointer (some ⟨b,0,none⟩),.slice ae ks.length ce,.func (.func f) #[] lb] w (WrPost B' b (acc++commaZ (ks.map PZ.text)) w):=by
 have HH:=Lib.hid h
 have HK:=Lib.hid hk
 have HB:=Lib.hid hbd
 clear h hk hbd
 go_enter Tryz.func173,Tryz.ntmps173
 go_wp2
 go_loopw [6,10] (fun _ q wr=>∃ k:Nat,k≤ks.length∧q=.int .i64 k∧ShSt w B' b (acc++commaZ ((ks.map PZ.text).take k)) wr) (fun _ q _=>ks.length - (intOf q).toNat)
 case atStart=>exact ⟨0,Nat.zero_le _,rfl,by simpa [commaZ] using ShSt.start HB.out⟩
 case round =>
  obtain ⟨k,hkk,rfl,st⟩:=hrel
  have hz:=st.bel.size
  by_cases hlt:k<ks.length
  ·have hlm:k<(ks.map PZ.text).length:=by simpa using hlt
   have hts:(ks.map PZ.text).take (k+1)=(ks.map PZ.text).take k++[ks[k].text]:=by rw [List.take_succ_eq_append_getElem hlm];simp
   have hsn:=commaZ_snoc ((ks.map PZ.text).take k) ks[k].text
   rw [← hts] at hsn
   have hle:=commaZ_le ((ks.map PZ.text).take (k+1)) ((ks.map PZ.text).drop (k+1))
   rw [List.take_append_drop] at hle
   have hnil:((ks.map PZ.text).take k=[])↔k=0:=by
    constructor
    ·intro q
     have:=congrArg List.length q
     rw [List.length_take,List.length_nil] at this
     omega
    ·rintro rfl;rfl
   simp only [hnil] at hsn
   have HD:=Lib.hid (HK.out _ (List.getElem_mem hlt))
   obtain ⟨kb,off,am1,wn1,cm1,ak1,ck1,rfl,hkB,hE,x0,x1,x2,x3,x4,x5,x6,x7⟩:=HH.out.at (st.bel.mono hBB) hlt
   have HSN:=Lib.hid hsn
   have HST:=Lib.hid st
   have hc0:k=0→commaZ ((ks.map PZ.text).take k)=[]:=by rintro rfl;rfl
   have HC0:=Lib.hid hc0
   clear hsn hts hlm hnil st hc0
   generalize commaZ ((ks.map PZ.text).take k)=c at HSN HST HC0
   generalize hcc:commaZ ((ks.map PZ.text).take (k+1))=c2 at hle HSN
   have HCC:=Lib.hid hcc
   clear hcc
   generalize ks[k]=x at *
   have hkI:(k:Int)<(ks.length:Int):=by omega
   have hln:acc.length+c2.length≤1099511627776:=by omega
   have hal:=below_new wr (.cells (boxZ x.op ⟨x.name.toArray⟩ ⟨x.module.toArray⟩ (decide (x.num<0)) (.slice am1 wn1 cm1) x.yes (.slice ak1 x.kids.length ck1) x.at_) 40)
   have hN:=heap_alloc_new wr (.cells (boxZ x.op ⟨x.name.toArray⟩ ⟨x.module.toArray⟩ (decide (x.num<0)) (.slice am1 wn1 cm1) x.yes (.slice ak1 x.kids.length ck1) x.at_) 40)
   have s1:=HST.out.below hal hB
   have hE1:=hE.frame (Alk.ofB (hal.mono (Nat.le_trans hB hz)) (fun b hb=>by omega:∀ b,b<B→b<B'))
   clear hle hE
   go_upto_region 3 with fail
   change Code.wp _ _ _ _ (wr.alloc (.cells (boxZ x.op ⟨x.name.toArray⟩ ⟨x.module.toArray⟩ (decide (x.num<0)) (.slice am1 wn1 cm1) x.yes (.slice ak1 x.kids.length ck1) x.at_) 40))
   clear x0 x1 x2 x3 x4 x5 x6 x7
   generalize wr.alloc _=w1 at hal hN s1 hE1 ⊢
   have hz1:=hal.size
   by_cases h0:k=0
   ·have HS0:Hid (c2=x.text):=Lib.hid (by rw [HSN.out,if_pos h0])
    have hc0:=HC0.out h0
    subst hc0
    rw [List.append_nil] at s1
    have HX:=Lib.hid (HD.out acc w1 am1 wn1 cm1 ak1 ck1 s1 (hE1.imp fun b hb _=>by omega) (by rw [← HS0.out];exact hln))
    have HC2:Hid (commaZ ((ks.map PZ.text).take (k+1))=c2):=HCC
    have HS1:=Lib.hid s1
    obtain ⟨y0,y1,y2,y3,y4,y5,y6,y7⟩:=boxZ_cells hN
    have hkI0:(k:Int)≤0:=by omega
    clear HSN HST HD hal hN s1 hE1 HC0 HCC h0
    go_wp2_with (go_at_fn f;refine HX.out.mono ?_;rintro r w3 h3;obtain rfl:=h3.eq)
    refine ⟨⟨k+1,by omega,by go_num,?_⟩,by simp [intOf];omega⟩
    rw [HC2.out,HS0.out]
    exact HS1.out.write h3
   ·have HS0:Hid (c2=c++[44,32]++x.text):=Lib.hid (by rw [HSN.out,if_neg h0])
    have hl2:acc.length+c.length+2+x.text.length≤1099511627776:=by
     have:=congrArg List.length HS0.out
     simp only [List.length_append,List.length_cons,List.length_nil] at this
     omega
    have hkI0:(0:Int)<(k:Int):=by omega
    have HC2:Hid (commaZ ((ks.map PZ.text).take (k+1))=c2):=HCC
    clear h0 HSN HC0 HCC hln
    go_upto_region 5 with (go_at_call 56;refine (word1_any ⟨#[44,32]⟩ B' b (acc++c) w1 s1.bld (by omega) (by show (acc++c).length+2≤_;rw [List.length_append];omega)).mono ?_;rintro r w2 h2;obtain rfl:=h2.eq)
    have s2:=s1.write h2
    obtain ⟨y0,y1,y2,y3,y4,y5,y6,y7⟩:=boxZ_cells (s1.bld.block h2.2.2.2 hN (by decide) (by decide))
    have HX:=Lib.hid (HD.out (acc++c++[44,32]) w2 am1 wn1 cm1 ak1 ck1 s2 ((hE1.frame (Alk.ofB h2.2.2.1 fun b hb=>by omega)).imp fun b hb _=>by omega) (by simp only [List.length_append,List.length_cons,List.length_nil];omega))
    have HS1:=Lib.hid s2
    clear HST HD hal hN s1 hE1 s2 h2
    go_wp2_with (go_at_fn f;refine HX.out.mono ?_;rintro r w3 h3;obtain rfl:=h3.eq)
    refine ⟨⟨k+1,by omega,by go_num,?_⟩,by simp [intOf];omega⟩
    have:=HS1.out.write h3
    rw [HC2.out,HS0.out]
    simpa [List.append_assoc] using this
  ·obtain rfl:k=ks.length:=by omega
   have hkI:decide ((ks.length:Int)<(ks.length:Int))=false:=decide_eq_false (by omega)
   rw [show (ks.map PZ.text).take ks.length=ks.map PZ.text by rw [List.take_of_length_le (by simp)]] at st
   have HST:=Lib.hid st
   clear st
   go_wp2
   go_end0
   exact ⟨rfl,HST.out.bld,HST.out.bel,HST.out.kept⟩
theorem callc_any (x:PZ)(hx:KdDoes x)(B' b tb:Nat)(acc0:List UInt8)(w:World)(hb0:Bld B' b acc0 w 116)(ht:w.heap[tb]?=some (.cells #[.pointer (some ⟨b,0,none⟩)] 114 (0,0)))(hB:B'≤w.heap.size) :
  WrAskZ 174 #[.pointer (some ⟨tb,0,none⟩)] B' b w x:=by
 intro acc W am wn cm ak ck st hE hn
 have hT:=st.box hb0 ht (by decide) (by decide)
 have hal:=below_new W (.cells (boxZ x.op ⟨x.name.toArray⟩ ⟨x.module.toArray⟩ (decide (x.num<0)) (.slice am wn cm) x.yes (.slice ak x.kids.length ck) x.at_) 40)
 have hN:=heap_alloc_new W (.cells (boxZ x.op ⟨x.name.toArray⟩ ⟨x.module.toArray⟩ (decide (x.num<0)) (.slice am wn cm) x.yes (.slice ak x.kids.length ck) x.at_) 40)
 have hBW:=Nat.le_trans hB st.bel.size
 have hT1:=(hal.block tb (Array.getElem?_eq_some_iff.1 hT).1).trans hT
 have s1:=(ShSt.start st.bld).below hal hBW
 have HX:=Lib.hid (fun hl=>hx 0 B' B' b am wn cm ak ck acc (W.alloc (.cells (boxZ x.op ⟨x.name.toArray⟩ ⟨x.module.toArray⟩ (decide (x.num<0)) (.slice am wn cm) x.yes (.slice ak x.kids.length ck) x.at_) 40)) (hE.frame (Alk.of hal)) (Nat.le_refl _) s1.bld (Nat.le_trans hBW hal.size) hl)
 rw [parZ_zero] at HX
 have HX2:=Lib.hid (HX.out hn)
 show Calls _ _ #[_,_] _ _
 clear hE hn hx HX st hT ht hb0
 go_enter Tryz.func174,Tryz.ntmps174
 go_upto_region 1 with fail
 change Code.wp _ _ _ _ (W.alloc (.cells (boxZ x.op ⟨x.name.toArray⟩ ⟨x.module.toArray⟩ (decide (x.num<0)) (.slice am wn cm) x.yes (.slice ak x.kids.length ck) x.at_) 40))
 generalize W.alloc _=w1 at hal hN hT1 s1 HX2 ⊢
 obtain ⟨y0,y1,y2,y3,y4,y5,y6,y7⟩:=boxZ_cells hN
 have yt:w1.cell? ⟨tb,0,none⟩=some (.pointer (some ⟨b,0,none⟩)):=by rw [Lib.cell_of_heap hT1];rfl
 go_wp2_with (go_at_call 138;refine HX2.out.mono ?_;rintro r w3 h3;obtain rfl:=h3.eq)
 go_end0
 exact ⟨rfl,h3.2.1,(hal.mono hBW).trans h3.2.2.1,(ok_below hal).trans h3.2.2.2⟩
end Go.Proofs.YtdednahplodojaaGreatDoor
