/- Walks and plain laws: EdumpW, ShowE, ShowF, ShowG. -/
import Derived.Test.YtdednahplodojaaGreatDoorD25
import Derived.Deep.CutBlock
import Derived.Test.YtdednahplodojaaGreatDoorD19
set_option maxHeartbeats 16000000
set_option maxRecDepth 100000
set_option linter.unusedVariables false
set_option linter.unusedSimpArgs false
namespace Go.Proofs.YtdednahplodojaaGreatDoor
open Go.RowKit Go
def boxA (op:Nat)(NM MD:ByteArray)(ng:Bool)(mv:Value)(ys:Bool)(kv:Value)(a_:Nat):Array Value:=#[.int .i64 op,.string NM,.string MD,.bool ng,mv,.bool ys,kv,.int .i64 a_]
theorem boxA_cells {w:World}{b op:Nat}{NM MD:ByteArray}{ng ys:Bool}{mv kv:Value}{a_:Nat}(h:w.heap[b]?=some (.cells (boxA op NM MD ng mv ys kv a_) 40 (0,0))) :
  w.cell? ⟨b,0,none⟩=some (.int .i64 op)∧w.cell? ⟨b,1,none⟩=some (.string NM)∧w.cell? ⟨b,2,none⟩=some (.string MD)∧w.cell? ⟨b,3,none⟩=some (.bool ng)∧w.cell? ⟨b,4,none⟩=some mv∧w.cell? ⟨b,5,none⟩=some (.bool ys)∧w.cell? ⟨b,6,none⟩=some kv∧w.cell? ⟨b,7,none⟩=some (.int .i64 a_):=by
 refine ⟨?_,?_,?_,?_,?_,?_,?_,?_⟩ <;> (rw [Lib.cell_of_heap h];rfl)
theorem fitsE_mem {M:Nat}:∀ {l:List PE} {e:PE},fitsE M l→e∈l→e.fits M
 | x :: l,e,h,hm=>by
  rw [fitsE] at h
  rcases List.mem_cons.1 hm with rfl|hm
  ·exact h.1
  ·exact fitsE_mem h.2 hm
theorem PE.fits_def {M:Nat}{e:PE}(h:e.fits M):e.op<100∧e.num.natAbs<10 ^ 60∧fitsE M e.kids:=by
 cases e
 rw [PE.fits] at h
 exact ⟨h.1,h.2.2.2.2.2.1,h.2.2.2.2.2.2⟩
def EdSt (w:World)(B' b:Nat)(bx:Array Value)(acc:List UInt8)(W:World):Prop :=
 Bld B' b acc W∧W.heap[w.heap.size]?=some (.cells bx 40 (0,0))∧Below B' w W∧Lib.OthersKept 5 (some b) w W
theorem EdSt.write {w W W':World}{B' b:Nat}{bx:Array Value}{acc acc':List UInt8}(h:EdSt w B' b bx acc W)(h1:Bld B' b acc' W')(h2:Below B' W W')(h3:Lib.OthersKept 5 (some b) W W'):EdSt w B' b bx acc' W' :=
 ⟨h1,h.1.block h3 h.2.1 (by decide) (by decide),h.2.2.1.trans h2,h.2.2.2.trans h3⟩
theorem Bld.belowAll {B b:Nat}{acc:List UInt8}{w w':World}(h:Bld B b acc w)(hb:Below w.heap.size w w'):Bld B b acc w':=by
 have key:∀ p,Lib.BuilderAtF 99 5 B b p (Lib.byteCells acc) w→Lib.BuilderAtF 99 5 B b p (Lib.byteCells acc) w':=by
  rintro p ⟨h1,v,h2,⟨h3,h4⟩,h5⟩
  refine ⟨h1,v,(hb.block b h.lt).trans h2,⟨h3,?_⟩,h5⟩
  rcases h4 with h4|⟨g,cap,cur,fz,q1,q2,q3,q4⟩
  ·exact Or.inl h4
  ·exact Or.inr ⟨g,cap,cur,fz,q1,q2,(hb.block g (Array.getElem?_eq_some_iff.1 q3).1).trans q3,q4⟩
 rcases h with h|h
 ·exact Or.inl (key _ h)
 ·exact Or.inr (key _ h)
theorem EdSt.below {w W W':World}{B' b:Nat}{bx:Array Value}{acc:List UInt8}(h:EdSt w B' b bx acc W)(hb:Below W.heap.size W W'):EdSt w B' b bx acc W' :=
 ⟨h.1.belowAll hb,(hb.block _ (Array.getElem?_eq_some_iff.1 h.2.1).1).trans h.2.1,h.2.2.1.trans (hb.mono (Nat.le_trans (Nat.le_trans h.1.le (Nat.le_of_lt h.1.lt)) (Nat.le_refl _))),fun k o hk hkb he=>by
  have h1:=h.2.2.2 k o hk hkb he
  exact (hb.block k (Array.getElem?_eq_some_iff.1 h1).1).trans h1⟩
theorem EdSt.alloc {w W:World}{B' b:Nat}{bx:Array Value}{acc:List UInt8}(h:EdSt w B' b bx acc W)(o:Obj):EdSt w B' b bx acc (W.alloc o):=h.below (below_new W o)
def EdDoes (e:PE):Prop:=∀ (B B' b:Nat) (am:Option Addr) (wn cm:Nat) (ae:Option Addr) (ce:Nat) (acc:List UInt8) (w:World),EAt XA (fun b=>b<B) w (.slice am wn cm) (.slice ae e.kids.length ce) e→B≤B'→Bld B' b acc w→B'≤w.heap.size→acc.length+e.dump.length≤1099511627776→e.size≤1099511627776 →
  Calls Tryz.prog 54 #[.agg #[.int .i64 e.op,.string ⟨e.name.toArray⟩,.string ⟨e.module.toArray⟩,.bool (decide (e.num<0)),.slice am wn cm,.bool e.yes,.slice ae e.kids.length ce,.int .i64 e.at_],.pointer (some ⟨b,0,none⟩)] w (DmpPost B' b (acc++e.dump) w)
def EdAll (ks:List PE):Prop:=∀ x∈ks,EdDoes x
theorem yesF_two (b:Bool):yesF 2 b=[32]++Lib.formatBool b:=by cases b <;> rfl
theorem edump_step (e:PE)(hop:e.op<100)(hnm:e.num.natAbs<10 ^ 60)(IH:EdAll e.kids):EdDoes e:=by
 intro B B' b am wn cm ae ce acc w h hBB hbd hB hdl hz
 have hdef:=e.size_def
 have hdd:=e.dump_def
 obtain ⟨hnum,ae',ce',hv,hcap,hf⟩:=h.form
 simp only [Value.slice.injEq] at hv
 obtain ⟨rfl,-,rfl⟩:=hv
 have hfew:=sizeE_few e.kids
 have hkl:e.kids.length≤1099511627776:=by omega
 have hzk:sizeE e.kids+1≤1099511627776:=by omega
 have HIT:=Lib.hid (fun W=>itoa_any e.op hop W)
 have HST:=Lib.hid (fun W (hW:Below B' w W)=>zstr_any (fun b=>b<B) am wn cm e.num W (XA.frame hnum (Alk.ofB hW (fun b hb=>by omega))) hnm)
 rw [head_parts] at hdd
 have HF:=Lib.hid hf
 clear hnum hdef hz hop hnm h hf
 generalize decF e.op=dg at HIT hdd
 generalize intF e.num=tx at HST hdd
 generalize decide (e.num<0)=ng at *
 generalize e.op=op at *
 generalize e.name=nm at *
 generalize e.module=md at *
 generalize e.yes=ys at *
 generalize e.at_=a_ at *
 generalize e.dump=out at *
 generalize hkk:e.kids=ks at *
 obtain ⟨NM,rfl,eN⟩:=bytes_of nm
 obtain ⟨MD,rfl,eM⟩:=bytes_of md
 obtain ⟨TX,rfl,eT⟩:=bytes_of tx
 obtain ⟨DG,rfl,eD⟩:=bytes_of dg
 have HIT:Hid (∀ W,Calls Tryz.prog 80 #[.int .i64 op] W fun r w'=>r=.returned (.string DG)∧w'=W):=Lib.hid fun W=>(HIT.out W).mono fun r w' h=>⟨by rw [h.1,eD],h.2⟩
 have HST:Hid (∀ W,Below B' w W→Calls Tryz.prog 86 #[.agg #[.bool ng,.slice am wn cm]] W fun r w'=>r=.returned (.string TX)∧Below W.heap.size W w'):=Lib.hid fun W hW=>(HST.out W hW).mono fun r w' h=>⟨by rw [h.1,eT],h.2⟩
 rw [eN,eM]
 have hln:=congrArg List.length hdd
 simp only [List.length_append,size_list,List.length_cons,List.length_nil] at hln
 have HDD:=Lib.hid hdd
 have hbd0:acc.length+DG.size+(nameF NM.data.toList MD.data.toList).length+(numTF op TX.data.toList).length+(yesF op ys).length+(dumpE ks).length+2≤1099511627776:=by omega
 have H0:Hid (EdSt w B' b (boxA op NM MD ng (.slice am wn cm) ys (.slice ae ks.length ce) a_) acc (w.alloc (.cells (boxA op NM MD ng (.slice am wn cm) ys (.slice ae ks.length ce) a_) 40))):=Lib.hid ⟨hbd.alloc _,heap_alloc_new w _,(Below.refl _ w).alloc hB _,(Lib.OthersKept.refl 5 (some b) w).alloc _⟩
 clear hdd hln hdl eN eM eT eD hbd
 have hS0:((ByteArray.mk #[91])++DG).data.toList=[91]++DG.data.toList:=by simp
 have HS0:=Lib.hid hS0
 have hS0z:((ByteArray.mk #[91])++DG).size=1+DG.size:=by rw [← size_list,hS0];simp;omega
 have HS0z:=Lib.hid hS0z
 clear hS0 hS0z
 have e0:=(boxA_cells H0.out.2.1).1
 go_enter Tryz.func54,Tryz.ntmps54
 go_upto_block 0 with (first|(go_at_call 80;refine (HIT.out _).mono ?_;rintro e w3 ⟨rfl,rfl⟩)|(go_at_call 78;refine (write_any B' b acc (ByteArray.mk #[91]++DG) _ H0.out.1 (by rw [HS0z.out];omega) (by simp;omega)).mono ?_;rintro e w4 ⟨rfl,hb4,hl4,ho4⟩))
 have hst:=H0.out.write hb4 hl4 ho4
 rw [HS0.out] at hst
 generalize hA1:acc++([91]++DG.data.toList)=A1 at hst
 have HA1:=Lib.hid hA1
 have hl1:A1.length=acc.length+DG.size+1:=by rw [← hA1];simp only [List.length_append,size_list,List.length_cons,List.length_nil];omega
 have hbd1:A1.length+(nameF NM.data.toList MD.data.toList).length+(numTF op TX.data.toList).length+(yesF op ys).length+(dumpE ks).length+1≤1099511627776:=by omega
 clear hb4 hl4 ho4 H0 HS0 HS0z HIT e0 hA1 hl1 hbd0
 go_cut [12] (fun s wc=>EdSt w B' b (boxA op NM MD ng (.slice am wn cm) ys (.slice ae ks.length ce) a_) (A1++nameF NM.data.toList MD.data.toList) wc)
 case first =>
  have hz4:=hst.2.2.1.size
  obtain ⟨y0,y1,y2,-⟩:=boxA_cells hst.2.1
  have HS4:=Lib.hid hst
  clear hst
  go_upto_if 12 with fail
  generalize ht:(!MD.toList.isEmpty)=t
  cases t with
  | false =>
   have hm:MD.data.toList=[]:=Classical.byContradiction fun q=>by rw [empty_no q] at ht;cases ht
   clear ht
   by_cases hn:NM.data.toList=[]
   ·have hne:=empty_yes hn
    have HN:=Lib.hid (nameF_no hm hn)
    clear hm hn
    go_wp2
    go_meet
    rw [HN.out,List.append_nil]
    exact HS4.out
   ·have hne:=empty_no hn
    have HN:=Lib.hid (nameF_nm hm hn)
    clear hm hn
    rw [HN.out] at hbd1
    simp only [List.length_append,size_list,List.length_cons,List.length_nil] at hbd1
    have HW:Hid (((ByteArray.mk #[32])++NM).data.toList=[32]++NM.data.toList):=Lib.hid (by simp)
    go_wp2_with (go_at_call 78;refine (write_any B' b A1 (ByteArray.mk #[32]++NM) _ HS4.out.1 (by rw [← size_list,HW.out];simp;omega) (by omega)).mono ?_;rintro e w5 ⟨rfl,hb5,hl5,ho5⟩)
    go_meet
    rw [HN.out,← HW.out]
    exact HS4.out.write hb5 hl5 ho5
  | true =>
   have hm:MD.data.toList≠[]:=fun q=>by rw [empty_yes q] at ht;cases ht
   have HN:=Lib.hid (nameF_md (nm:=NM.data.toList) hm)
   rw [HN.out] at hbd1
   simp only [List.length_append,size_list,List.length_cons,List.length_nil] at hbd1
   clear hm ht
   have HW:Hid (((ByteArray.mk #[32])++MD++(ByteArray.mk #[46])++NM).data.toList=[32]++MD.data.toList++[46]++NM.data.toList):=Lib.hid (by simp)
   go_wp2_with (go_at_call 78;refine (write_any B' b A1 (ByteArray.mk #[32]++MD++ByteArray.mk #[46]++NM) _ HS4.out.1 (by rw [← size_list,HW.out];simp;omega) (by omega)).mono ?_;rintro e w5 ⟨rfl,hb5,hl5,ho5⟩)
   go_meet
   rw [HN.out,← HW.out]
   exact HS4.out.write hb5 hl5 ho5
 case rest =>
  obtain ⟨wo,rfl⟩:∃ wo:World,wo=wc:=⟨_,rfl⟩
  clear hst
  generalize hA2:A1++nameF NM.data.toList MD.data.toList=A2 at hcut
  have HA2:=Lib.hid hA2
  have hl2:A2.length=A1.length+(nameF NM.data.toList MD.data.toList).length:=by rw [← hA2,List.length_append]
  have hbd2:A2.length+(numTF op TX.data.toList).length+(yesF op ys).length+(dumpE ks).length+1≤1099511627776:=by omega
  clear hA2 hl2 hbd1
  have z0:=(boxA_cells hcut.2.1).1
  go_upto_block 1 with fail
  go_cut [36] (fun s wc=>EdSt w B' b (boxA op NM MD ng (.slice am wn cm) ys (.slice ae ks.length ce) a_) (A2++(numTF op TX.data.toList++yesF op ys)) wc)
  case first =>
   have hz4:=hcut.2.2.1.size
   obtain ⟨y0,y1,y2,y3,y4,y5,-,-⟩:=boxA_cells hcut.2.1
   have HS4:=Lib.hid hcut
   clear hcut
   by_cases h1:op=1
   ·subst h1
    have HN:Hid (numTF 1 TX.data.toList++yesF 1 ys=[32]++TX.data.toList):=Lib.hid (by simp [numTF,yesF])
    have hbd3:A2.length+1+TX.size+1≤1099511627776:=by
     have:=congrArg List.length HN.out
     simp only [List.length_append,size_list,List.length_cons,List.length_nil] at this
     omega
    have HW:Hid (((ByteArray.mk #[32])++TX).data.toList=[32]++TX.data.toList):=Lib.hid (by simp)
    have HZ:=HST.out wo HS4.out.2.2.1
    have HSZ:=Lib.hid HZ
    clear HZ
    go_wp2_with (first|(go_at_call 86;refine HSZ.out.mono ?_;rintro e w5 ⟨rfl,hb5⟩;have HS5:=HS4.out.below hb5;have hz5:=hb5.size)|(go_at_call 78;refine (write_any B' b A2 (ByteArray.mk #[32]++TX) _ HS5.1 (by rw [← size_list,HW.out];simp;omega) (by omega)).mono ?_;rintro e w6 ⟨rfl,hb6,hl6,ho6⟩))
    go_meet
    rw [HN.out,← HW.out]
    exact HS5.write hb6 hl6 ho6
   ·have h1I:((op:Int) == 1)=false:=beq_eq_false_iff_ne.2 (by omega)
    by_cases h2:op=2
    ·subst h2
     have HN:Hid (numTF 2 TX.data.toList++yesF 2 ys=[32]++Lib.formatBool ys):=Lib.hid (by rw [yesF_two];simp [numTF])
     obtain ⟨FB,hFB,eFB⟩:=bytes_of (Lib.formatBool ys)
     have HFB:=Lib.hid (fun W=>Tryz.strconv_FormatBool ys W)
     rw [eFB] at HFB
     have hfl:FB.size≤5:=by rw [← size_list,hFB];cases ys <;> decide
     rw [← hFB] at HN
     have hbd3:A2.length+1+FB.size+1≤1099511627776:=by
      have:=congrArg List.length HN.out
      simp only [List.length_append,size_list,List.length_cons,List.length_nil] at this
      omega
     have HW:Hid (((ByteArray.mk #[32])++FB).data.toList=[32]++FB.data.toList):=Lib.hid (by simp)
     clear hFB eFB h1
     go_wp2_with (first|(go_at_call 93;refine (HFB.out _).mono ?_;rintro e w5 ⟨rfl,rfl⟩)|(go_at_call 78;refine (write_any B' b A2 (ByteArray.mk #[32]++FB) _ HS4.out.1 (by rw [← size_list,HW.out];simp;omega) (by omega)).mono ?_;rintro e w6 ⟨rfl,hb6,hl6,ho6⟩))
     go_meet
     rw [HN.out,← HW.out]
     exact HS4.out.write hb6 hl6 ho6
    ·have h2I:((op:Int) == 2)=false:=beq_eq_false_iff_ne.2 (by omega)
     have HN:Hid (numTF op TX.data.toList++yesF op ys=[]):=Lib.hid (by simp [numTF,yesF,h1,h2])
     clear h1 h2
     go_wp2
     go_meet
     rw [HN.out,List.append_nil]
     exact HS4.out
  case rest =>
   obtain ⟨wo,rfl⟩:∃ wo:World,wo=wc:=⟨_,rfl⟩
   generalize hA3:A2++(numTF op TX.data.toList++yesF op ys)=A3 at hcut
   have hl3:A3.length=A2.length+(numTF op TX.data.toList).length+(yesF op ys).length:=by rw [← hA3,List.length_append,List.length_append];omega
   have hbd3:A3.length+(dumpE ks).length+1≤1099511627776:=by omega
   have HAA:Hid (acc++out=A3++dumpE ks++[93]):=Lib.hid (by rw [HDD.out,← hA3,← HA2.out,← HA1.out];simp)
   have z6:=(boxA_cells hcut.2.1).2.2.2.2.2.2.1
   have HC:=Lib.hid hcut
   clear hA3 hl3 hbd2 HST HDD HA1 HA2 hcut z0
   go_upto_block 2 with fail
   go_wp2_with fail
   go_loopw [55] (fun q wr=>∃ k:Nat,k≤ks.length∧q=.int .i64 k∧EdSt w B' b (boxA op NM MD ng (.slice am wn cm) ys (.slice ae ks.length ce) a_) (A3++dumpE (ks.take k)) wr) (fun q _=>ks.length - (intOf q).toNat)
   case atStart=>exact ⟨0,Nat.zero_le _,rfl,by simpa [dumpE] using HC.out⟩
   case round =>
    obtain ⟨k,hk,rfl,hst⟩:=hrel
    have hbl:=hst.2.2.1
    have hz:=hbl.size
    have hspl:=congrArg List.length (dumpE_append (ks.take k) (ks.drop k))
    rw [List.take_append_drop,List.length_append] at hspl
    by_cases hlt:k<ks.length
    ·obtain ⟨b2,off,rfl,hbB,hbw,hkid⟩:=HF.out (by omega)
     obtain ⟨m,kv,hE,hc⟩:=hkid k hlt
     have hmem:ks[k]∈ks:=List.getElem_mem hlt
     have hle:=sizeE_mem ks _ hmem
     obtain ⟨am1,wn1,cm1,ae1,ce1,rfl,rfl⟩:=hE.slX
     have IHx:=IH _ hmem B B' b am1 wn1 cm1 ae1 ce1
     have hstep:dumpE (ks.take (k+1))=dumpE (ks.take k)++([32]++ks[k].dump):=by rw [take_succ_at hlt,dumpE_append];simp [dumpE]
     have hlen:(dumpE (ks.take k)).length+1+ks[k].dump.length≤(dumpE ks).length:=by
      rw [hspl,List.drop_eq_getElem_cons hlt,dumpE]
      simp
      omega
     have hxs:ks[k].size≤1099511627776:=by omega
     generalize ks[k]=x at hE hc hle IHx hstep hlen hxs
     have y0:=(hbl.cell (p:=⟨b2,off+k * 8,none⟩) (by show b2<B';omega)).trans (hc 0 _ rfl)
     have y1:=(hbl.cell (p:=⟨b2,off+k * 8+1,none⟩) (by show b2<B';omega)).trans (hc 1 _ rfl)
     have y2:=(hbl.cell (p:=⟨b2,off+k * 8+2,none⟩) (by show b2<B';omega)).trans (hc 2 _ rfl)
     have y3:=(hbl.cell (p:=⟨b2,off+k * 8+3,none⟩) (by show b2<B';omega)).trans (hc 3 _ rfl)
     have y4:=(hbl.cell (p:=⟨b2,off+k * 8+4,none⟩) (by show b2<B';omega)).trans (hc 4 _ rfl)
     have y5:=(hbl.cell (p:=⟨b2,off+k * 8+5,none⟩) (by show b2<B';omega)).trans (hc 5 _ rfl)
     have y6:=(hbl.cell (p:=⟨b2,off+k * 8+6,none⟩) (by show b2<B';omega)).trans (hc 6 _ rfl)
     have y7:=(hbl.cell (p:=⟨b2,off+k * 8+7,none⟩) (by show b2<B';omega)).trans (hc 7 _ rfl)
     simp only [strV] at y1 y2
     have hAl:(A3++dumpE (ks.take k)).length=A3.length+(dumpE (ks.take k)).length:=List.length_append
     have HS2:=Lib.hid hstep
     generalize dumpE (ks.take k)=D at hst hspl hlen hAl HS2
     have HE1:=Lib.hid (hst.alloc (.cells (boxA x.op ⟨x.name.toArray⟩ ⟨x.module.toArray⟩ (decide (x.num<0)) (.slice am1 wn1 cm1) x.yes (.slice ae1 x.kids.length ce1) x.at_) 40))
     have HN1:=Lib.hid (heap_alloc_new wr (.cells (boxA x.op ⟨x.name.toArray⟩ ⟨x.module.toArray⟩ (decide (x.num<0)) (.slice am1 wn1 cm1) x.yes (.slice ae1 x.kids.length ce1) x.at_) 40))
     have hEf:=fun (W:World) (hW:Below B' w W)=>EAt.frame (Alk.ofB hW (fun b hb=>by omega)) hE
     have HEF:=Lib.hid hEf
     have hAD:(A3++D).length+1+x.dump.length≤1099511627776:=by omega
     have hkI:(k:Int)<(ks.length:Int):=by omega
     clear hkid hc hE hstep hspl hlen hAl hst hEf hmem
     go_upto_region 15 with (go_at_call 78;refine (write_any B' b (A3++D) ⟨#[32]⟩ _ HE1.out.1 (by show (A3++D).length+1≤140737488355328;omega) (by simp;omega)).mono ?_;rintro e w5 ⟨rfl,hb5,hl5,ho5⟩)
     have hst5:=HE1.out.write hb5 hl5 ho5
     obtain ⟨r0,r1,r2,r3,r4,r5,r6,r7⟩:=boxA_cells (HE1.out.1.block ho5 HN1.out (by decide) (by decide))
     have hz5:=hst5.2.2.1.size
     have HI:=Lib.hid (IHx _ w5 (HEF.out w5 hst5.2.2.1) hBB hst5.1 (by omega) (by rw [List.length_append];exact hAD) hxs)
     have HS5:=Lib.hid hst5
     clear hst5 hb5 hl5 ho5 HE1 HN1 HEF y0 y1 y2 y3 y4 y5 y6 y7 hbl IHx
     go_wp2_with (go_at_call 54;refine HI.out.mono ?_;rintro e w6 ⟨rfl,hb6,hl6,ho6⟩)
     refine ⟨⟨k+1,by omega,by go_num,?_⟩,by simp [intOf];omega⟩
     rw [HS2.out,← List.append_assoc,← List.append_assoc]
     exact HS5.out.write hb6 hl6 ho6
    ·obtain rfl:k=ks.length:=by omega
     have hkI:decide ((ks.length:Int)<(ks.length:Int))=false:=decide_eq_false (by omega)
     rw [List.take_length] at hst
     have HSS:=Lib.hid hst
     have hal:(A3++dumpE ks).length+1≤140737488355328:=by rw [List.length_append];omega
     clear hst hspl hbl
     go_wp2_with (go_at_call 78;refine (write_any B' b (A3++dumpE ks) ⟨#[93]⟩ _ HSS.out.1 hal (by omega)).mono ?_;rintro e w5 ⟨rfl,hb5,hl5,ho5⟩)
     go_end0
     refine ⟨rfl,?_,HSS.out.2.2.1.trans hl5,HSS.out.2.2.2.trans ho5⟩
     rw [HAA.out]
     exact hb5
theorem edump_any {M:Nat}:∀ (n:Nat) (e:PE),SizeOf.sizeOf e<n→e.fits M→EdDoes e
 | 0,e,hs,_=>absurd hs (by omega)
 | n+1,e,hs,hf=>edump_step e (PE.fits_def hf).1 (PE.fits_def hf).2.1 fun x hx=>edump_any n x (by have:=kids_sizeOf e x hx;omega) (fitsE_mem (PE.fits_def hf).2.2 hx)
def twoV:Array Value:=#[.int .i64 6,.int .i64 6,.int .i64 7,.string ⟨#[43]⟩,.int .i64 6,.int .i64 6,.int .i64 7,.string ⟨#[45]⟩,.int .i64 7,.int .i64 7,.int .i64 8,.string ⟨#[42]⟩,.int .i64 7,.int .i64 7,.int .i64 8,.string ⟨#[47]⟩,.int .i64 7,.int .i64 7,.int .i64 8,.string ⟨#[37]⟩,.int .i64 5,.int .i64 6,.int .i64 6,.string ⟨#[61]⟩,.int .i64 5,.int .i64 6,.int .i64 6,.string ⟨#[60,62]⟩,.int .i64 5,.int .i64 6,.int .i64 6,.string ⟨#[60]⟩,.int .i64 5,.int .i64 6,.int .i64 6,.string ⟨#[60,61]⟩,.int .i64 5,.int .i64 6,.int .i64 6,.string ⟨#[62]⟩,.int .i64 5,.int .i64 6,.int .i64 6,.string ⟨#[62,61]⟩,.int .i64 3,.int .i64 3,.int .i64 4,.string ⟨#[38,38]⟩,.int .i64 2,.int .i64 2,.int .i64 3,.string ⟨#[124,124]⟩,.int .i64 1,.int .i64 2,.int .i64 1,.string ⟨#[61,62]⟩]
theorem two_index:∀ k:Nat,k<14→∀ w:World,(Instr.index 238 (.agg twoV) (.int .i64 k)).run Tryz.prog w=.ok (.agg #[.int .i64 (lvZ ((k+7:Nat):Int)),.int .i64 (firstZ ((k+7:Nat):Int)),.int .i64 (thenZ ((k+7:Nat):Int)),.string ⟨(signZ ((k+7:Nat):Int)).toArray⟩]) w
 | 0,_=>fun _=>by kernel_rfl
 | 1,_=>fun _=>by kernel_rfl
 | 2,_=>fun _=>by kernel_rfl
 | 3,_=>fun _=>by kernel_rfl
 | 4,_=>fun _=>by kernel_rfl
 | 5,_=>fun _=>by kernel_rfl
 | 6,_=>fun _=>by kernel_rfl
 | 7,_=>fun _=>by kernel_rfl
 | 8,_=>fun _=>by kernel_rfl
 | 9,_=>fun _=>by kernel_rfl
 | 10,_=>fun _=>by kernel_rfl
 | 11,_=>fun _=>by kernel_rfl
 | 12,_=>fun _=>by kernel_rfl
 | 13,_=>fun _=>by kernel_rfl
 | k+14,h=>absurd h (by omega)
theorem two_any (op:Int)(h1:7≤op)(h2:op≤20)(w:World):Calls Tryz.prog 141 #[.int .i64 op] w fun r w'=>r=.returned (.agg #[.int .i64 (lvZ op),.int .i64 (firstZ op),.int .i64 (thenZ op),.string ⟨(signZ op).toArray⟩])∧Below w.heap.size w w':=by
 have hx:=two_index (op - 7).toNat (by omega)
 rw [show (((op - 7).toNat:Nat):Int)=op - 7 by omega,show ((((op - 7).toNat+7:Nat)):Int)=op by omega] at hx
 unfold twoV at hx
 generalize lvZ op=a at *
 generalize firstZ op=b at *
 generalize thenZ op=c at *
 generalize ByteArray.mk (signZ op).toArray=d at *
 go_enter Tryz.func141,Tryz.ntmps141
 go_wp2
 refine bodyPost_ret (v:=.agg #[.int .i64 a,.int .i64 b,.int .i64 c,.string d]) (by simp [results,Tryz.results141,go_sem]) rfl ⟨rfl,?_⟩
 exact below_new w _
theorem formField0 (a b c d:Value)(w:World):(Instr.field 209 (.agg #[a,b,c,d]) 0).run Tryz.prog w=.ok a w:=by kernel_rfl
theorem level_any (op:Int)(NM MD:ByteArray)(ng:Bool)(am:Option Addr)(wn cm:Nat)(ys:Bool)(ae:Option Addr)(wk ce:Nat)(a_:Int)(w:World) :
  Calls Tryz.prog 172 #[.agg #[.int .i64 op,.string NM,.string MD,.bool ng,.slice am wn cm,.bool ys,.slice ae wk ce,.int .i64 a_]] w fun r w'=>r=.returned (.int .i64 (lvZ op))∧Below w.heap.size w w':=by
 have hBin:∀ W,Calls Tryz.prog 196 #[.int .i64 op] W fun r w'=>r=.returned (.bool (decide (7≤op) && decide (op≤20)))∧W=w':=fun W=>by
  by_cases h7:7≤op
  ·rw [decide_eq_true h7,Bool.true_and]
   go_enter Tryz.func196,Tryz.ntmps196
   go_wp2
   go_ret
   exact ⟨rfl,rfl⟩
  ·rw [decide_eq_false h7,Bool.false_and]
   have h7':op<7:=by omega
   go_enter Tryz.func196,Tryz.ntmps196
   go_wp2
   go_ret
   exact ⟨rfl,rfl⟩
 have HBn:=Lib.hid hBin
 clear hBin
 have hb0:=below_new w (.cells (boxZ op NM MD ng (.slice am wn cm) ys (.slice ae wk ce) a_) 40)
 by_cases h:7≤op∧op≤20
 ·have HT:=Lib.hid (fun W=>two_any op h.1 h.2 W)
  have HB:Hid (∀ W,Calls Tryz.prog 196 #[.int .i64 op] W fun r w'=>r=.returned (.bool true)∧W=w'):=Lib.hid fun W=>(HBn.out W).mono fun r w' q=>⟨by rw [q.1,decide_eq_true h.1,decide_eq_true h.2];rfl,q.2⟩
  clear HBn h
  have tf:=formField0
  generalize lvZ op=l at *
  go_enter Tryz.func172,Tryz.ntmps172
  go_wp2_with (first|(go_at_call 196;refine (HB.out _).mono ?_;rintro r w' ⟨rfl,rfl⟩)|(go_at_call 141;refine (HT.out _).mono ?_;rintro r w1 ⟨rfl,hb1⟩))
  go_ret
  exact ⟨rfl,hb0.trans (hb1.mono hb0.size)⟩
 ·have HB:Hid (∀ W,Calls Tryz.prog 196 #[.int .i64 op] W fun r w'=>r=.returned (.bool false)∧W=w'):=Lib.hid fun W=>(HBn.out W).mono fun r w' q=>⟨by
   rw [q.1]
   by_cases h7:7≤op
   ·rw [decide_eq_false (by omega:¬ op≤20),Bool.and_false]
   ·rw [decide_eq_false h7,Bool.false_and],q.2⟩
  clear HBn
  have hl:lvZ op=if op=5 then 8 else if op=6 then 4 else if 21≤op∧op≤23 then 0 else 9:=by
   unfold lvZ
   repeat' (first|omega|split)
  rw [hl]
  clear hl
  by_cases h5:op=5
  ·subst h5
   clear h
   go_enter Tryz.func172,Tryz.ntmps172
   go_wp2_with (go_at_call 196;refine (HB.out _).mono ?_;rintro r w' ⟨rfl,rfl⟩)
   go_ret
   exact ⟨rfl,hb0⟩
  by_cases h6:op=6
  ·subst h6
   clear h h5
   go_enter Tryz.func172,Tryz.ntmps172
   go_wp2_with (go_at_call 196;refine (HB.out _).mono ?_;rintro r w' ⟨rfl,rfl⟩)
   go_ret
   exact ⟨rfl,hb0⟩
  rw [if_neg h5,if_neg h6]
  have t5:(op == 5)=false:=beq_eq_false_iff_ne.2 h5
  have t6:(op == 6)=false:=beq_eq_false_iff_ne.2 h6
  by_cases h21:21≤op∧op≤23
  ·rw [if_pos h21]
   obtain ⟨u1,u2⟩:=h21
   clear h h5 h6
   go_enter Tryz.func172,Tryz.ntmps172
   go_wp2_with (go_at_call 196;refine (HB.out _).mono ?_;rintro r w' ⟨rfl,rfl⟩)
   go_ret
   exact ⟨rfl,hb0⟩
  ·rw [if_neg h21]
   by_cases u1:21≤op
   ·have u2:23<op:=by omega
    clear h h5 h6 h21
    go_enter Tryz.func172,Tryz.ntmps172
    go_wp2_with (go_at_call 196;refine (HB.out _).mono ?_;rintro r w' ⟨rfl,rfl⟩)
    go_ret
    exact ⟨rfl,hb0⟩
   ·have u2:op<21:=by omega
    clear h h5 h6 h21 u1
    go_enter Tryz.func172,Tryz.ntmps172
    go_wp2_with (go_at_call 196;refine (HB.out _).mono ?_;rintro r w' ⟨rfl,rfl⟩)
    go_ret
    exact ⟨rfl,hb0⟩
def WrPost (B' b:Nat)(acc:List UInt8)(w:World)(r:Ending)(w':World):Prop:=r=.returned (.tuple #[])∧Bld B' b acc w' 116∧Below B' w w'∧Lib.OthersKept 5 (some b) w w'
def catS (l:List ByteArray):List UInt8:=l.flatMap fun s=>s.data.toList
theorem catS_take {l:List ByteArray}{k:Nat}(h:k<l.length):catS (l.take (k+1))=catS (l.take k)++l[k].data.toList:=by
 unfold catS
 rw [List.take_succ_eq_append_getElem h,List.flatMap_append,List.flatMap_singleton]
theorem catS_le (l:List ByteArray)(k:Nat):(catS (l.take k)).length≤(catS l).length:=by
 unfold catS
 conv=>rhs;rw [← List.take_append_drop k l,List.flatMap_append,List.length_append]
 omega
theorem words_any (ss:List ByteArray)(B' b sb cap:Nat)(fr:Nat × Nat)(acc:List UInt8)(w:World)(hb:Bld B' b acc w 116)(hs:w.heap[sb]?=some (.cells (ss.map Value.string).toArray 9 fr))(hB:B'≤w.heap.size)(hn:acc.length+(catS ss).length≤1099511627776)(hl:ss.length≤1000) :
  Calls Tryz.prog 56 #[.pointer (some ⟨b,0,none⟩),.slice (some ⟨sb,0,none⟩) ss.length cap] w (WrPost B' b (acc++catS ss) w):=by
 have H0:Hid (Bld B' b acc w 116):=Lib.hid hb
 have HS:=Lib.hid hs
 clear hb hs
 go_enter Tryz.func56,Tryz.ntmps56
 go_wp2
 go_loopw [8] (fun q wr=>∃ k:Nat,k≤ss.length∧q=.int .i64 k∧Bld B' b (acc++catS (ss.take k)) wr 116∧Below B' w wr∧Lib.OthersKept 5 (some b) w wr) (fun q _=>ss.length - (intOf q).toNat)
 case atStart=>exact ⟨0,Nat.zero_le _,rfl,by simpa [catS] using H0.out,Below.refl _ _,Lib.OthersKept.refl _ _ _⟩
 case round =>
  obtain ⟨k,hk,rfl,hbd,hbl,hok⟩:=hrel
  have hz:=hbl.size
  by_cases hlt:k<ss.length
  ·have hS2:=H0.out.block hok HS.out (by decide) (by decide)
   have hx:wr.cell? ⟨sb,k,none⟩=some (.string ss[k]):=by
    rw [Lib.cell_of_heap hS2]
    simp [hlt]
   have hts:=catS_take hlt
   have hle:=catS_le ss (k+1)
   rw [hts,List.length_append,size_list] at hle
   have HBD:=Lib.hid hbd
   have HTS:=Lib.hid hts
   generalize ss[k]=S at hx hle HTS
   generalize catS (ss.take k)=c at hle HTS HBD
   have hlen:(acc++c).length+S.size≤140737488355328:=by rw [List.length_append];omega
   have hnc:(⟨b,0,none⟩:Addr).block<wr.heap.size:=HBD.out.lt
   have hkI:(k:Int)<(ss.length:Int):=by omega
   clear hbd hts hS2 hle
   go_wp2_with (go_at_call 78;refine (write_any B' b (acc++c) S _ HBD.out hlen (by omega)).mono ?_;rintro r w2 ⟨rfl,hb2,hl2,ho2⟩)
   exact ⟨⟨k+1,by omega,by go_num,by rw [HTS.out,← List.append_assoc];exact hb2,hbl.trans hl2,hok.trans ho2⟩,by simp [intOf];omega⟩
  ·obtain rfl:k=ss.length:=by omega
   have hkI:decide ((ss.length:Int)<(ss.length:Int))=false:=decide_eq_false (by omega)
   rw [List.take_length] at hbd
   have HBD:=Lib.hid hbd
   clear hbd
   go_wp2
   go_end0
   exact ⟨rfl,HBD.out,hbl,hok⟩
theorem ok_below {r:Option Nat}{w w':World}(hb:Below w.heap.size w w'):Lib.OthersKept 5 r w w':=fun k o hk _ _=>(hb.block k (Array.getElem?_eq_some_iff.1 hk).1).trans hk
structure ShSt (w:World) (B' b:Nat) (acc:List UInt8) (W:World):Prop where
 bld:Bld B' b acc W 116
 bel:Below B' w W
 kept:Lib.OthersKept 5 (some b) w W
theorem Bld.belowT {T:TypeId}{B b:Nat}{acc:List UInt8}{w w':World}(h:Bld B b acc w T)(hb:Below w.heap.size w w'):Bld B b acc w' T:=by
 have key:∀ p,Lib.BuilderAtF T 5 B b p (Lib.byteCells acc) w→Lib.BuilderAtF T 5 B b p (Lib.byteCells acc) w':=by
  rintro p ⟨h1,v,h2,⟨h3,h4⟩,h5⟩
  refine ⟨h1,v,(hb.block b h.lt).trans h2,⟨h3,?_⟩,h5⟩
  rcases h4 with h4|⟨g,cap,cur,fz,q1,q2,q3,q4⟩
  ·exact Or.inl h4
  ·exact Or.inr ⟨g,cap,cur,fz,q1,q2,(hb.block g (Array.getElem?_eq_some_iff.1 q3).1).trans q3,q4⟩
 rcases h with h|h
 ·exact Or.inl (key _ h)
 ·exact Or.inr (key _ h)
theorem ShSt.start {w:World}{B' b:Nat}{acc:List UInt8}(h:Bld B' b acc w 116):ShSt w B' b acc w:=⟨h,Below.refl _ _,Lib.OthersKept.refl _ _ _⟩
theorem ShSt.below {w W W':World}{B' b:Nat}{acc:List UInt8}(h:ShSt w B' b acc W)(hb:Below W.heap.size W W')(hB:B'≤w.heap.size):ShSt w B' b acc W' :=
 ⟨h.bld.belowT hb,h.bel.trans (hb.mono (Nat.le_trans hB h.bel.size)),h.kept.trans (ok_below hb)⟩
theorem ShSt.write {w W W':World}{B' b:Nat}{acc acc':List UInt8}{r:Ending}(h:ShSt w B' b acc W)(hw:WrPost B' b acc' W r W'):ShSt w B' b acc' W':=⟨hw.2.1,h.bel.trans hw.2.2.1,h.kept.trans hw.2.2.2⟩
theorem ShSt.box {w W:World}{B' b k:Nat}{acc acc0:List UInt8}(h:ShSt w B' b acc W)(h0:Bld B' b acc0 w 116){cs:Array Value}{T:TypeId}{fr:Nat × Nat}(hk:w.heap[k]?=some (.cells cs T fr))(hT:T≠116)(he:T≠5):W.heap[k]?=some (.cells cs T fr):=h0.block h.kept hk hT he
theorem WrPost.from {w w1 W:World}{B' b:Nat}{acc:List UInt8}(hb:Below w.heap.size w w1)(hB:B'≤w.heap.size)(h:ShSt w1 B' b acc W):WrPost B' b acc w (.returned (.tuple #[])) W :=
 ⟨rfl,h.bld,(hb.mono hB).trans h.bel,(ok_below hb).trans h.kept⟩
theorem WrPost.eq {B' b:Nat}{acc:List UInt8}{w W:World}{r:Ending}(h:WrPost B' b acc w r W):r=.returned (.tuple #[]):=h.1
theorem word1_any (S:ByteArray)(B' b:Nat)(acc:List UInt8)(w:World)(hb:Bld B' b acc w 116)(hB:B'≤w.heap.size)(hn:acc.length+S.size≤1099511627776) :
  Calls Tryz.prog 56 #[.pointer (some ⟨b,0,none⟩),.slice (some ⟨w.heap.size,0,none⟩) 1 1] (w.alloc (.cells #[.string S] 9)) (WrPost B' b (acc++S.data.toList) w):=by
 have hal:=below_new w (.cells #[.string S] 9)
 have h:=words_any [S] B' b w.heap.size 1 (0,0) acc (w.alloc (.cells #[.string S] 9)) (hb.alloc _) (heap_alloc_new w _) (by simp;omega) (by simp [catS,size_list];omega) (by simp)
 rw [show catS [S]=S.data.toList by simp [catS]] at h
 exact h.mono fun r w' q=>⟨q.1,q.2.1,(hal.mono hB).trans q.2.2.1,(ok_below hal).trans q.2.2.2⟩
theorem word2_any (S T:ByteArray)(B' b:Nat)(acc:List UInt8)(w:World)(hb:Bld B' b acc w 116)(hB:B'≤w.heap.size)(hn:acc.length+S.size+T.size≤1099511627776) :
  Calls Tryz.prog 56 #[.pointer (some ⟨b,0,none⟩),.slice (some ⟨w.heap.size,0,none⟩) 2 2] (w.alloc (.cells #[.string S,.string T] 9)) (WrPost B' b (acc++(S.data.toList++T.data.toList)) w):=by
 have hal:=below_new w (.cells #[.string S,.string T] 9)
 have h:=words_any [S,T] B' b w.heap.size 2 (0,0) acc (w.alloc (.cells #[.string S,.string T] 9)) (hb.alloc _) (heap_alloc_new w _) (by simp;omega) (by simp [catS,size_list];omega) (by simp)
 rw [show catS [S,T]=S.data.toList++T.data.toList by simp [catS]] at h
 exact h.mono fun r w' q=>⟨q.1,q.2.1,(hal.mono hB).trans q.2.2.1,(ok_below hal).trans q.2.2.2⟩
theorem word3_any (S T U:ByteArray)(B' b:Nat)(acc:List UInt8)(w:World)(hb:Bld B' b acc w 116)(hB:B'≤w.heap.size)(hn:acc.length+S.size+T.size+U.size≤1099511627776) :
  Calls Tryz.prog 56 #[.pointer (some ⟨b,0,none⟩),.slice (some ⟨w.heap.size,0,none⟩) 3 3] (w.alloc (.cells #[.string S,.string T,.string U] 9)) (WrPost B' b (acc++(S.data.toList++(T.data.toList++U.data.toList))) w):=by
 have hal:=below_new w (.cells #[.string S,.string T,.string U] 9)
 have h:=words_any [S,T,U] B' b w.heap.size 3 (0,0) acc (w.alloc (.cells #[.string S,.string T,.string U] 9)) (hb.alloc _) (heap_alloc_new w _) (by simp;omega) (by simp [catS,size_list];omega) (by simp)
 rw [show catS [S,T,U]=S.data.toList++(T.data.toList++U.data.toList) by simp [catS]] at h
 exact h.mono fun r w' q=>⟨q.1,q.2.1,(hal.mono hB).trans q.2.2.1,(ok_below hal).trans q.2.2.2⟩
def ShDoes (e:PZ):Prop:=∀ (B B' b:Nat) (am:Option Addr) (wn cm:Nat) (ae:Option Addr) (ce:Nat) (acc:List UInt8) (w:World),ZAt YA (fun k=>k<B) w (.slice am wn cm) (.slice ae e.kids.length ce) e→B≤B'→Bld B' b acc w 116→B'≤w.heap.size→acc.length+e.text.length≤1099511627776 →
  Calls Tryz.prog 88 #[.pointer (some ⟨b,0,none⟩),.agg #[.int .i64 e.op,.string ⟨e.name.toArray⟩,.string ⟨e.module.toArray⟩,.bool (decide (e.num<0)),.slice am wn cm,.bool e.yes,.slice ae e.kids.length ce,.int .i64 e.at_]] w (WrPost B' b (acc++e.text) w)
def KdDoes (e:PZ):Prop:=∀ (least:Int) (B B' b:Nat) (am:Option Addr) (wn cm:Nat) (ae:Option Addr) (ce:Nat) (acc:List UInt8) (w:World),ZAt YA (fun k=>k<B) w (.slice am wn cm) (.slice ae e.kids.length ce) e→B≤B'→Bld B' b acc w 116→B'≤w.heap.size→acc.length+(parZ least (e.op,e.text)).length≤1099511627776 →
  Calls Tryz.prog 138 #[.pointer (some ⟨b,0,none⟩),.agg #[.int .i64 e.op,.string ⟨e.name.toArray⟩,.string ⟨e.module.toArray⟩,.bool (decide (e.num<0)),.slice am wn cm,.bool e.yes,.slice ae e.kids.length ce,.int .i64 e.at_],.int .i64 least] w (WrPost B' b (acc++parZ least (e.op,e.text)) w)
theorem kid_any (e:PZ)(he:ShDoes e):KdDoes e:=by
 intro least B B' b am wn cm ae ce acc w h hBB hbd hB hn
 have hal:=below_new w (.cells (boxZ e.op ⟨e.name.toArray⟩ ⟨e.module.toArray⟩ (decide (e.num<0)) (.slice am wn cm) e.yes (.slice ae e.kids.length ce) e.at_) 40)
 have hN:=heap_alloc_new w (.cells (boxZ e.op ⟨e.name.toArray⟩ ⟨e.module.toArray⟩ (decide (e.num<0)) (.slice am wn cm) e.yes (.slice ae e.kids.length ce) e.at_) 40)
 have hb1:=hbd.belowT hal
 have hlv:=fun W=>level_any e.op ⟨e.name.toArray⟩ ⟨e.module.toArray⟩ (decide (e.num<0)) am wn cm e.yes ae e.kids.length ce e.at_ W
 have HLV:=Lib.hid hlv
 have HE:=Lib.hid (fun (acc':List UInt8) (W:World) (hW:Below B' w W) (hb:Bld B' b acc' W 116) (hn':acc'.length+e.text.length≤1099511627776)=>he B B' b am wn cm ae ce acc' W (h.frame (Alk.ofB hW (fun k hk=>by omega))) hBB hb (Nat.le_trans hB hW.size) hn')
 have hp:parZ least (e.op,e.text)=if lvZ e.op<least then [40]++e.text++[41] else e.text:=rfl
 have HP:=Lib.hid hp
 clear h he hbd hlv hp
 generalize parZ least (e.op,e.text)=out at *
 generalize e.text=tx at *
 generalize decide (e.num<0)=ng at *
 generalize e.op=op at *
 generalize lvZ op=lv at *
 have hwB:=hal.mono hB
 by_cases hl:lv<least
 ·have HO:Hid (out=[40]++tx++[41]):=Lib.hid (by rw [HP.out,if_pos hl])
  have hln:acc.length+1+tx.length+1≤1099511627776:=by
   have:=congrArg List.length HO.out
   simp only [List.length_append,List.length_cons,List.length_nil] at this
   omega
  clear HP hn
  go_enter Tryz.func138,Tryz.ntmps138
  go_upto_region 1 with fail
  change Code.wp _ _ _ _ (w.alloc (.cells (boxZ op ⟨e.name.toArray⟩ ⟨e.module.toArray⟩ ng (.slice am wn cm) e.yes (.slice ae e.kids.length ce) e.at_) 40))
  generalize w.alloc _=w1 at hal hN hb1 hwB ⊢
  have hB1:=Nat.le_trans hB hal.size
  obtain ⟨y0,y1,y2,y3,y4,y5,y6,y7⟩:=boxZ_cells hN
  have hl1:=(Array.getElem?_eq_some_iff.1 hN).1
  go_upto_region 3 with (go_at_call 172;refine (HLV.out _).mono ?_;rintro r w2 ⟨rfl,hb2⟩)
  have s2:=(ShSt.start hb1).below hb2 hB1
  have hz2:=s2.bel.size
  clear y0 y1 y2 y3 y4 y5 y6 y7
  go_upto_region 4 with (go_at_call 56;refine (word1_any ⟨#[40]⟩ B' b acc w2 s2.bld (by omega) (by show acc.length+1≤_;omega)).mono ?_;rintro r w3 h3;obtain rfl:=h3.eq)
  have s3:=s2.write h3
  have hz3:=s3.bel.size
  obtain ⟨y0,y1,y2,y3,y4,y5,y6,y7⟩:=boxZ_cells (s3.box hb1 hN (by decide) (by decide))
  have HE3:=Lib.hid (HE.out (acc++[40]) w3 (hwB.trans s3.bel) s3.bld (by rw [List.length_append];simp;omega))
  go_upto_region 5 with (go_at_call 88;refine HE3.out.mono ?_;rintro r w4 h4;obtain rfl:=h4.eq)
  have s4:=s3.write h4
  have hz4:=s4.bel.size
  clear y0 y1 y2 y3 y4 y5 y6 y7
  go_wp2_with (go_at_call 56;refine (word1_any ⟨#[41]⟩ B' b (acc++[40]++tx) w4 s4.bld (by omega) (by show (acc++[40]++tx).length+1≤_;simp;omega)).mono ?_;rintro r w5 h5;obtain rfl:=h5.eq)
  go_end0
  have:=WrPost.from hal hB (s4.write h5)
  rw [HO.out]
  simpa [List.append_assoc] using this
 ·have HO:Hid (out=tx):=Lib.hid (by rw [HP.out,if_neg hl])
  have hln:acc.length+tx.length≤1099511627776:=by rw [← HO.out];exact hn
  have hl':least≤lv:=by omega
  clear HP hn hl
  go_enter Tryz.func138,Tryz.ntmps138
  go_upto_region 1 with fail
  change Code.wp _ _ _ _ (w.alloc (.cells (boxZ op ⟨e.name.toArray⟩ ⟨e.module.toArray⟩ ng (.slice am wn cm) e.yes (.slice ae e.kids.length ce) e.at_) 40))
  generalize w.alloc _=w1 at hal hN hb1 hwB ⊢
  have hB1:=Nat.le_trans hB hal.size
  obtain ⟨y0,y1,y2,y3,y4,y5,y6,y7⟩:=boxZ_cells hN
  go_upto_region 2 with (go_at_call 172;refine (HLV.out _).mono ?_;rintro r w2 ⟨rfl,hb2⟩)
  have s2:=(ShSt.start hb1).below hb2 hB1
  clear y0 y1 y2 y3 y4 y5 y6 y7
  obtain ⟨y0,y1,y2,y3,y4,y5,y6,y7⟩:=boxZ_cells (s2.box hb1 hN (by decide) (by decide))
  have HE3:=Lib.hid (HE.out acc w2 (hwB.trans s2.bel) s2.bld hln)
  go_wp2_with (go_at_call 88;refine HE3.out.mono ?_;rintro r w4 h4;obtain rfl:=h4.eq)
  go_end0
  rw [HO.out]
  exact WrPost.from hal hB (s2.write h4)
end Go.Proofs.YtdednahplodojaaGreatDoor
