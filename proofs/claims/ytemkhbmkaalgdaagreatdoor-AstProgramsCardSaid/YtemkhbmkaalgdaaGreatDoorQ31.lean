/- Walks and plain laws: EdumpW, AstPlain, DoneW. -/
import Derived.Test.YtemkhbmkaalgdaaGreatDoorQ30
import Derived.Deep.CutBlock
set_option maxHeartbeats 16000000
set_option maxRecDepth 100000
namespace Go.Proofs.YtemkhbmkaalgdaaGreatDoor
open Go.RowKit Go
def boxA (op:Nat)(NM MD:ByteArray)(ng:Bool)(mv:Value)(ys:Bool)(kv:Value)(a_:Nat):Array Value:=#[.int .i64 op,.string NM,.string MD,.bool ng,mv,.bool ys,kv,.int .i64 a_]
theorem boxA_cells {w:World}{b op:Nat}{NM MD:ByteArray}{ng ys:Bool}{mv kv:Value}{a_:Nat}(h:w.heap[b]?=some (.cells (boxA op NM MD ng mv ys kv a_) 40 (0,0))) :
  w.cell? ⟨b,0,none⟩=some (.int .i64 op)∧w.cell? ⟨b,1,none⟩=some (.string NM)∧w.cell? ⟨b,2,none⟩=some (.string MD)∧w.cell? ⟨b,3,none⟩=some (.bool ng)∧w.cell? ⟨b,4,none⟩=some mv∧w.cell? ⟨b,5,none⟩=some (.bool ys)∧w.cell? ⟨b,6,none⟩=some kv∧w.cell? ⟨b,7,none⟩=some (.int .i64 a_):=by
 refine ⟨?_,?_,?_,?_,?_,?_,?_,?_⟩ <;> (rw [Lib.cell_of_heap h];rfl)
theorem fitsE_mem {M:Nat}:∀ {l:List PE} {e:PE},fitsE M l→e∈l→e.fits M
 | x :: l,e,h,hm=>by
  rw [fitsE] at h
  rcases List.mem_cons.1 hm with rfl|hm
  ·exact h.1
  ·exact fitsE_mem h.2 hm
theorem PE.fits_def {M:Nat}{e:PE}(h:e.fits M):e.op<100∧e.num.natAbs<10 ^ 60∧fitsE M e.kids:=by
 cases e
 rw [PE.fits] at h
 exact ⟨h.1,h.2.2.2.2.2.1,h.2.2.2.2.2.2⟩
def EdSt (w:World)(B' b:Nat)(bx:Array Value)(acc:List UInt8)(W:World):Prop :=
 Bld B' b acc W∧W.heap[w.heap.size]?=some (.cells bx 40 (0,0))∧Below B' w W∧Lib.OthersKept 5 (some b) w W
theorem EdSt.write {w W W':World}{B' b:Nat}{bx:Array Value}{acc acc':List UInt8}(h:EdSt w B' b bx acc W)(h1:Bld B' b acc' W')(h2:Below B' W W')(h3:Lib.OthersKept 5 (some b) W W'):EdSt w B' b bx acc' W' :=
 ⟨h1,h.1.block h3 h.2.1 (by decide) (by decide),h.2.2.1.trans h2,h.2.2.2.trans h3⟩
theorem Bld.belowAll {B b:Nat}{acc:List UInt8}{w w':World}(h:Bld B b acc w)(hb:Below w.heap.size w w'):Bld B b acc w':=by
 have key:∀ p,Lib.BuilderAtF 102 5 B b p (Lib.byteCells acc) w→Lib.BuilderAtF 102 5 B b p (Lib.byteCells acc) w':=by
  rintro p ⟨h1,v,h2,⟨h3,h4⟩,h5⟩
  refine ⟨h1,v,(hb.block b h.lt).trans h2,⟨h3,?_⟩,h5⟩
  rcases h4 with h4|⟨g,cap,cur,fz,q1,q2,q3,q4⟩
  ·exact Or.inl h4
  ·exact Or.inr ⟨g,cap,cur,fz,q1,q2,(hb.block g (Array.getElem?_eq_some_iff.1 q3).1).trans q3,q4⟩
 rcases h with h|h
 ·exact Or.inl (key _ h)
 ·exact Or.inr (key _ h)
theorem EdSt.below {w W W':World}{B' b:Nat}{bx:Array Value}{acc:List UInt8}(h:EdSt w B' b bx acc W)(hb:Below W.heap.size W W'):EdSt w B' b bx acc W' :=
 ⟨h.1.belowAll hb,(hb.block _ (Array.getElem?_eq_some_iff.1 h.2.1).1).trans h.2.1,h.2.2.1.trans (hb.mono (Nat.le_trans (Nat.le_trans h.1.le (Nat.le_of_lt h.1.lt)) (Nat.le_refl _))),fun k o hk hkb he=>by
  have h1:=h.2.2.2 k o hk hkb he
  exact (hb.block k (Array.getElem?_eq_some_iff.1 h1).1).trans h1⟩
theorem EdSt.alloc {w W:World}{B' b:Nat}{bx:Array Value}{acc:List UInt8}(h:EdSt w B' b bx acc W)(o:Obj):EdSt w B' b bx acc (W.alloc o):=h.below (below_new W o)
def EdDoes (e:PE):Prop:=∀ (B B' b:Nat) (am:Option Addr) (wn cm:Nat) (ae:Option Addr) (ce:Nat) (acc:List UInt8) (w:World),EAt XA (fun b=>b<B) w (.slice am wn cm) (.slice ae e.kids.length ce) e→B≤B'→Bld B' b acc w→B'≤w.heap.size→acc.length+e.dump.length≤1099511627776→e.size≤1099511627776 →
  Calls Tryz.prog 45 #[.agg #[.int .i64 e.op,.string ⟨e.name.toArray⟩,.string ⟨e.module.toArray⟩,.bool (decide (e.num<0)),.slice am wn cm,.bool e.yes,.slice ae e.kids.length ce,.int .i64 e.at_],.pointer (some ⟨b,0,none⟩)] w (DmpPost B' b (acc++e.dump) w)
def EdAll (ks:List PE):Prop:=∀ x∈ks,EdDoes x
theorem yesF_two (b:Bool):yesF 2 b=[32]++Lib.formatBool b:=by cases b <;> rfl
theorem edump_step (e:PE)(hop:e.op<100)(hnm:e.num.natAbs<10 ^ 60)(IH:EdAll e.kids):EdDoes e:=by
 intro B B' b am wn cm ae ce acc w h hBB hbd hB hdl hz
 have hdef:=e.size_def
 have hdd:=e.dump_def
 obtain ⟨hnum,ae',ce',hv,hcap,hf⟩:=h.form
 simp only [Value.slice.injEq] at hv
 obtain ⟨rfl,-,rfl⟩:=hv
 have hfew:=sizeE_few e.kids
 have hkl:e.kids.length≤1099511627776:=by omega
 have hzk:sizeE e.kids+1≤1099511627776:=by omega
 have HIT:=Lib.hid (fun W=>itoa_any e.op hop W)
 have HST:=Lib.hid (fun W (hW:Below B' w W)=>zstr_any (fun b=>b<B) am wn cm e.num W (XA.frame hnum (Alk.ofB hW (fun b hb=>by omega))) hnm)
 rw [head_parts] at hdd
 have HF:=Lib.hid hf
 clear hnum hdef hz hop hnm h hf
 generalize decF e.op=dg at HIT hdd
 generalize intF e.num=tx at HST hdd
 generalize decide (e.num<0)=ng at *
 generalize e.op=op at *
 generalize e.name=nm at *
 generalize e.module=md at *
 generalize e.yes=ys at *
 generalize e.at_=a_ at *
 generalize e.dump=out at *
 generalize hkk:e.kids=ks at *
 obtain ⟨NM,rfl,eN⟩:=bytes_of nm
 obtain ⟨MD,rfl,eM⟩:=bytes_of md
 obtain ⟨TX,rfl,eT⟩:=bytes_of tx
 obtain ⟨DG,rfl,eD⟩:=bytes_of dg
 have HIT:Hid (∀ W,Calls Tryz.prog 63 #[.int .i64 op] W fun r w'=>r=.returned (.string DG)∧w'=W):=Lib.hid fun W=>(HIT.out W).mono fun r w' h=>⟨by rw [h.1,eD],h.2⟩
 have HST:Hid (∀ W,Below B' w W→Calls Tryz.prog 69 #[.agg #[.bool ng,.slice am wn cm]] W fun r w'=>r=.returned (.string TX)∧Below W.heap.size W w'):=Lib.hid fun W hW=>(HST.out W hW).mono fun r w' h=>⟨by rw [h.1,eT],h.2⟩
 rw [eN,eM]
 have hln:=congrArg List.length hdd
 simp only [List.length_append,size_list,List.length_cons,List.length_nil] at hln
 have HDD:=Lib.hid hdd
 have hbd0:acc.length+DG.size+(nameF NM.data.toList MD.data.toList).length+(numTF op TX.data.toList).length+(yesF op ys).length+(dumpE ks).length+2≤1099511627776:=by omega
 have H0:Hid (EdSt w B' b (boxA op NM MD ng (.slice am wn cm) ys (.slice ae ks.length ce) a_) acc (w.alloc (.cells (boxA op NM MD ng (.slice am wn cm) ys (.slice ae ks.length ce) a_) 40))):=Lib.hid ⟨hbd.alloc _,heap_alloc_new w _,(Below.refl _ w).alloc hB _,(Lib.OthersKept.refl 5 (some b) w).alloc _⟩
 clear hdd hln hdl eN eM eT eD hbd
 have hS0:((ByteArray.mk #[91])++DG).data.toList=[91]++DG.data.toList:=by simp
 have HS0:=Lib.hid hS0
 have hS0z:((ByteArray.mk #[91])++DG).size=1+DG.size:=by rw [← size_list,hS0];simp;omega
 have HS0z:=Lib.hid hS0z
 clear hS0 hS0z
 have e0:=(boxA_cells H0.out.2.1).1
 go_enter Tryz.func45,Tryz.ntmps45
 go_upto_block 0 with (first|(go_at_call 63;refine (HIT.out _).mono ?_;rintro e w3 ⟨rfl,rfl⟩)|(go_at_call 40;refine (write_any B' b acc (ByteArray.mk #[91]++DG) _ H0.out.1 (by rw [HS0z.out];omega) (by simp;omega)).mono ?_;rintro e w4 ⟨rfl,hb4,hl4,ho4⟩))
 have hst:=H0.out.write hb4 hl4 ho4
 rw [HS0.out] at hst
 generalize hA1:acc++([91]++DG.data.toList)=A1 at hst
 have HA1:=Lib.hid hA1
 have hl1:A1.length=acc.length+DG.size+1:=by rw [← hA1];simp only [List.length_append,size_list,List.length_cons,List.length_nil];omega
 have hbd1:A1.length+(nameF NM.data.toList MD.data.toList).length+(numTF op TX.data.toList).length+(yesF op ys).length+(dumpE ks).length+1≤1099511627776:=by omega
 clear hb4 hl4 ho4 H0 HS0 HS0z HIT e0 hA1 hl1 hbd0
 go_cut [12] (fun s wc=>EdSt w B' b (boxA op NM MD ng (.slice am wn cm) ys (.slice ae ks.length ce) a_) (A1++nameF NM.data.toList MD.data.toList) wc)
 case first =>
  have hz4:=hst.2.2.1.size
  obtain ⟨y0,y1,y2,-⟩:=boxA_cells hst.2.1
  have HS4:=Lib.hid hst
  clear hst
  go_upto_if 12 with fail
  generalize ht:(!MD.toList.isEmpty)=t
  cases t with
  | false =>
   have hm:MD.data.toList=[]:=Classical.byContradiction fun q=>by rw [empty_no q] at ht;cases ht
   clear ht
   by_cases hn:NM.data.toList=[]
   ·have hne:=empty_yes hn
    have HN:=Lib.hid (nameF_no hm hn)
    clear hm hn
    go_wp2
    go_meet
    rw [HN.out,List.append_nil]
    exact HS4.out
   ·have hne:=empty_no hn
    have HN:=Lib.hid (nameF_nm hm hn)
    clear hm hn
    rw [HN.out] at hbd1
    simp only [List.length_append,size_list,List.length_cons,List.length_nil] at hbd1
    have HW:Hid (((ByteArray.mk #[32])++NM).data.toList=[32]++NM.data.toList):=Lib.hid (by simp)
    go_wp2_with (go_at_call 40;refine (write_any B' b A1 (ByteArray.mk #[32]++NM) _ HS4.out.1 (by rw [← size_list,HW.out];simp;omega) (by omega)).mono ?_;rintro e w5 ⟨rfl,hb5,hl5,ho5⟩)
    go_meet
    rw [HN.out,← HW.out]
    exact HS4.out.write hb5 hl5 ho5
  | true =>
   have hm:MD.data.toList≠[]:=fun q=>by rw [empty_yes q] at ht;cases ht
   have HN:=Lib.hid (nameF_md (nm:=NM.data.toList) hm)
   rw [HN.out] at hbd1
   simp only [List.length_append,size_list,List.length_cons,List.length_nil] at hbd1
   clear hm ht
   have HW:Hid (((ByteArray.mk #[32])++MD++(ByteArray.mk #[46])++NM).data.toList=[32]++MD.data.toList++[46]++NM.data.toList):=Lib.hid (by simp)
   go_wp2_with (go_at_call 40;refine (write_any B' b A1 (ByteArray.mk #[32]++MD++ByteArray.mk #[46]++NM) _ HS4.out.1 (by rw [← size_list,HW.out];simp;omega) (by omega)).mono ?_;rintro e w5 ⟨rfl,hb5,hl5,ho5⟩)
   go_meet
   rw [HN.out,← HW.out]
   exact HS4.out.write hb5 hl5 ho5
 case rest =>
  obtain ⟨wo,rfl⟩:∃ wo:World,wo=wc:=⟨_,rfl⟩
  clear hst
  generalize hA2:A1++nameF NM.data.toList MD.data.toList=A2 at hcut
  have HA2:=Lib.hid hA2
  have hl2:A2.length=A1.length+(nameF NM.data.toList MD.data.toList).length:=by rw [← hA2,List.length_append]
  have hbd2:A2.length+(numTF op TX.data.toList).length+(yesF op ys).length+(dumpE ks).length+1≤1099511627776:=by omega
  clear hA2 hl2 hbd1
  have z0:=(boxA_cells hcut.2.1).1
  go_upto_block 1 with fail
  go_cut [36] (fun s wc=>EdSt w B' b (boxA op NM MD ng (.slice am wn cm) ys (.slice ae ks.length ce) a_) (A2++(numTF op TX.data.toList++yesF op ys)) wc)
  case first =>
   have hz4:=hcut.2.2.1.size
   obtain ⟨y0,y1,y2,y3,y4,y5,-,-⟩:=boxA_cells hcut.2.1
   have HS4:=Lib.hid hcut
   clear hcut
   by_cases h1:op=1
   ·subst h1
    have HN:Hid (numTF 1 TX.data.toList++yesF 1 ys=[32]++TX.data.toList):=Lib.hid (by simp [numTF,yesF])
    have hbd3:A2.length+1+TX.size+1≤1099511627776:=by
     have:=congrArg List.length HN.out
     simp only [List.length_append,size_list,List.length_cons,List.length_nil] at this
     omega
    have HW:Hid (((ByteArray.mk #[32])++TX).data.toList=[32]++TX.data.toList):=Lib.hid (by simp)
    have HZ:=HST.out wo HS4.out.2.2.1
    have HSZ:=Lib.hid HZ
    clear HZ
    go_wp2_with (first|(go_at_call 69;refine HSZ.out.mono ?_;rintro e w5 ⟨rfl,hb5⟩;have HS5:=HS4.out.below hb5;have hz5:=hb5.size)|(go_at_call 40;refine (write_any B' b A2 (ByteArray.mk #[32]++TX) _ HS5.1 (by rw [← size_list,HW.out];simp;omega) (by omega)).mono ?_;rintro e w6 ⟨rfl,hb6,hl6,ho6⟩))
    go_meet
    rw [HN.out,← HW.out]
    exact HS5.write hb6 hl6 ho6
   ·have h1I:((op:Int) == 1)=false:=beq_eq_false_iff_ne.2 (by omega)
    by_cases h2:op=2
    ·subst h2
     have HN:Hid (numTF 2 TX.data.toList++yesF 2 ys=[32]++Lib.formatBool ys):=Lib.hid (by rw [yesF_two];simp [numTF])
     obtain ⟨FB,hFB,eFB⟩:=bytes_of (Lib.formatBool ys)
     have HFB:=Lib.hid (fun W=>Tryz.strconv_FormatBool ys W)
     rw [eFB] at HFB
     have hfl:FB.size≤5:=by rw [← size_list,hFB];cases ys <;> decide
     rw [← hFB] at HN
     have hbd3:A2.length+1+FB.size+1≤1099511627776:=by
      have:=congrArg List.length HN.out
      simp only [List.length_append,size_list,List.length_cons,List.length_nil] at this
      omega
     have HW:Hid (((ByteArray.mk #[32])++FB).data.toList=[32]++FB.data.toList):=Lib.hid (by simp)
     clear hFB eFB h1
     go_wp2_with (first|(go_at_call 70;refine (HFB.out _).mono ?_;rintro e w5 ⟨rfl,rfl⟩)|(go_at_call 40;refine (write_any B' b A2 (ByteArray.mk #[32]++FB) _ HS4.out.1 (by rw [← size_list,HW.out];simp;omega) (by omega)).mono ?_;rintro e w6 ⟨rfl,hb6,hl6,ho6⟩))
     go_meet
     rw [HN.out,← HW.out]
     exact HS4.out.write hb6 hl6 ho6
    ·have h2I:((op:Int) == 2)=false:=beq_eq_false_iff_ne.2 (by omega)
     have HN:Hid (numTF op TX.data.toList++yesF op ys=[]):=Lib.hid (by simp [numTF,yesF,h1,h2])
     clear h1 h2
     go_wp2
     go_meet
     rw [HN.out,List.append_nil]
     exact HS4.out
  case rest =>
   obtain ⟨wo,rfl⟩:∃ wo:World,wo=wc:=⟨_,rfl⟩
   generalize hA3:A2++(numTF op TX.data.toList++yesF op ys)=A3 at hcut
   have hl3:A3.length=A2.length+(numTF op TX.data.toList).length+(yesF op ys).length:=by rw [← hA3,List.length_append,List.length_append];omega
   have hbd3:A3.length+(dumpE ks).length+1≤1099511627776:=by omega
   have HAA:Hid (acc++out=A3++dumpE ks++[93]):=Lib.hid (by rw [HDD.out,← hA3,← HA2.out,← HA1.out];simp)
   have z6:=(boxA_cells hcut.2.1).2.2.2.2.2.2.1
   have HC:=Lib.hid hcut
   clear hA3 hl3 hbd2 HST HDD HA1 HA2 hcut z0
   go_upto_block 2 with fail
   go_wp2_with fail
   go_loopw [55] (fun q wr=>∃ k:Nat,k≤ks.length∧q=.int .i64 k∧EdSt w B' b (boxA op NM MD ng (.slice am wn cm) ys (.slice ae ks.length ce) a_) (A3++dumpE (ks.take k)) wr) (fun q _=>ks.length - (intOf q).toNat)
   case atStart=>exact ⟨0,Nat.zero_le _,rfl,by simpa [dumpE] using HC.out⟩
   case round =>
    obtain ⟨k,hk,rfl,hst⟩:=hrel
    have hbl:=hst.2.2.1
    have hz:=hbl.size
    have hspl:=congrArg List.length (dumpE_append (ks.take k) (ks.drop k))
    rw [List.take_append_drop,List.length_append] at hspl
    by_cases hlt:k<ks.length
    ·obtain ⟨b2,off,rfl,hbB,hbw,hkid⟩:=HF.out (by omega)
     obtain ⟨m,kv,hE,hc⟩:=hkid k hlt
     have hmem:ks[k]∈ks:=List.getElem_mem hlt
     have hle:=sizeE_mem ks _ hmem
     obtain ⟨am1,wn1,cm1,ae1,ce1,rfl,rfl⟩:=hE.slX
     have IHx:=IH _ hmem B B' b am1 wn1 cm1 ae1 ce1
     have hstep:dumpE (ks.take (k+1))=dumpE (ks.take k)++([32]++ks[k].dump):=by rw [take_succ_at hlt,dumpE_append];simp [dumpE]
     have hlen:(dumpE (ks.take k)).length+1+ks[k].dump.length≤(dumpE ks).length:=by
      rw [hspl,List.drop_eq_getElem_cons hlt,dumpE]
      simp
      omega
     have hxs:ks[k].size≤1099511627776:=by omega
     generalize ks[k]=x at hE hc hle IHx hstep hlen hxs
     have y0:=(hbl.cell (p:=⟨b2,off+k * 8,none⟩) (by show b2<B';omega)).trans (hc 0 _ rfl)
     have y1:=(hbl.cell (p:=⟨b2,off+k * 8+1,none⟩) (by show b2<B';omega)).trans (hc 1 _ rfl)
     have y2:=(hbl.cell (p:=⟨b2,off+k * 8+2,none⟩) (by show b2<B';omega)).trans (hc 2 _ rfl)
     have y3:=(hbl.cell (p:=⟨b2,off+k * 8+3,none⟩) (by show b2<B';omega)).trans (hc 3 _ rfl)
     have y4:=(hbl.cell (p:=⟨b2,off+k * 8+4,none⟩) (by show b2<B';omega)).trans (hc 4 _ rfl)
     have y5:=(hbl.cell (p:=⟨b2,off+k * 8+5,none⟩) (by show b2<B';omega)).trans (hc 5 _ rfl)
     have y6:=(hbl.cell (p:=⟨b2,off+k * 8+6,none⟩) (by show b2<B';omega)).trans (hc 6 _ rfl)
     have y7:=(hbl.cell (p:=⟨b2,off+k * 8+7,none⟩) (by show b2<B';omega)).trans (hc 7 _ rfl)
     simp only [strV] at y1 y2
     have hAl:(A3++dumpE (ks.take k)).length=A3.length+(dumpE (ks.take k)).length:=List.length_append
     have HS2:=Lib.hid hstep
     generalize dumpE (ks.take k)=D at hst hspl hlen hAl HS2
     have HE1:=Lib.hid (hst.alloc (.cells (boxA x.op ⟨x.name.toArray⟩ ⟨x.module.toArray⟩ (decide (x.num<0)) (.slice am1 wn1 cm1) x.yes (.slice ae1 x.kids.length ce1) x.at_) 40))
     have HN1:=Lib.hid (heap_alloc_new wr (.cells (boxA x.op ⟨x.name.toArray⟩ ⟨x.module.toArray⟩ (decide (x.num<0)) (.slice am1 wn1 cm1) x.yes (.slice ae1 x.kids.length ce1) x.at_) 40))
     have hEf:=fun (W:World) (hW:Below B' w W)=>EAt.frame (Alk.ofB hW (fun b hb=>by omega)) hE
     have HEF:=Lib.hid hEf
     have hAD:(A3++D).length+1+x.dump.length≤1099511627776:=by omega
     have hkI:(k:Int)<(ks.length:Int):=by omega
     clear hkid hc hE hstep hspl hlen hAl hst hEf hmem
     go_upto_region 15 with (go_at_call 40;refine (write_any B' b (A3++D) ⟨#[32]⟩ _ HE1.out.1 (by show (A3++D).length+1≤140737488355328;omega) (by simp;omega)).mono ?_;rintro e w5 ⟨rfl,hb5,hl5,ho5⟩)
     have hst5:=HE1.out.write hb5 hl5 ho5
     obtain ⟨r0,r1,r2,r3,r4,r5,r6,r7⟩:=boxA_cells (HE1.out.1.block ho5 HN1.out (by decide) (by decide))
     have hz5:=hst5.2.2.1.size
     have HI:=Lib.hid (IHx _ w5 (HEF.out w5 hst5.2.2.1) hBB hst5.1 (by omega) (by rw [List.length_append];exact hAD) hxs)
     have HS5:=Lib.hid hst5
     clear hst5 hb5 hl5 ho5 HE1 HN1 HEF y0 y1 y2 y3 y4 y5 y6 y7 hbl IHx
     go_wp2_with (go_at_call 45;refine HI.out.mono ?_;rintro e w6 ⟨rfl,hb6,hl6,ho6⟩)
     refine ⟨⟨k+1,by omega,by go_num,?_⟩,by simp [intOf];omega⟩
     rw [HS2.out,← List.append_assoc,← List.append_assoc]
     exact HS5.out.write hb6 hl6 ho6
    ·obtain rfl:k=ks.length:=by omega
     have hkI:decide ((ks.length:Int)<(ks.length:Int))=false:=decide_eq_false (by omega)
     rw [List.take_length] at hst
     have HSS:=Lib.hid hst
     have hal:(A3++dumpE ks).length+1≤140737488355328:=by rw [List.length_append];omega
     clear hst hspl hbl
     go_wp2_with (go_at_call 40;refine (write_any B' b (A3++dumpE ks) ⟨#[93]⟩ _ HSS.out.1 hal (by omega)).mono ?_;rintro e w5 ⟨rfl,hb5,hl5,ho5⟩)
     go_end0
     refine ⟨rfl,?_,HSS.out.2.2.1.trans hl5,HSS.out.2.2.2.trans ho5⟩
     rw [HAA.out]
     exact hb5
theorem edump_any {M:Nat}:∀ (n:Nat) (e:PE),SizeOf.sizeOf e<n→e.fits M→EdDoes e
 | 0,e,hs,_=>absurd hs (by omega)
 | n+1,e,hs,hf=>edump_step e (PE.fits_def hf).1 (PE.fits_def hf).2.1 fun x hx=>edump_any n x (by have:=kids_sizeOf e x hx;omega) (fitsE_mem (PE.fits_def hf).2.2 hx)
end Go.Proofs.YtemkhbmkaalgdaaGreatDoor

namespace Go.Proofs.YtemkhbmkaalgdaaGreatDoor
def exF:List Tok:=[⟨4,[],[40],0⟩,⟨1,[],[120],1⟩,⟨4,[],[41],2⟩,⟨4,[],[43],3⟩,⟨3,[],[49],4⟩,⟨5,[],[],5⟩]
def exS:List UInt8:=[40,120,41,43,49]
def exC:CE:=.bin (.group .nam) .num
theorem exF_lex:lexAll exS=.ok exF:=by rfl
theorem exF_form:formF exS 9=.good exF ((aloneT exC).em 0 0):=by rfl
theorem ex_good:FGood exS exF ((aloneT exC).em 0 0) exC :=
 form_good_of (d:=9) (by omega) exF_form exF_lex rfl (by
  simp only [exC,CE.ok]
  exact ⟨by decide,⟨rfl,rfl⟩,rfl⟩) (by decide) (by decide)
theorem dec_one {n:Nat}(h:n<10):decF n=[UInt8.ofNat (48+n)]:=by rw [decF,dif_pos h]
theorem ex_pe:exC.pe exF 0=.mk 7 [] [] 0 [] false [.mk 3 [120] [] 0 [] false [] 1,.mk 1 [] [] 1 [49] false [] 4] 3:=by rfl
theorem ex_dump:(exC.pe exF 0).dump=[91,55,32,91,51,32,120,93,32,91,49,32,49,93,93]:=by
 rw [ex_pe]
 simp only [PE.dump,dumpE,headF,intF,Int.natAbs]
 rw [dec_one (n:=7) (by omega),dec_one (n:=3) (by omega),dec_one (n:=1) (by omega),dec_one (n:=0) (by omega)]
 decide
theorem ex_size:(exC.pe exF 0).size=3:=by rw [ex_pe];rfl
end Go.Proofs.YtemkhbmkaalgdaaGreatDoor

namespace Go.Proofs.YtemkhbmkaalgdaaGreatDoor
open Go.RowKit Go
def Ki (w w':World):Prop:=∀ (k:Nat) (cs:Array Value) (fr:Nat × Nat),w.heap[k]?=some (.cells cs 3 fr)→w'.heap[k]?=some (.cells cs 3 fr)
theorem Ki.trans {a b c:World}(h:Ki a b)(k:Ki b c):Ki a c:=fun n cs fr q=>k n cs fr (h n cs fr q)
theorem Ki.below {w w':World}(h:Below w.heap.size w w'):Ki w w':=fun k _cs _fr q=>(h.block k (Array.getElem?_eq_some_iff.1 q).1).trans q
theorem Ki.set {w:World}{b:Nat}{cs:Array Value}{T:TypeId}{fr:Nat × Nat}(hb:w.heap[b]?=some (.cells cs T fr))(hT:T≠3)(j:Nat)(u:Value):Ki w (w.setCell ⟨b,j,none⟩ u):=fun k ds fr' q=>by
 rw [heap_setCell_other _ _ _ _ (by
  show k≠b
  rintro rfl
  rw [hb] at q
  simp only [Option.some.injEq,Obj.cells.injEq] at q
  exact hT q.2.1)]
 exact q
theorem IntsAt.ki {w w':World}{v:Value}{ks:List Int}(h:IntsAt w v ks)(hk:Ki w w'):IntsAt w' v ks:=by
 obtain ⟨ao,cap,hv,hc,hf⟩:=h
 refine ⟨ao,cap,hv,hc,fun h0=>?_⟩
 obtain ⟨b,off,cs,fr,ha,hb,hj⟩:=hf h0
 exact ⟨b,off,cs,fr,ha,hk b cs fr hb,hj⟩
theorem own_keep {w w':World}{B e sz n:Nat}{v:Value}{xs:List Value}(h:w.ownsRow B e sz v n xs)(hs:∀ q,v.ownBlock=some q→w'.heap[q]?=w.heap[q]?):w'.ownsRow B e sz v n xs:=by
 refine ⟨h.1,?_⟩
 rcases h.2 with hn|⟨g,cap,cur,hv,hg,hh,hr⟩
 ·exact .inl hn
 ·exact .inr ⟨g,cap,cur,hv,hg,(hs g (by rw [hv];rfl)).trans hh,hr⟩
def TreeTy (w:World)(v:Value)(toks:List Tok)(nodes:List Nd):Prop :=
 ∃ (tv nv:Value) (l:List (Nd × Value)) (C D:Nat),v=.agg #[tv,nv]∧w.ownsRow C 83 4 tv toks.length (toks.flatMap tokCells)∧l.map Prod.fst=nodes∧w.ownsRow D 85 3 nv nodes.length (l.flatMap ndCells)∧∀ p∈l,IntsAt w p.2 p.1.kids
theorem TreeTy.set {w:World}{v:Value}{toks:List Tok}{nodes:List Nd}(h:TreeTy w v toks nodes){b:Nat}{cs:Array Value}{T:TypeId}{fr:Nat × Nat}(hb:w.heap[b]?=some (.cells cs T fr))(h1:T≠83)(h2:T≠85)(h3:T≠3)(j:Nat)(u:Value):TreeTy (w.setCell ⟨b,j,none⟩ u) v toks nodes:=by
 obtain ⟨tv,nv,l,C,D,e,p1,p2,p3,p4⟩:=h
 exact ⟨tv,nv,l,C,D,e,own_set (a:=⟨b,j,none⟩) p1 (own_ne p1 hb h1) u,p2,own_set (a:=⟨b,j,none⟩) p3 (own_ne p3 hb h2) u,fun p hp=>(p4 p hp).ki (Ki.set hb h3 j u)⟩
theorem TreeTy.later {w w':World}{v:Value}{toks:List Tok}{nodes:List Nd}(h:TreeTy w v toks nodes)(hb:Below w.heap.size w w'):TreeTy w' v toks nodes:=by
 obtain ⟨tv,nv,l,C,D,e,p1,p2,p3,p4⟩:=h
 exact ⟨tv,nv,l,C,D,e,own_below p1 hb,p2,own_below p3 hb,fun p hp=>(p4 p hp).ki (Ki.below hb)⟩
theorem TreeTy.at {w:World}{v:Value}{toks:List Tok}{nodes:List Nd}(h:TreeTy w v toks nodes):TreeAt w.heap.size w v toks nodes:=by
 obtain ⟨tv,nv,l,C,D,e,p1,p2,p3,p4⟩:=h
 have hll:l.length=nodes.length:=by rw [← p2,List.length_map]
 refine ⟨tv,nv,l,e,Sl.ofOwns p1,p2,?_,fun p hp=>?_⟩
 ·rw [Rec,hll]
  exact Sl.ofOwns p3
 ·obtain ⟨ai,ci,hvi,hci,hfi⟩:=p4 p hp
  refine ⟨ai,ci,hvi,hci,by simp,fun hp0=>?_⟩
  obtain ⟨bi,oi,cs,fr,e1,e2,e3⟩:=hfi hp0
  refine ⟨bi,oi,e1,(Array.getElem?_eq_some_iff.1 e2).1,fun jj hjj=>?_⟩
  rw [Lib.cell_of_heap e2,e3 jj (by simpa using hjj)]
  simp
def DonePost (toks:List Tok)(nodes:List Nd)(w:World)(e:Ending)(w':World):Prop :=
 ∃ v,e=.returned v∧TreeTy w' v toks nodes∧Below w.heap.size w w'
def NRow (C:Nat)(w:World)(nv:Value)(nodes:List Nd):Prop :=
 ∃ l:List (Nd × Value),l.map Prod.fst=nodes∧w.ownsRow C 85 3 nv nodes.length (l.flatMap ndCells)∧∀ p∈l,IntsAt w p.2 p.1.kids
theorem done_any (R:List Nat)(B bb:Nat)(tv:Value)(toks:List Tok)(nodes:List Nd)(used:Nat)(w:World)(hb:BW R B bb tv used nodes w)(ht:Rec B w tv 4 tokCells toks)(h0:0<toks.length)(hn:toks.length≤1000000)(hm:nodes.length≤1000000)(hkl:∀ n∈nodes,n.kids.length≤1000000) :
  Calls Tryz.prog 56 #[.pointer (some ⟨bb,0,none⟩)] w (DonePost toks nodes w):=by
 have HC:=Lib.hid (fun W (h:Rec B W tv 4 tokCells toks)=>clone_toks B tv toks W h h0 (by omega))
 obtain ⟨h1,nv,l,h2,h3,h4,h5⟩:=hb
 have hlt:=(Array.getElem?_eq_some_iff.1 h2).1
 obtain ⟨ao,cap,rfl,_⟩:∃ ao cap,nv=.slice ao nodes.length cap∧True:=by
  rcases h4.2 with ⟨hv,hn0⟩|⟨g,cap,cur,hv,_⟩
  ·exact ⟨none,0,by rw [hv,hn0],trivial⟩
  ·exact ⟨_,cap,hv,trivial⟩
 have HT:=Lib.hid ht
 obtain ⟨at_,ct,rfl,_,_⟩:=ht.form (fun _=>rfl)
 have c0:w.cell? ⟨bb,0,none⟩=some (.slice at_ toks.length ct):=by rw [Lib.cell_of_heap h2];rfl
 have hal:=below_new w (.cells #[.slice none 0 0,.slice none 0 0] 25)
 have d0:=cell_later hal c0
 have hBw:B≤w.heap.size:=by omega
 have H4:=Lib.hid h4
 have H5:=Lib.hid h5
 clear h4 h5 ht c0
 go_enter Tryz.func56,Tryz.ntmps56
 go_wp2_with (go_at_call 80;refine (HC.out _ ?c1).mono ?_)
 case c1=>exact HT.out.below (hal.mono hBw)
 rintro e w1 ⟨v',rfl,hown,hb1⟩
 obtain ⟨g,c5,rfl,hg1,hg2⟩:=hown.form h0
 have G0:=(hb1.block w.heap.size (by simp)).trans (heap_alloc_new w (.cells #[.slice none 0 0,.slice none 0 0] 25))
 have Gb:=(hb1.block bb (by simp;omega)).trans ((Lib.alloc_old w _ bb hlt).trans h2)
 go_upto_region 2 with (fail)
 have hz1:=hb1.size
 rw [World.size_alloc] at hz1
 have hbw1:Below w.heap.size w w1:=hal.trans (hb1.mono (by simp))
 have T1:=heap_alloc_new w1 (.cells #[.slice (some ⟨g,0,none⟩) toks.length c5,.slice none 0 0] 25)
 have hb2:=below_new w1 (.cells #[.slice (some ⟨g,0,none⟩) toks.length c5,.slice none 0 0] 25)
 have Gb2:=(Lib.alloc_old w1 (.cells #[.slice (some ⟨g,0,none⟩) toks.length c5,.slice none 0 0] 25) bb (Array.getElem?_eq_some_iff.1 Gb).1).trans Gb
 generalize w1.alloc _=w2 at T1 hb2 Gb2 ⊢
 have b1:w2.cell? ⟨bb,1,none⟩=some (.slice ao nodes.length cap):=by rw [Lib.cell_of_heap Gb2];rfl
 obtain ⟨j0,hj,hy0,hy1,hy2⟩:=info_parts Tryz.infoNode
 have hll:l.length=nodes.length:=by rw [← h3,List.length_map]
 have hrec:Rec w.heap.size w (.slice ao nodes.length cap) 3 ndCells l:=by
  have:=Sl.ofOwns H4.out
  rw [Rec,hll]
  exact this
 obtain ⟨ao',cap',hv,_,hnf⟩:=hrec.formN (fun p=>ndCells_len p) hll
 simp only [Value.slice.injEq] at hv
 obtain ⟨rfl,-,rfl⟩:=hv
 have HNF:=Lib.hid hnf
 have HLL:=Lib.hid hll
 have H3:=Lib.hid h3
 clear hnf hrec hll h3
 go_wp2
 clear b1 d0
 go_loopw [19] (fun q wr=>∃ (j:Nat) (nv2:Value),j≤nodes.length∧q=.int .i64 j∧Alk (fun b=>b<w1.heap.size) w2 wr∧wr.heap[w1.heap.size]?=some (.cells #[.slice (some ⟨g,0,none⟩) toks.length c5,nv2] 25 (0,0))∧NRow (w1.heap.size+1) wr nv2 (nodes.take j)∧Ki w2 wr∧Below w.heap.size w wr) (fun q _=>nodes.length - (intOf q).toNat)
 case atStart=>exact ⟨0,.slice none 0 0,Nat.zero_le _,rfl,Alk.refl _ _,T1,⟨[],rfl,World.ownsRow_nil _ _ _ _,fun p hp=>by cases hp⟩,fun _ _ _ q=>q,hbw1.trans (hb2.mono hbw1.size)⟩
 case round =>
  obtain ⟨j,nv2,hjn,rfl,halk,hT,hrow,hki,hbl⟩:=hrel
  have hzr:=halk.1
  have hz2:=hb2.size
  by_cases hlt:j<nodes.length
  ·have hjl:j<l.length:=by have:=HLL.out;omega
   obtain ⟨b,off,rfl,hbB,hcell⟩:=HNF.out (by omega)
   have hW2:Below w.heap.size w w2:=hbw1.trans (hb2.mono hbw1.size)
   have hcl:=fun (jj:Nat) (u:Value) (hu:(ndCells l[j])[jj]?=some u)=>(World.cell?_of_block (a:=⟨b,off+j * 3+jj,none⟩) ((halk.2 b (by have:=hbw1.size;show b<w1.heap.size;omega) (by have:=hbw1.size;omega)).trans (hW2.block b hbB))).trans (hcell j jj u hjl hu)
   have hx0:=hcl 0 _ rfl
   have hx1:=hcl 1 _ rfl
   have hx2:=hcl 2 _ rfl
   have hiw:IntsAt wr l[j].2 l[j].1.kids:=((H5.out l[j] (List.getElem_mem hjl)).1.ki (Ki.below hW2)).ki hki
   have hnj:nodes[j]=l[j].1:=by have:=H3.out;subst this;simp
   have hkj:=hkl nodes[j] (List.getElem_mem hlt)
   have hsn:nodes.take (j+1)=nodes.take j++[l[j].1]:=by rw [List.take_succ_eq_append_getElem hlt,hnj]
   rw [hnj] at hkj
   generalize l[j]=pr at hx0 hx1 hx2 hiw hkj hsn
   obtain ⟨⟨kind,tok,ks⟩,kv⟩:=pr
   simp only [Nat.add_zero] at hx0 hx1 hx2 hiw hkj hsn
   have HS:=Lib.hid hsn
   have HIW:=Lib.hid hiw
   obtain ⟨ak,ck,rfl⟩:=hiw.slice
   have hjI:(j:Int)<(nodes.length:Int):=by omega
   clear hcell hcl hnj hsn hiw
   go_wp2_with (go_at_call 81;refine (clone_ints _ ks _ (HIW.out.ki (Ki.below (below_new wr _))) (by omega)).mono ?_)
   rintro e w4 ⟨v5,rfl,hkR,hb4⟩
   have hk5:=(hkR [] (fun r hr=>by cases hr)).1
   obtain ⟨a5,c6,rfl⟩:=hk5.slice
   have N4:=(hb4.block wr.heap.size (by simp)).trans (heap_alloc_new wr (.cells #[.int .i64 kind,.int .i64 tok,.slice ak ks.length ck] 85))
   have n2:w4.cell? ⟨wr.heap.size,2,none⟩=some (.slice ak ks.length ck):=by rw [Lib.cell_of_heap N4];rfl
   have nz:∀ jj,w4.frozen? ⟨wr.heap.size,jj,none⟩=false:=by intro jj;simp [World.frozen?,N4]
   clear hkR hx0 hx1 hx2
   go_upto_region 6 with (fail)
   obtain ⟨l2,hl2,hown2,hk2⟩:=hrow
   have hlj:(nodes.take j).length=j:=by rw [List.length_take];omega
   rw [hlj] at hown2
   obtain ⟨a2,c2,rfl,_⟩:∃ a2 c2,nv2=.slice a2 j c2∧True:=by
    rcases hown2.2 with ⟨hv,hn0⟩|⟨g,cap,cur,hv,_⟩
    ·exact ⟨none,0,by rw [hv,hn0],trivial⟩
    ·exact ⟨_,cap,hv,trivial⟩
   have hne2:some wr.heap.size≠(Value.slice a2 j c2).ownBlock:=fun q=>by have:=(hown2.lt _ q.symm).2;omega
   have hlt1:w1.heap.size<wr.heap.size:=(Array.getElem?_eq_some_iff.1 hT).1
   have hb4':Below wr.heap.size wr w4:=(below_new wr _).trans (hb4.mono (by simp))
   have N5:=heap_setCell_same w4 wr.heap.size 2 _ _ (.slice a5 ks.length c6) N4
   have T5:(w4.setCell ⟨wr.heap.size,2,none⟩ (.slice a5 ks.length c6)).heap[w1.heap.size]?=_:=(heap_setCell_other _ _ _ _ (by show w1.heap.size≠wr.heap.size;omega)).trans ((hb4'.block _ hlt1).trans hT)
   have hown5:=own_set (a:=⟨wr.heap.size,2,none⟩) (own_below hown2 hb4') hne2 (.slice a5 ks.length c6)
   have hks:=Ki.set N4 (by decide) 2 (.slice a5 ks.length c6)
   have hki5:=(hki.trans (Ki.below hb4')).trans hks
   have hkw5:=(Ki.below hb4').trans hks
   have hk5':=hk5.ki hks
   have halk5:Alk (fun b=>b<w1.heap.size) w2 (w4.setCell ⟨wr.heap.size,2,none⟩ (.slice a5 ks.length c6)):=(halk.trans (Alk.of hb4')).trans (Alk.set _ fun b hb=>by show b≠wr.heap.size;omega)
   have hb5:=(hbl.trans (hb4'.mono hbl.size)).setCell (p:=⟨wr.heap.size,2,none⟩) hbl.size (.slice a5 ks.length c6)
   have hs5:w4.heap.size≤(w4.setCell ⟨wr.heap.size,2,none⟩ (.slice a5 ks.length c6)).heap.size:=by simp
   have hs4:=hb4'.size
   clear hown2 hne2 N4 n2 nz hb4 hb4' hk5 hks
   generalize w4.setCell _ _=w5 at N5 T5 hown5 hki5 hkw5 hk5' halk5 hs5 hb5 ⊢
   have t1:w5.cell? ⟨w1.heap.size,1,none⟩=some (.slice a2 j c2):=by rw [Lib.cell_of_heap T5];rfl
   have m0:w5.cell? ⟨wr.heap.size,0,none⟩=some (.int .i64 kind):=by rw [Lib.cell_of_heap N5];rfl
   have m1:w5.cell? ⟨wr.heap.size,1,none⟩=some (.int .i64 tok):=by rw [Lib.cell_of_heap N5];rfl
   have m2:w5.cell? ⟨wr.heap.size,2,none⟩=some (.slice a5 ks.length c6):=by rw [Lib.cell_of_heap N5];rfl
   go_wp2_with (at_builtin;refine wpList_append_own _ rfl _ _ 23 rfl (w1.heap.size+1) 85 j0 (.agg #[.int .i64 0,.int .i64 0,.slice none 0 0]) 3 40 Tryz.underlying23 hj hy0 hy1 hy2 rfl (by decide) _ _ _ rfl (hown5.alloc _) ⟨w5.heap.size,0,none⟩ 1 1 [.int .i64 kind,.int .i64 tok,.slice a5 ks.length c6] rfl rfl ?e1 ?e2 ?e3 ?e4 ?e5 ?_)
   case e1 =>
    intro j' u hj'
    exact World.news_of_block (cs:=#[.int .i64 kind,.int .i64 tok,.slice a5 ks.length c6]) (t:=85) (fr:=(0,0)) (heap_alloc_new w5 _) j' u (by simpa using hj')
   case e2=>simp [Value.oneCell']
   case e3=>unfold maxLen;omega
   case e4=>omega
   case e5=>simp;omega
   intro v' w6 hown6 hgrow6 _
   obtain ⟨gv,cv,rfl,_,_⟩:=hown6.form (by omega)
   have hlt5:=(Array.getElem?_eq_some_iff.1 T5).1
   have T6:=own_block (hown5.alloc _) hgrow6 ((Lib.alloc_old w5 (.cells #[.int .i64 kind,.int .i64 tok,.slice a5 ks.length c6] 85) w1.heap.size hlt5).trans T5) (by decide)
   have k6:Ki w5 w6:=fun k cs fr q=>own_block (hown5.alloc _) hgrow6 ((Lib.alloc_old w5 (.cells #[.int .i64 kind,.int .i64 tok,.slice a5 ks.length c6] 85) k (Array.getElem?_eq_some_iff.1 q).1).trans q) (by decide)
   have a6:Alk (fun b=>b<w1.heap.size) w2 w6:=(halk5.trans (Alk.of (below_new w5 _))).trans (Alk.grown hgrow6 fun b hb q=>by have:=(hown5.lt b q.symm).1;omega)
   have s1:w6.cell? ⟨w1.heap.size,1,none⟩=some (.slice a2 j c2):=by rw [Lib.cell_of_heap T6];rfl
   have sz:∀ jj,w6.frozen? ⟨w1.heap.size,jj,none⟩=false:=by intro jj;simp [World.frozen?,T6]
   have hs7:Ki w6 (w6.setCell ⟨w1.heap.size,1,none⟩ (.slice (some ⟨gv,0,none⟩) (j+1) cv)):=Ki.set T6 (by decide) 1 _
   have T7:=heap_setCell_same w6 w1.heap.size 1 _ _ (.slice (some ⟨gv,0,none⟩) (j+1) cv) T6
   have a7:=a6.trans (Alk.set (a:=⟨w1.heap.size,1,none⟩) (.slice (some ⟨gv,0,none⟩) (j+1) cv) fun b hb=>by show b≠w1.heap.size;omega)
   have o7:=own_set (a:=⟨w1.heap.size,1,none⟩) hown6 (fun q=>by have:=(hown6.lt _ q.symm).1;simp at this;omega) (.slice (some ⟨gv,0,none⟩) (j+1) cv)
   have hlj2:(nodes.take (j+1)).length=j+1:=by rw [List.length_take];omega
   have R7:NRow (w1.heap.size+1) (w6.setCell ⟨w1.heap.size,1,none⟩ (.slice (some ⟨gv,0,none⟩) (j+1) cv)) (.slice (some ⟨gv,0,none⟩) (j+1) cv) (nodes.take (j+1)):=by
    refine ⟨l2++[(⟨kind,tok,ks⟩,.slice a5 ks.length c6)],by rw [List.map_append,hl2,HS.out];rfl,?_,fun p hp=>?_⟩
    ·rw [hlj2,List.flatMap_append]
     exact o7
    ·rcases List.mem_append.1 hp with hp|hp
     ·exact (((hk2 p hp).ki hkw5).ki k6).ki hs7
     ·rw [List.mem_singleton] at hp
      subst hp
      exact (hk5'.ki k6).ki hs7
   have hki7:=((hki5.trans k6).trans hs7)
   have hw1w:=hbw1.size
   have hb7:=((hb5.alloc hb5.size (.cells #[.int .i64 kind,.int .i64 tok,.slice a5 ks.length c6] 85)).grown hgrow6 (by have:=hb5.size;simp;omega) (fun q hq=>by have:=(hown5.lt q hq).1;omega)).setCell (p:=⟨w1.heap.size,1,none⟩) hw1w (.slice (some ⟨gv,0,none⟩) (j+1) cv)
   clear hgrow6 hown6 hown5 t1 m0 m1 m2 o7 hk2 hl2
   go_wp2
   go_roundw
   case rel=>exact ⟨j+1,_,by omega,by go_num,a7,T7,R7,hki7,hb7⟩
   case measure=>simp [intOf];omega
  ·obtain rfl:j=nodes.length:=by omega
   rw [List.take_length] at hrow
   obtain ⟨l2,hl2,hown2,hk2⟩:=hrow
   obtain ⟨a2,c2,rfl,_⟩:∃ a2 c2,nv2=.slice a2 nodes.length c2∧True:=by
    rcases hown2.2 with ⟨hv,hn0⟩|⟨g,cap,cur,hv,_⟩
    ·exact ⟨none,0,by rw [hv,hn0],trivial⟩
    ·exact ⟨_,cap,hv,trivial⟩
   have hl1:=(Array.getElem?_eq_some_iff.1 G0).1
   have Z:=(halk.2 w.heap.size hl1 (by omega)).trans ((hb2.block w.heap.size hl1).trans G0)
   have s0:wr.cell? ⟨w1.heap.size,0,none⟩=some (.slice (some ⟨g,0,none⟩) toks.length c5):=by rw [Lib.cell_of_heap hT];rfl
   have s1:wr.cell? ⟨w1.heap.size,1,none⟩=some (.slice a2 nodes.length c2):=by rw [Lib.cell_of_heap hT];rfl
   have q0:wr.cell? ⟨w.heap.size,0,none⟩=some (.slice none 0 0):=by rw [Lib.cell_of_heap Z];rfl
   have q1:wr.cell? ⟨w.heap.size,1,none⟩=some (.slice none 0 0):=by rw [Lib.cell_of_heap Z];rfl
   have qz:∀ jj,wr.frozen? ⟨w.heap.size,jj,none⟩=false:=by intro jj;simp [World.frozen?,Z]
   have hjI:decide ((nodes.length:Int)<(nodes.length:Int))=false:=decide_eq_false (by omega)
   have hll2:l2.length=nodes.length:=by rw [← hl2,List.length_map]
   have k1:Ki wr (wr.setCell ⟨w.heap.size,0,none⟩ (.slice (some ⟨g,0,none⟩) toks.length c5)):=Ki.set Z (by decide) 0 _
   have Z1:=heap_setCell_same wr w.heap.size 0 _ _ (.slice (some ⟨g,0,none⟩) toks.length c5) Z
   have k2:=Ki.set Z1 (by decide) 1 (.slice a2 nodes.length c2)
   have hgl:=hown.lt g rfl
   simp only [World.size_alloc] at hgl
   have hP3:((wr.setCell ⟨w.heap.size,0,none⟩ (.slice (some ⟨g,0,none⟩) toks.length c5)).setCell ⟨w.heap.size,1,none⟩ (.slice a2 nodes.length c2)).ownsRow _ 83 4 (.slice (some ⟨g,0,none⟩) toks.length c5) toks.length (toks.flatMap tokCells):=own_keep hown fun q hq=>by
    obtain rfl:g=q:=by simpa [Value.ownBlock] using hq
    rw [heap_setCell_other _ _ _ _ (by show g≠w.heap.size;omega),heap_setCell_other _ _ _ _ (by show g≠w.heap.size;omega)]
    exact (halk.2 g hgl.2 (by omega)).trans (hb2.block g hgl.2)
   have hn1:=own_set (a:=⟨w.heap.size,0,none⟩) hown2 (fun q=>by have:=(hown2.lt _ q.symm).1;simp at this;omega) (.slice (some ⟨g,0,none⟩) toks.length c5)
   have hN3:=own_set (a:=⟨w.heap.size,1,none⟩) hn1 (fun q=>by have:=(hn1.lt _ q.symm).1;simp at this;omega) (.slice a2 nodes.length c2)
   have hb9:=(hbl.setCell (p:=⟨w.heap.size,0,none⟩) (Nat.le_refl _) (.slice (some ⟨g,0,none⟩) toks.length c5)).setCell (p:=⟨w.heap.size,1,none⟩) (Nat.le_refl _) (.slice a2 nodes.length c2)
   go_wp2
   refine bodyPost_ret (v:=.agg #[.slice (some ⟨g,0,none⟩) toks.length c5,.slice a2 nodes.length c2]) (by simp [results,Tryz.results56,go_sem,q0,q1]) rfl ⟨_,rfl,⟨_,_,l2,_,_,rfl,hP3,hl2,hN3,fun p hp=>((hk2 p hp).ki k1).ki k2⟩,hb9⟩
end Go.Proofs.YtemkhbmkaalgdaaGreatDoor
