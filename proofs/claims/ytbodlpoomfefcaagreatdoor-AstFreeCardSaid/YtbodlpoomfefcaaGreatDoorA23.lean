/- Walks and plain laws: FreeW, FreeW2. -/
import Derived.Test.YtbodlpoomfefcaaGreatDoorA22
set_option maxHeartbeats 16000000
set_option maxRecDepth 100000
set_option linter.unusedVariables false
set_option linter.unusedSimpArgs false
namespace Go.Proofs.YtbodlpoomfefcaaGreatDoor
open Go.RowKit Go Go.Sort
theorem outF_append (op:Nat)(nm:List UInt8)(l:List (List UInt8)):∀ (a:List (List (List UInt8))) (acc:List (List UInt8)) (i:Nat),outF op nm acc i (a++[l])=setT (outF op nm acc i a++lessF op nm (i+a.length) l)
  | [],acc,i=>rfl
  | x :: a,acc,i=>by rw [List.cons_append,outF,outF,outF_append op nm l a,List.length_cons,show i+1+a.length=i+(a.length+1) by omega]
mutual
theorem PE.freeL_len:∀ e:PE,e.freeL.length≤e.size
  | .mk op nm m n t y kids a=>by
    rw [PE.freeL,PE.size]
    have h1:=outF_len (op:=op) (nm:=nm) (freesE kids) (startF op nm) 0
    have h2:=sum_frees kids
    have h3:(startF op nm).length≤1:=by
      unfold startF
      split
      · exact setT_len [nm]
      · simp
    omega
theorem sum_frees:∀ l:List PE,sumL (freesE l)≤sizeE l
  | []=>Nat.le_refl _
  | e :: l=>by
    have h1:=PE.freeL_len e
    have h2:=sum_frees l
    rw [freesE,sumL,sizeE]
    omega
end
theorem startF_len (op:Nat)(nm:List UInt8):(startF op nm).length≤1:=by
  unfold startF
  split
  · exact setT_len [nm]
  · simp
theorem lessF_len (op:Nat)(nm:List UInt8)(i:Nat)(l:List (List UInt8)):(lessF op nm i l).length≤l.length:=by
  unfold lessF
  split
  · exact List.length_filter_le _ _
  · exact Nat.le_refl _
theorem lessF_set (op:Nat)(nm:List UInt8)(i:Nat)(l:List (List UInt8))(h:op=22∧i=1):(l.filter fun x=>decide (x ∉ setT [nm]))=lessF op nm i l:=by
  unfold lessF
  rw [if_pos h]
  congr 1
  funext x
  simp [mem_setT]
def SetIn (P:Nat→Prop)(w:World)(B:Nat)(l:List (List UInt8)):Prop:=∃ ao c,w.heap[B]?=some (.cells #[.slice ao l.length c] 131 (0,0))∧TxAt P w (.slice ao l.length c) l
theorem one_at (w:World)(x:List UInt8):TxAt (fun _=>True) (w.alloc (.cells #[.string ⟨x.toArray⟩] 9)) (.slice (some ⟨w.heap.size,0,none⟩) 1 1) [x]:=by
  refine ⟨⟨_,1,rfl,Nat.le_refl _,rfl,fun _=>⟨w.heap.size,0,rfl,trivial,by simp,fun i hi=>?_⟩⟩,fun n c q=>by cases q⟩
  obtain rfl:i=0:=by simpa using hi
  rw [Lib.cell_of_heap (heap_alloc_new w _)]
  rfl
theorem free_any:∀ (n:Nat) (e:PE),SizeOf.sizeOf e<n→∀ (B:Nat) (am:Option Addr) (wn cm:Nat) (ae:Option Addr) (ce:Nat) (w:World),EAt XA (fun b=>b<B) w (.slice am wn cm) (.slice ae e.kids.length ce) e→B≤w.heap.size→e.size≤400000 →
    Calls Tryz.prog 109 #[.agg #[.int .i64 e.op,.string ⟨e.name.toArray⟩,.string ⟨e.module.toArray⟩,.bool (decide (e.num<0)),.slice am wn cm,.bool e.yes,.slice ae e.kids.length ce,.int .i64 e.at_]] w (SetPost e.freeL w)
  | 0,e,hs,_,_,_,_,_,_,_,_,_,_=>absurd hs (by omega)
  | n+1,e,hs,B,am,wn,cm,ae,ce,w,h,hB,hz=>by
    have hsub:=kids_sizeOf e
    have hdef:=e.size_def
    have hfd:=e.freeL_def
    obtain ⟨hnum,ae',ce',hv,hcap,hf⟩:=h.form
    simp only [Value.slice.injEq] at hv
    obtain ⟨rfl,-,rfl⟩:=hv
    have hfew:=sizeE_few e.kids
    have IH:=Lib.hid (fun (x:PE) (hx:x∈e.kids)=>free_any n x (by have:=hsub x hx;omega))
    have HF:=Lib.hid hf
    have HFD:=Lib.hid hfd
    have hkl:e.kids.length≤400000:=by omega
    have hzk:sizeE e.kids+1≤400000:=by omega
    clear h hnum hf hsub hs hdef hz hfd
    have hal:=(below_new w (.cells #[.int .i64 e.op,.string ⟨e.name.toArray⟩,.string ⟨e.module.toArray⟩,.bool (decide (e.num<0)),.slice am wn cm,.bool e.yes,.slice ae e.kids.length ce,.int .i64 e.at_] 40)).alloc (by simp) (.cells #[.slice none 0 0] 131)
    have g0:=(Lib.alloc_old (w.alloc (.cells #[.int .i64 e.op,.string ⟨e.name.toArray⟩,.string ⟨e.module.toArray⟩,.bool (decide (e.num<0)),.slice am wn cm,.bool e.yes,.slice ae e.kids.length ce,.int .i64 e.at_] 40)) (.cells #[.slice none 0 0] 131) w.heap.size (by simp)).trans (heap_alloc_new w (.cells #[.int .i64 e.op,.string ⟨e.name.toArray⟩,.string ⟨e.module.toArray⟩,.bool (decide (e.num<0)),.slice am wn cm,.bool e.yes,.slice ae e.kids.length ce,.int .i64 e.at_] 40))
    have g1:=heap_alloc_new (w.alloc (.cells #[.int .i64 e.op,.string ⟨e.name.toArray⟩,.string ⟨e.module.toArray⟩,.bool (decide (e.num<0)),.slice am wn cm,.bool e.yes,.slice ae e.kids.length ce,.int .i64 e.at_] 40)) (.cells #[.slice none 0 0] 131)
    rw [World.size_alloc] at g1
    generalize hop:e.op=op at *
    generalize hnm:e.name=nm at *
    generalize hkk:e.kids=ks at *
    clear hop hnm
    go_enter Tryz.func109,Tryz.ntmps109
    go_upto_region 1 with fail
    change Code.wp _ _ _ _ ((w.alloc _).alloc (.cells #[.slice none 0 0] 131))
    generalize (w.alloc _).alloc _=w1 at hal g0 g1 ⊢
    have hz1:=hal.size
    have hl1:=(Array.getElem?_eq_some_iff.1 g1).1
    have gT:=heap_alloc_new w1 (.cells #[.slice none 0 0] 131)
    have G0:=(Lib.alloc_old w1 (.cells #[.slice none 0 0] 131) w.heap.size (by omega)).trans g0
    have G1:=(Lib.alloc_old w1 (.cells #[.slice none 0 0] 131) _ hl1).trans g1
    have hb2:=hal.alloc hz1 (.cells #[.slice none 0 0] 131)
    have hlT:w1.heap.size<(w1.alloc (.cells #[.slice none 0 0] 131)).heap.size:=by simp
    go_upto_region 2 with fail
    generalize w1.alloc _=w2 at *
    generalize hTT:w1.heap.size=T at *
    clear g0 g1 hal hTT hz1
    obtain ⟨r0,r1,r2,r3,r4,r5,r6,r7,rz⟩:=expr_cells G0
    go_upto_if 9 with fail
    go_cut [] (fun wc=>SetIn (fun b=>T<b) wc T (startF op nm)∧Below T w2 wc)
    case first =>
      by_cases h3:op=3
      · have h3I:((op:Int) == 3)=true:=by simp [h3]
        have hst:startF op nm=setT [nm]:=by rw [startF,if_pos h3]
        have HO:=Lib.hid ((of_any _ _ [nm] _ (one_at w2 nm) (by simp)).mono fun e w' q=>(show ∃ ao c,e=.returned (.agg #[.slice ao (setT [nm]).length c])∧TxAt (fun b=>T<b) w' (.slice ao (setT [nm]).length c) (setT [nm])∧Below w2.heap.size w2 w' from by obtain ⟨ao,c,q1,q2,q3⟩:=q;exact ⟨ao,c,q1,q2.imp fun k hk _=>by simp at hk;omega,(below_new w2 _).trans (q3.mono (by simp))⟩))
        have HST:=Lib.hid hst
        clear IH HF HFD h3 hst
        generalize setT [nm]=S at *
        go_wp2_with (go_at_call 174;refine HO.out.mono ?_;rintro r w3 ⟨ao,c,rfl,htx,hb3⟩;have gT3:=(hb3.block T hlT).trans gT;have hfz:=(setBox_cell gT3).2;have hc0:=(setBox_cell gT3).1)
        go_meet
        have gT4:=heap_setCell_same w3 T 0 _ _ (.slice ao S.length c) gT3
        rw [HST.out]
        exact ⟨⟨ao,c,gT4,htx.frame (Alk.set _ fun k hk=>by show k≠T;omega)⟩,(hb3.mono (Nat.le_of_lt hlT)).setCell (Nat.le_refl _) _⟩
      · have h3I:((op:Int) == 3)=false:=by simp;omega
        have hst:startF op nm=[]:=by rw [startF,if_neg h3]
        have HST:=Lib.hid hst
        clear hst
        go_wp2
        go_meet
        rw [HST.out]
        exact ⟨⟨none,0,gT,TxAt.nil _ _⟩,Below.refl _ _⟩
    case rest =>
      obtain ⟨hset,hbc⟩:=hcut
      obtain ⟨w3,rfl⟩:∃ w3:World,w3=wc:=⟨_,rfl⟩
      have hz3:=hbc.size
      have hb3:=hb2.trans (hbc.mono (by omega:w.heap.size≤T))
      have G03:=(hbc.block w.heap.size (by omega)).trans G0
      have G13:=(hbc.block (w.heap.size+1) (by omega)).trans G1
      clear r0 r1 r2 r3 r4 r5 r6 r7 rz G0 G1 gT hbc hb2
      obtain ⟨r0,r1,r2,r3,r4,r5,r6,r7,rz⟩:=expr_cells G03
      have hlT3:T<w3.heap.size:=by omega
      clear hlT hz3
      go_upto_region 5 with fail
      clear r0 r1 r2 r3 r4 r5 r6 r7 rz
      have hl0:w.heap.size<w3.heap.size:=by omega
      go_loopw [17] (fun q wr=>∃ k:Nat,k≤ks.length∧q=.int .i64 k∧SetIn (fun b=>T<b) wr T (outF op nm (startF op nm) 0 (freesE (ks.take k)))∧Below T w3 wr) (fun q _=>ks.length - (intOf q).toNat)
      case atStart=>exact ⟨0,Nat.zero_le _,rfl,hset,Below.refl _ _⟩
      case round =>
        obtain ⟨k,hk,rfl,⟨ao,c,hTk,htk⟩,hbl⟩:=hrel
        have hw:=hbl.size
        have hbw:=hb3.trans (hbl.mono (by omega:w.heap.size≤T))
        have G0:=(hbl.block w.heap.size (by omega)).trans G03
        have G1:=(hbl.block (w.heap.size+1) (by omega)).trans G13
        by_cases hlt:k<ks.length
        · obtain ⟨w4,rfl⟩:∃ w4:World,w4=wr:=⟨_,rfl⟩
          obtain ⟨b,off,rfl,hbB,hbb,hkid⟩:=HF.out (by omega)
          obtain ⟨m,kv,hE,hc⟩:=hkid k hlt
          have hmem:ks[k]∈ks:=List.getElem_mem hlt
          have hsn:freesE (ks.take (k+1))=freesE (ks.take k)++[ks[k].freeL]:=by rw [freesE_map,freesE_map,List.take_succ_eq_append_getElem hlt,List.map_append];rfl
          have hfl:(freesE (ks.take k)).length=k:=by rw [freesE_map,List.length_map,List.length_take];omega
          have hle:=sizeE_mem ks _ hmem
          have hsum:sumL (freesE (ks.take k))≤sizeE ks:=by
            have h1:=sum_frees (ks.take k)
            have h2:=sizeE_append (ks.take k) (ks.drop k)
            rw [List.take_append_drop] at h2
            omega
          have hacc:=outF_len (op:=op) (nm:=nm) (freesE (ks.take k)) (startF op nm) 0
          have hst1:=startF_len op nm
          have hxl:=ks[k].freeL_len
          have hsn2:outF op nm (startF op nm) 0 (freesE (ks.take (k+1)))=setT (outF op nm (startF op nm) 0 (freesE (ks.take k))++lessF op nm k ks[k].freeL):=by rw [hsn,outF_append,hfl,Nat.zero_add]
          generalize outF op nm (startF op nm) 0 (freesE (ks.take k))=acc at *
          obtain ⟨am1,wn1,cm1,ae1,ce1,rfl,rfl⟩:=hE.slX
          have IHx:=IH.out _ hmem B am1 wn1 cm1 ae1 ce1
          have hkI:(k:Int)<(ks.length:Int):=by omega
          generalize ks[k]=x at hE hc hle IHx hxl hsn2
          have y0:=(hbw.cell (p:=⟨b,off+k * 8,none⟩) hbb).trans (hc 0 _ rfl)
          have y1:=(hbw.cell (p:=⟨b,off+k * 8+1,none⟩) hbb).trans (hc 1 _ rfl)
          have y2:=(hbw.cell (p:=⟨b,off+k * 8+2,none⟩) hbb).trans (hc 2 _ rfl)
          have y3:=(hbw.cell (p:=⟨b,off+k * 8+3,none⟩) hbb).trans (hc 3 _ rfl)
          have y4:=(hbw.cell (p:=⟨b,off+k * 8+4,none⟩) hbb).trans (hc 4 _ rfl)
          have y5:=(hbw.cell (p:=⟨b,off+k * 8+5,none⟩) hbb).trans (hc 5 _ rfl)
          have y6:=(hbw.cell (p:=⟨b,off+k * 8+6,none⟩) hbb).trans (hc 6 _ rfl)
          have y7:=(hbw.cell (p:=⟨b,off+k * 8+7,none⟩) hbb).trans (hc 7 _ rfl)
          simp only [strV] at y1 y2
          have HI:=Lib.hid (fun o=>IHx (w4.alloc o) (hE.frame (Alk.ofB (hbw.alloc hbw.size o) (fun b hb=>by omega))) (by simp;have:=hbw.size;omega) (by omega))
          have HSN:=Lib.hid hsn2
          have HTK:=Lib.hid htk
          have hsz4:=hbw.size
          have hlT4:=(Array.getElem?_eq_some_iff.1 hTk).1
          have hA4:acc.length≤400000:=by omega
          have hX4:x.freeL.length≤400000:=by omega
          clear hacc hxl hle
          clear hkid hc hE IHx hsn hsn2 htk hfl hsum hmem hst1
          go_upto_region 8 with (go_at_call 109;refine (HI.out _).mono ?_;rintro r w5 ⟨au,cu,rfl,htu,hb5⟩)
          have hz5:=hb5.size
          have hq5:Below w4.heap.size w4 w5:=(below_new w4 _).trans (hb5.mono (by simp))
          have hU6:=heap_alloc_new w5 (.cells #[.slice au x.freeL.length cu] 131)
          have hq6:Below w4.heap.size w4 (w5.alloc (.cells #[.slice au x.freeL.length cu] 131)):=hq5.alloc hq5.size _
          have htu6:TxAt (fun b=>T<b∧b≠w5.heap.size) (w5.alloc (.cells #[.slice au x.freeL.length cu] 131)) (.slice au x.freeL.length cu) x.freeL:=(htu.imp (Q:=fun b=>T<b∧b≠w5.heap.size) (fun b hb hl=>⟨by have:=hq5.size;simp at hb;omega,by omega⟩)).below (below_new w5 _)
          have hUw:T<w5.heap.size:=by have:=hq5.size;omega
          have hU4:w4.heap.size≤w5.heap.size:=hq5.size
          have hUl:w5.heap.size<(w5.alloc (.cells #[.slice au x.freeL.length cu] 131)).heap.size:=by simp
          clear y0 y1 y2 y3 y4 y5 y6 y7 htu hb5 hz5
          generalize hUU:w5.heap.size=U at *
          generalize w5.alloc _=w6 at *
          have hz6:=hq6.size
          have hTk6:=(hq6.block T hlT4).trans hTk
          have htk6:=(HTK.out.imp (Q:=fun b=>T<b∧b<U) fun b hb hl=>⟨hb,by omega⟩).below hq6
          have hbw6:=hbw.trans (hq6.mono hsz4)
          have hbl6:=hbl.trans (hq6.mono (by omega:T≤w4.heap.size))
          have g06:=(hq6.block w.heap.size (by omega)).trans G0
          have g16:=(hq6.block (w.heap.size+1) (by omega)).trans G1
          obtain ⟨r0,r1,r2,r3,r4,r5,r6,r7,rz⟩:=expr_cells g06
          clear hUU hq5 hTk HTK HI G0 G1 hbw hbl hq6
          obtain ⟨bb,hbb0⟩:∃ bb,decide (op=22∧k=1)=bb:=⟨_,rfl⟩
          have HBB:=Lib.hid hbb0
          clear hbb0
          go_cut [30] (fun v wc=>v=.bool bb∧w6=wc)
          case first =>
            go_wp2
            all_goals
              go_meet
              refine ⟨?_,rfl⟩
              rw [← HBB.out]
              congr 1
              first
                | (have hh:op=22:=by omega
                   by_cases hk1:k=1
                   · subst hk1;simp [hh]
                   · have hk2:((k:Int) == 1)=false:=by simp;omega
                     rw [hk2];simp [hk1])
                | (have hh:¬ op=22:=by omega
                   simp [hh])
          case rest =>
            obtain ⟨rfl,rfl⟩:=hcut
            go_upto_if 30 with fail
            go_cut [] (fun wc=>SetIn (fun b=>T<b∧b≠U) wc U (lessF op nm k x.freeL)∧Below U w6 wc)
            case first =>
              cases bb with
              | true =>
                have hlet:op=22∧k=1:=of_decide_eq_true HBB.out
                have hq:=lessF_set op nm k x.freeL hlet
                have hll:=lessF_len op nm k x.freeL
                have HWO:=without_any (fun _=>True) au cu (.slice (some ⟨w6.heap.size,0,none⟩) 1 1) x.freeL [nm] (w6.alloc (.cells #[.string ⟨nm.toArray⟩] 9)) ((htu6.below (below_new w6 _)).imp fun _ _ _=>trivial) (one_at w6 nm) (by omega) (by simp)
                rw [hq] at HWO
                have HW1:=Lib.hid (HWO.mono fun e w' q=>(show ∃ ao c,e=.returned (.agg #[.slice ao (lessF op nm k x.freeL).length c])∧TxAt (fun b=>T<b∧b≠U) w' (.slice ao (lessF op nm k x.freeL).length c) (lessF op nm k x.freeL)∧Below w6.heap.size w6 w' from by obtain ⟨ao,c,q1,q2,q3⟩:=q;exact ⟨ao,c,q1,q2.imp fun k hk _=>by simp at hk;omega,(below_new w6 _).trans (q3.mono (by simp))⟩))
                obtain ⟨u0,uz⟩:=setBox_cell hU6
                clear IH HF HFD hq HWO HSN htu6 htk6 hlet
                generalize lessF op nm k x.freeL=L at *
                go_wp2_with (go_at_call 175;refine HW1.out.mono ?_;rintro r w7 ⟨al,cl,rfl,htl,hb7⟩;have gU7:=(hb7.block U hUl).trans hU6;have hfz:=(setBox_cell gU7).2;have hc0:=(setBox_cell gU7).1)
                go_meet
                have gU8:=heap_setCell_same w7 U 0 _ _ (.slice al L.length cl) gU7
                exact ⟨⟨al,cl,gU8,htl.frame (Alk.set _ fun k hk=>hk.2)⟩,(hb7.mono (Nat.le_of_lt hUl)).setCell (Nat.le_refl U) _⟩
              | false =>
                have hlet:¬(op=22∧k=1):=of_decide_eq_false HBB.out
                have hq:lessF op nm k x.freeL=x.freeL:=by rw [lessF,if_neg hlet]
                have HQ:=Lib.hid hq
                clear hq hlet
                go_wp2
                go_meet
                rw [HQ.out]
                exact ⟨⟨au,cu,hU6,htu6⟩,Below.refl _ _⟩
            case rest =>
              obtain ⟨⟨al,cl,hU7,htl⟩,hb67⟩:=hcut
              obtain ⟨w7,rfl⟩:∃ w7:World,w7=wc:=⟨_,rfl⟩
              have hll:=lessF_len op nm k x.freeL
              generalize lessF op nm k x.freeL=L at *
              have hz67:=hb67.size
              have hT7:=(hb67.block T hUw).trans hTk6
              have ht7:TxAt (fun b=>T<b) w7 (.slice ao acc.length c) acc:=(htk6.frame (Alk.ofB hb67 fun b hb=>hb.2)).imp fun b hb _=>hb.1
              have hbl7:=hbl6.trans (hb67.mono (Nat.le_of_lt hUw))
              have hlT7:=(Array.getElem?_eq_some_iff.1 hT7).1
              have hlU7:=(Array.getElem?_eq_some_iff.1 hU7).1
              have c0:=(setBox_cell hT7).1
              have c1:=(setBox_cell hU7).1
              have HIT:=Lib.hid (fun W (hW:Below w7.heap.size w7 W)=>items_any _ al cl L W (htl.below hW) (by omega))
              have HWI:=Lib.hid (fun W v (hW:Below w7.heap.size w7 W) (hv:TxAt (fun b=>T<b) W v L)=>with_any (fun b=>T<b) ao c v acc L W (ht7.below hW) hv (by omega) (by omega))
              clear r0 r1 r2 r3 r4 r5 r6 r7 rz g06 g16 hTk6 hU6 htu6 htk6
              go_upto_region 10 with fail
              go_region_with (first
                  | (go_at_call 110;refine (HIT.out _ (Below.refl _ _).drew).mono ?_;rintro e wI ⟨ai,ci,rfl,hti,hbI⟩;have hqI:Below w7.heap.size w7 wI:=(Below.refl _ _).drew.trans hbI;have d0:=(hqI.cell (p:=⟨T,0,none⟩) hlT7).trans c0;have d1:=(hqI.cell (p:=⟨U,0,none⟩) hlU7).trans c1)
                  | (go_at_call 113;refine (HWI.out wI _ hqI (hti.imp fun k hk _=>Nat.lt_of_lt_of_le hlT7 hk)).mono ?_;rintro e w8 ⟨a8,c8,rfl,ht8,hb8⟩;have hq8:=hqI.trans (hb8.mono hqI.size);have hT8:=(hq8.block T hlT7).trans hT7;have hfz:=(setBox_cell hT8).2;have hc0:=(setBox_cell hT8).1))
              all_goals
                have gT9:=heap_setCell_same w8 T 0 _ _ (.slice a8 (setT (acc++L)).length c8) hT8
                have htT:SetIn (fun b=>T<b) (w8.setCell ⟨T,0,none⟩ (.slice a8 (setT (acc++L)).length c8)) T (setT (acc++L)):=⟨a8,c8,gT9,(ht8.imp fun k hk _=>Nat.lt_of_lt_of_le hlT7 (Nat.le_trans hqI.size hk)).frame (Alk.set _ fun k hk=>by show k≠T;omega)⟩
                have hbT:Below T w3 (w8.setCell ⟨T,0,none⟩ (.slice a8 (setT (acc++L)).length c8)):=(hbl7.trans (hq8.mono (Nat.le_of_lt hlT7))).setCell (Nat.le_refl T) _
                have HTT:=Lib.hid htT
                clear htT gT9 hT8 hti ht8 c0 c1
                go_wp2_with fail
                go_roundw
                case rel=>exact ⟨k+1,by omega,by go_num,by rw [HSN.out];exact HTT.out,hbT⟩
                case measure=>simp [intOf];omega
        · obtain rfl:k=ks.length:=by omega
          have hkI:decide ((ks.length:Int)<(ks.length:Int))=false:=decide_eq_false (by omega)
          rw [List.take_length] at hTk htk
          have HFE:Hid (e.freeL=outF op nm (startF op nm) 0 (freesE ks)):=Lib.hid (by rw [HFD.out,freesE_map])
          generalize outF op nm (startF op nm) 0 (freesE ks)=acc at *
          have c0:=(setBox_cell hTk).1
          obtain ⟨c1,cz⟩:=setBox_cell G1
          have HTK:=Lib.hid htk
          clear IH HF HFD hset htk
          go_wp2
          have hs0:=setRes (u:=.slice ao acc.length c) G1
          rw [HFE.out]
          refine bodyPost_ret (v:=.agg #[.slice ao acc.length c]) (by simp [results,Tryz.results109,go_sem,hs0]) rfl ⟨_,_,rfl,?_,hbw.setCell (by show w.heap.size≤w.heap.size+1;omega) _⟩
          exact (HTK.out.imp (Q:=fun b=>w.heap.size+1<b) fun b hb _=>by omega).frame (Alk.set _ fun k hk=>by show k≠w.heap.size+1;omega) |>.imp fun b hb _=>by omega
def hitB (op:Nat)(nm x:List UInt8)(i:Nat)(l:List (List UInt8)):Bool:=decide (x∈l) && (decide (op≠22) || decide (i=0) || decide (nm≠x))
def hitF (op:Nat)(nm x:List UInt8):Bool→Nat→List (List (List UInt8))→Bool
 | b,_,[]=>b
 | b,i,l :: ls=>hitF op nm x (b || hitB op nm x i l) (i+1) ls
theorem hitF_append (op:Nat)(nm x:List UInt8)(l:List (List UInt8)):∀ (a:List (List (List UInt8))) (b:Bool) (i:Nat),hitF op nm x b i (a++[l])=(hitF op nm x b i a || hitB op nm x (i+a.length) l)
 | [],b,i=>rfl
 | y :: a,b,i=>by rw [List.cons_append,hitF,hitF,hitF_append op nm x l a,List.length_cons,show i+1+a.length=i+(a.length+1) by omega]
theorem hitF_true {op:Nat}{nm x:List UInt8}:∀ (ls:List (List (List UInt8))) (b:Bool) (i:Nat),(b=true∨∃ k,∃ hk:k<ls.length,hitB op nm x (i+k) ls[k]=true)→hitF op nm x b i ls=true
 | [],b,i,h=>h.elim id fun ⟨k,hk,_⟩=>absurd hk (by simp)
 | l :: ls,b,i,h=>by
  rw [hitF]
  refine hitF_true ls _ _ ?_
  rcases h with h|⟨k,hk,h⟩
  ·left;rw [h];rfl
  ·cases k with
   | zero=>left;rw [show hitB op nm x i l=true from h,Bool.or_true]
   | succ k=>exact .inr ⟨k,by simpa using hk,by rw [show i+1+k=i+(k+1) by omega];exact h⟩
theorem PE.hit {e:PE}(ho:e.op=22→e.kids.length≤2){x:List UInt8}(hx:x∈e.freeL):hitF e.op e.name x (decide (e.op=3) && decide (e.name=x)) 0 (freesE e.kids)=true:=by
 refine hitF_true _ _ _ ?_
 rcases PE.mem_freeL.1 hx with ⟨h1,h2⟩|⟨k,hk,h1,h2⟩
 ·left;simp [h1,h2]
 ·right
  rw [freesE_map]
  refine ⟨k,by rw [List.length_map];exact hk,?_⟩
  rw [List.getElem_map]
  unfold hitB
  simp only [Nat.zero_add,Bool.and_eq_true,Bool.or_eq_true,decide_eq_true_eq,ne_eq]
  refine ⟨h1,?_⟩
  by_cases q:e.op=22
  ·have:=ho q
   by_cases q0:k=0
   ·exact .inl (.inr q0)
   ·exact .inr fun r=>h2 ⟨q,by omega⟩ r.symm
  ·exact .inl (.inl q)
theorem PE.back {e:PE}{k:Nat}(hk:k<e.kids.length){x:List UInt8}(hx:x∈e.kids[k].freeL):(!decide (x∈e.freeL) && (decide (e.op≠22) || decide (k=0) || decide (e.name≠x)))=false:=by
 rw [Bool.and_eq_false_iff]
 by_cases q:e.op=22∧k=1∧x=e.name
 ·right
  simp [q.1,q.2.1,q.2.2]
 ·left
  have:x∈e.freeL:=PE.mem_freeL.2 (.inr ⟨k,hk,hx,fun r s=>q ⟨r.1,r.2,s⟩⟩)
  simp [this]
theorem freeS_any (e:PE)(B:Nat)(am:Option Addr)(wn cm:Nat)(ae:Option Addr)(ce:Nat)(w:World)(h:EAt XA (fun b=>b<B) w (.slice am wn cm) (.slice ae e.kids.length ce) e)(hB:B≤w.heap.size)(hz:e.size≤400000) :
  Calls Tryz.prog 61 #[.agg #[.int .i64 e.op,.string ⟨e.name.toArray⟩,.string ⟨e.module.toArray⟩,.bool (decide (e.num<0)),.slice am wn cm,.bool e.yes,.slice ae e.kids.length ce,.int .i64 e.at_]] w (TxPost e.freeL w):=by
 have hlen:=e.freeL_len
 have g0:=heap_alloc_new w (.cells #[.int .i64 e.op,.string ⟨e.name.toArray⟩,.string ⟨e.module.toArray⟩,.bool (decide (e.num<0)),.slice am wn cm,.bool e.yes,.slice ae e.kids.length ce,.int .i64 e.at_] 40)
 have hb1:=below_new w (.cells #[.int .i64 e.op,.string ⟨e.name.toArray⟩,.string ⟨e.module.toArray⟩,.bool (decide (e.num<0)),.slice am wn cm,.bool e.yes,.slice ae e.kids.length ce,.int .i64 e.at_] 40)
 have HFR:=Lib.hid (fun W (hW:Below w.heap.size w W)=>free_any (SizeOf.sizeOf e+1) e (by omega) B am wn cm ae ce W (h.frame (Alk.ofB hW fun b hb=>Nat.lt_of_lt_of_le hb hB)) (Nat.le_trans hB hW.size) hz)
 clear h
 go_enter Tryz.func61,Tryz.ntmps61
 go_upto_region 1 with fail
 generalize e.freeL=L at *
 generalize w.alloc _=w1 at *
 obtain ⟨r0,r1,r2,r3,r4,r5,r6,r7,rz⟩:=expr_cells g0
 have HF1:=Lib.hid (HFR.out w1 hb1)
 clear HFR
 go_wp2_with (first|(go_at_call 109;refine HF1.out.mono ?_;rintro r w2 ⟨a2,c2,rfl,ht2,hb2⟩;have HIT:=Lib.hid (items_any _ a2 c2 L w2 ht2 (by omega)))|(go_at_call 110;refine HIT.out.mono ?_;rintro r w3 ⟨a3,c3,rfl,ht3,hb3⟩))
 go_ret
 exact ⟨a3,c3,rfl,ht3.imp fun b hb _=>Nat.le_trans (hb1.trans (hb2.mono hb1.size)).size hb,(hb1.trans (hb2.mono hb1.size)).trans (hb3.mono (hb1.trans (hb2.mono hb1.size)).size)⟩
theorem Tryz.entersHas:∀ args w,(callFunc 62 args).run Tryz.prog w=.ok (.enter 62 args) w:=Go.Proofs.enters_of Tryz.func62 (by kernel_rfl) rfl
theorem hasL_any (P:Nat→Prop)(ao:Option Addr)(c:Nat)(l:List (List UInt8))(x:List UInt8)(w:World)(h:TxAt P w (.slice ao l.length c) l)(hl:l.length≤1000000) :
  Calls Tryz.prog 62 #[.slice ao l.length c,.string ⟨x.toArray⟩] w fun e w'=>e=.returned (.bool (decide (x∈l)))∧Below w.heap.size w w':=by
 obtain ⟨ao',cap,hv,_,hc⟩:=h.slice
 simp only [Value.slice.injEq] at hv
 obtain ⟨rfl,-,rfl⟩:=hv
 have HC:=Lib.hid hc
 clear h hc
 obtain ⟨bb,hbb0⟩:∃ bb,decide (x∈l)=bb:=⟨_,rfl⟩
 have HBB:=Lib.hid hbb0
 rw [hbb0]
 clear hbb0
 go_enter Tryz.func62,Tryz.ntmps62
 go_upto_region 2 with fail
 go_loopw [9] (fun q wr=>∃ k:Nat,k≤l.length∧q=.int .i64 k∧x ∉ l.take k∧Below w.heap.size w wr) (fun q _=>l.length - (intOf q).toNat)
 case atStart=>exact ⟨0,Nat.zero_le _,rfl,by simp,Below.refl _ _⟩
 case round =>
  obtain ⟨k,hk,rfl,hnot,hbl⟩:=hrel
  have HNOT:=Lib.hid hnot
  clear hnot
  by_cases hlt:k<l.length
  ·obtain ⟨b,off,rfl,_,hbw,hcell⟩:=HC.out (by omega)
   have x0:=(hbl.cell (p:=⟨b,off+k,none⟩) hbw).trans (hcell k hlt)
   have hmem:l[k]∈l:=List.getElem_mem hlt
   have htk:=List.take_succ_eq_append_getElem hlt
   have hkI:(k:Int)<(l.length:Int):=by omega
   generalize l[k]=y at *
   have HM:=Lib.hid (And.intro hmem htk)
   clear hcell hmem htk
   go_upto_if 15 with fail
   cases hyx:y == x with
   | true =>
    have HN:Hid (bb=true):=Lib.hid (by rw [← HBB.out,← eq_of_beq hyx];exact decide_eq_true HM.out.1)
    clear hyx
    go_wp2
    go_ret
    exact ⟨by rw [HN.out];rfl,hbl⟩
   | false =>
    have HN:Hid (x ∉ l.take (k+1)):=Lib.hid (by rw [HM.out.2,List.mem_append,List.mem_singleton];rintro (q|q);exact HNOT.out q;exact beq_eq_false_iff_ne.1 hyx q.symm)
    clear hyx
    go_wp2
    go_roundw
    case rel=>exact ⟨k+1,by omega,by go_num,HN.out,hbl⟩
    case measure=>simp [intOf];omega
  ·obtain rfl:k=l.length:=by omega
   have hkI:decide ((l.length:Int)<(l.length:Int))=false:=decide_eq_false (by omega)
   have HN:Hid (bb=false):=Lib.hid (by rw [← HBB.out];exact decide_eq_false (by have:=HNOT.out;rw [List.take_length] at this;exact this))
   go_wp2
   go_ret
   exact ⟨by rw [HN.out];rfl,hbl⟩
end Go.Proofs.YtbodlpoomfefcaaGreatDoor
