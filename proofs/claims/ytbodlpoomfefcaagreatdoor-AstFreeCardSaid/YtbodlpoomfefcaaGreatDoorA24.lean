/- Walks and plain laws: FreeW3, ProgPlain. -/
import Derived.Test.YtbodlpoomfefcaaGreatDoorA23
set_option maxHeartbeats 16000000
set_option maxRecDepth 100000
set_option linter.unusedVariables false
set_option linter.unusedSimpArgs false
namespace Go.Proofs.YtbodlpoomfefcaaGreatDoor
open Go.RowKit Go Go.Sort
theorem not_leq {x y:List UInt8}(h:y<x):(Op.bytesLess x y || x == y)=false:=by
  rw [Go.Proofs.bytesLess_eq,Bool.or_eq_false_iff]
  exact ⟨decide_eq_false fun q=>List.lt_irrefl _ (List.lt_trans h q),beq_eq_false_iff_ne.2 fun q=>by subst q;exact List.lt_irrefl _ h⟩
def LawF (e:PE):Prop:=∀ (B:Nat) (am:Option Addr) (wn cm:Nat) (ae:Option Addr) (ce:Nat) (w:World),EAt XA (fun b=>b<B) w (.slice am wn cm) (.slice ae e.kids.length ce) e→B≤w.heap.size→e.size≤400000→e.letOk →
    Calls Tryz.prog 23 #[.agg #[.int .i64 e.op,.string ⟨e.name.toArray⟩,.string ⟨e.module.toArray⟩,.bool (decide (e.num<0)),.slice am wn cm,.bool e.yes,.slice ae e.kids.length ce,.int .i64 e.at_]] w fun r w'=>r=.returned (.bool true)∧Below w.heap.size w w'
theorem lfree_step (e:PE)(ih:∀ x∈e.kids,LawF x):LawF e:=by
    intro B am wn cm ae ce w h hB hz hlet
    have hdef:=e.size_def
    have hnl:=e.freeL_len
    obtain ⟨ho2,hlk⟩:=PE.letOk_def hlet
    have hhit:=fun (x:List UInt8) (hx:x∈e.freeL)=>PE.hit ho2 hx
    have hback:=fun (k:Nat) (hk:k<e.kids.length) (x:List UInt8) (hx:x∈e.kids[k].freeL)=>PE.back hk hx
    have hris:=e.freeL_rising
    have HFR:=Lib.hid (fun W (hW:Below w.heap.size w W)=>freeS_any e B am wn cm ae ce W (h.frame (Alk.ofB hW fun b hb=>Nat.lt_of_lt_of_le hb hB)) (Nat.le_trans hB hW.size) hz)
    obtain ⟨hnum,ae',ce',hv,hcap,hf⟩:=h.form
    simp only [Value.slice.injEq] at hv
    obtain ⟨rfl,-,rfl⟩:=hv
    have hfew:=sizeE_few e.kids
    have IH:=Lib.hid ih
    have HF:=Lib.hid hf
    have HHIT:=Lib.hid hhit
    have HBACK:=Lib.hid hback
    have HRIS:=Lib.hid hris
    have HLK:=Lib.hid hlk
    have hkl:e.kids.length≤400000:=by omega
    have hzk:sizeE e.kids+1≤400000:=by omega
    have hnl4:e.freeL.length≤400000:=by omega
    clear h hnum hf ih hdef hz hhit hback hris ho2 hlk hlet hnl
    have g0:=heap_alloc_new w (.cells #[.int .i64 e.op,.string ⟨e.name.toArray⟩,.string ⟨e.module.toArray⟩,.bool (decide (e.num<0)),.slice am wn cm,.bool e.yes,.slice ae e.kids.length ce,.int .i64 e.at_] 40)
    have hb1:=below_new w (.cells #[.int .i64 e.op,.string ⟨e.name.toArray⟩,.string ⟨e.module.toArray⟩,.bool (decide (e.num<0)),.slice am wn cm,.bool e.yes,.slice ae e.kids.length ce,.int .i64 e.at_] 40)
    generalize hop:e.op=op at *
    generalize hnm:e.name=nm at *
    generalize hkk:e.kids=ks at *
    generalize hNN:e.freeL=N at *
    clear hop hnm hkk hNN
    go_enter Tryz.func23,Tryz.ntmps23
    go_upto_region 1 with fail
    generalize w.alloc _=w1 at *
    obtain ⟨r0,r1,r2,r3,r4,r5,r6,r7,rz⟩:=expr_cells g0
    have HF1:=Lib.hid (HFR.out w1 hb1)
    clear HFR
    go_upto_region 4 with (go_at_call 61;refine HF1.out.mono ?_;rintro r w2 ⟨an,cn,rfl,htn,hb2⟩)
    have hz1:=hb1.size
    have hl1:=(Array.getElem?_eq_some_iff.1 g0).1
    have g2:=(hb2.block _ hl1).trans g0
    have hbw2:=hb1.trans (hb2.mono hz1)
    have hl2:=(Array.getElem?_eq_some_iff.1 g2).1
    clear r0 r1 r2 r3 r4 r5 r6 r7 rz HF1 g0 hb2 hb1
    obtain ⟨an',cn',hvn,_,hcn⟩:=htn.slice
    simp only [Value.slice.injEq] at hvn
    obtain ⟨rfl,-,rfl⟩:=hvn
    have HCN:=Lib.hid hcn
    have HTN:=Lib.hid htn
    clear hcn htn
    go_loopw [18] (fun q wr=>∃ k:Nat,k≤N.length∧q=.int .i64 k∧Below w2.heap.size w2 wr) (fun q _=>N.length - (intOf q).toNat)
    case atStart=>exact ⟨0,Nat.zero_le _,rfl,Below.refl _ _⟩
    case round =>
      obtain ⟨k,hk,rfl,hbl⟩:=hrel
      have hzr:=hbl.size
      have hbwr:=hbw2.trans (hbl.mono (by omega:w.heap.size≤w2.heap.size))
      have G0:=(hbl.block _ hl2).trans g2
      by_cases hlt:k<N.length
      · obtain ⟨w3,rfl⟩:∃ w3:World,w3=wr:=⟨_,rfl⟩
        obtain ⟨nb,no,rfl,_,hnw,hcell⟩:=HCN.out (by omega)
        have x0:=(hbl.cell (p:=⟨nb,no+k,none⟩) hnw).trans (hcell k hlt)
        have hkI:(k:Int)<(N.length:Int):=by omega
        have hmem:N[k]∈N:=List.getElem_mem hlt
        have HPV:Hid (∀ h0:0<k,N[k - 1]<N[k]):=Lib.hid (fun h0=>List.pairwise_iff_getElem.1 HRIS.out (k - 1) k (by omega) hlt (by omega))
        have HX1:Hid (∀ h0:0<k,w3.cell? ⟨nb,no+(k - 1),none⟩=some (.string ⟨N[k - 1].toArray⟩)):=Lib.hid (fun h0=>(hbl.cell (p:=⟨nb,no+(k - 1),none⟩) hnw).trans (hcell (k - 1) (by omega)))
        have HH:=Lib.hid (HHIT.out _ hmem)
        generalize N[k]=x at HH x0 HPV
        clear hcell hmem IH HHIT HBACK HRIS HLK HTN
        go_upto_region 6 with fail
        go_cut [33] (fun v wc=>v=.bool false∧w3=wc)
        case first =>
          rcases Nat.eq_zero_or_pos k with hk0|hk0
          · subst hk0
            go_wp2
            go_meet
            exact ⟨rfl,rfl⟩
          · have hk0I:(0:Int)<(k:Int):=by omega
            have hks:(k:Int) - 1=((k - 1:Nat):Int):=by omega
            have x1:=HX1.out hk0
            have HP1:=Lib.hid (HPV.out hk0)
            generalize N[k - 1]=y at *
            go_wp2
            go_meet
            exact ⟨by rw [not_leq HP1.out],rfl⟩
        case rest =>
          obtain ⟨rfl,h33⟩:=hcut
          subst h33
          clear HPV HX1 x0
          obtain ⟨b0,hb00⟩:∃ b0,(decide (op=3) && decide (nm=x))=b0:=⟨_,rfl⟩
          rw [hb00] at HH
          have HB0:=Lib.hid hb00
          clear hb00
          obtain ⟨r0,r1,r2,r3,r4,r5,r6,r7,rz⟩:=expr_cells G0
          go_upto_region 8 with fail
          go_cut [7] (fun v wc=>v=.bool b0∧w3=wc)
          case first =>
            go_wp2
            all_goals
              go_meet
              refine ⟨?_,rfl⟩
              rw [← HB0.out]
              congr 1
              first
                | (have hh:op=3:=by omega
                   by_cases hk1:nm=x
                   · simp [hh,hk1]
                   · rw [show (nm == x)=false from beq_eq_false_iff_ne.2 hk1];simp [hk1])
                | (have hh:¬ op=3:=by omega
                   simp [hh])
          case rest =>
            obtain ⟨rfl,h33⟩:=hcut
            subst h33
            go_upto_region 10 with fail
            clear r0 r1 r2 r3 r4 r5 r6 r7 rz
            go_loopw [7,46] (fun v q wr=>∃ (j:Nat) (bv:Bool),j≤ks.length∧q=.int .i64 j∧v=.bool bv∧Hid (hitF op nm x b0 0 (freesE (ks.take j))=bv)∧Below w3.heap.size w3 wr) (fun _ q _=>ks.length - (intOf q).toNat)
            case atStart=>exact ⟨0,b0,Nat.zero_le _,rfl,rfl,Lib.hid rfl,Below.refl _ _⟩
            case round =>
              obtain ⟨j,bj,hj,rfl,rfl,HBJ,hb4⟩:=hrel
              have hz4:=hb4.size
              have hbw4:=hbwr.trans (hb4.mono hbwr.size)
              have G04:=(hb4.block _ (Array.getElem?_eq_some_iff.1 G0).1).trans G0
              by_cases hlt2:j<ks.length
              · obtain ⟨w4,rfl⟩:∃ w4:World,w4=wr:=⟨_,rfl⟩
                obtain ⟨kb,ko,rfl,hbB,hbb,hkid⟩:=HF.out (by omega)
                obtain ⟨m,kv,hE,hc⟩:=hkid j hlt2
                have hmem:ks[j]∈ks:=List.getElem_mem hlt2
                have hfl:(freesE (ks.take j)).length=j:=by rw [freesE_map,List.length_map,List.length_take];omega
                have hsn:freesE (ks.take (j+1))=freesE (ks.take j)++[ks[j].freeL]:=by rw [freesE_map,freesE_map,List.take_succ_eq_append_getElem hlt2,List.map_append];rfl
                have hsn2:hitF op nm x b0 0 (freesE (ks.take (j+1)))=(bj || hitB op nm x j ks[j].freeL):=by rw [hsn,hitF_append,hfl,Nat.zero_add,HBJ.out]
                have hle:=sizeE_mem ks _ hmem
                have hyl:=ks[j].freeL_len
                obtain ⟨am1,wn1,cm1,ae1,ce1,rfl,rfl⟩:=hE.slX
                have hkI2:(j:Int)<(ks.length:Int):=by omega
                generalize ks[j]=y at hE hc hle hyl hsn2
                have y0:=(hbw4.cell (p:=⟨kb,ko+j * 8,none⟩) hbb).trans (hc 0 _ rfl)
                have y1:=(hbw4.cell (p:=⟨kb,ko+j * 8+1,none⟩) hbb).trans (hc 1 _ rfl)
                have y2:=(hbw4.cell (p:=⟨kb,ko+j * 8+2,none⟩) hbb).trans (hc 2 _ rfl)
                have y3:=(hbw4.cell (p:=⟨kb,ko+j * 8+3,none⟩) hbb).trans (hc 3 _ rfl)
                have y4:=(hbw4.cell (p:=⟨kb,ko+j * 8+4,none⟩) hbb).trans (hc 4 _ rfl)
                have y5:=(hbw4.cell (p:=⟨kb,ko+j * 8+5,none⟩) hbb).trans (hc 5 _ rfl)
                have y6:=(hbw4.cell (p:=⟨kb,ko+j * 8+6,none⟩) hbb).trans (hc 6 _ rfl)
                have y7:=(hbw4.cell (p:=⟨kb,ko+j * 8+7,none⟩) hbb).trans (hc 7 _ rfl)
                simp only [strV] at y1 y2
                have HI:=Lib.hid (fun o=>freeS_any y B am1 wn1 cm1 ae1 ce1 (w4.alloc o) (hE.frame (Alk.ofB (hbw4.alloc hbw4.size o) (fun b hb=>by omega))) (by simp;have:=hbw4.size;omega) (by omega))
                have HSN:=Lib.hid hsn2
                have hy4:y.freeL.length≤1000000:=by omega
                have hsz4:=hbw4.size
                have hl04:=(Array.getElem?_eq_some_iff.1 G04).1
                clear hkid hc hE hsn hsn2 hfl hmem hle hyl HF HCN HB0 HH HBJ
                go_upto_region 12 with fail
                clear y0 y1 y2 y3 y4 y5 y6 y7
                have g4:∀ o,(w4.alloc o).heap[w.heap.size]?=some (.cells #[.int .i64 op,.string ⟨nm.toArray⟩,.string ⟨e.module.toArray⟩,.bool (decide (e.num<0)),.slice am wn cm,.bool e.yes,.slice (some ⟨kb,ko,none⟩) ks.length ce,.int .i64 e.at_] 40 (0,0)):=fun o=>(Lib.alloc_old w4 o _ hl04).trans G04
                have gk:=heap_alloc_new w4 (.cells #[.int .i64 y.op,.string ⟨y.name.toArray⟩,.string ⟨y.module.toArray⟩,.bool (decide (y.num<0)),.slice am1 wn1 cm1,.bool y.yes,.slice ae1 y.kids.length ce1,.int .i64 y.at_] 40)
                have g5:=g4 (.cells #[.int .i64 y.op,.string ⟨y.name.toArray⟩,.string ⟨y.module.toArray⟩,.bool (decide (y.num<0)),.slice am1 wn1 cm1,.bool y.yes,.slice ae1 y.kids.length ce1,.int .i64 y.at_] 40)
                have HI5:=Lib.hid (HI.out (.cells #[.int .i64 y.op,.string ⟨y.name.toArray⟩,.string ⟨y.module.toArray⟩,.bool (decide (y.num<0)),.slice am1 wn1 cm1,.bool y.yes,.slice ae1 y.kids.length ce1,.int .i64 y.at_] 40))
                have hb5:=hb4.alloc hz4 (.cells #[.int .i64 y.op,.string ⟨y.name.toArray⟩,.string ⟨y.module.toArray⟩,.bool (decide (y.num<0)),.slice am1 wn1 cm1,.bool y.yes,.slice ae1 y.kids.length ce1,.int .i64 y.at_] 40)
                clear g4 HI
                generalize w4.alloc _=w5 at *
                obtain ⟨m,hm0⟩:∃ m,decide (x∈y.freeL)=m:=⟨_,rfl⟩
                have HHAS:Hid (∀ W ao c,TxAt (fun b=>w5.heap.size≤b) W (.slice ao y.freeL.length c) y.freeL→Calls Tryz.prog 62 #[.slice ao y.freeL.length c,.string ⟨x.toArray⟩] W fun e w'=>e=.returned (.bool m)∧Below W.heap.size W w'):=Lib.hid (fun W ao c ht=>by rw [← hm0];exact hasL_any _ ao c y.freeL x W ht hy4)
                obtain ⟨hh,hh0⟩:∃ hh,hitB op nm x j y.freeL=hh:=⟨_,rfl⟩
                have HHB:Hid ((m && (decide (op≠22) || decide (j=0) || decide (nm≠x)))=hh):=Lib.hid (by rw [← hm0,← hh0];rfl)
                rw [hh0] at HSN
                clear hm0 hh0
                generalize y.freeL=YL at *
                have hz5:=hb5.size
                have hl5:=(Array.getElem?_eq_some_iff.1 g5).1
                obtain ⟨k0,k1,k2,k3,k4,k5,k6,k7,kz⟩:=expr_cells gk
                have entH:=Tryz.entersHas
                cases bj with
                | true =>
                  go_wp2
                  go_roundw
                  case rel=>exact ⟨j+1,true,by omega,by go_num,rfl,Lib.hid (by rw [HSN.out];simp),hb5⟩
                  case measure=>simp [intOf];omega
                | false =>
                  cases m with
                  | false =>
                    have hhF:Hid (hh=false):=Lib.hid (by rw [← HHB.out];rfl)
                    go_wp2_with (first|(go_at_call 61;refine HI5.out.mono ?_;rintro r w6 ⟨a6,c6,rfl,ht6,hb6⟩;have g6:=(hb6.block _ hl5).trans g5)|(go_at_fn 62;refine (HHAS.out _ _ _ ht6).mono ?_;rintro r w7 ⟨rfl,hb7⟩;have hb37:=(hb5.trans (hb6.mono hz5)).trans (hb7.mono (Nat.le_trans hz5 hb6.size))))
                    exact ⟨⟨j+1,false,by omega,by go_num,rfl,Lib.hid (by rw [HSN.out,hhF.out];rfl),hb37⟩,by simp [intOf];omega⟩
                  | true =>
                    go_wp2_with (first|(go_at_call 61;refine HI5.out.mono ?_;rintro r w6 ⟨a6,c6,rfl,ht6,hb6⟩;have g6:=(hb6.block _ hl5).trans g5)|(go_at_fn 62;refine (HHAS.out _ _ _ ht6).mono ?_;rintro r w7 ⟨rfl,hb7⟩;have g7:=(hb7.block _ (Nat.lt_of_lt_of_le hl5 hb6.size)).trans g6;obtain ⟨r0,r1,r2,r3,r4,r5,r6,r7,rz⟩:=expr_cells g7;have hb37:=(hb5.trans (hb6.mono hz5)).trans (hb7.mono (Nat.le_trans hz5 hb6.size))))
                    all_goals
                      refine ⟨⟨j+1,hh,by omega,by go_num,?_,Lib.hid (by rw [HSN.out];rfl),hb37⟩,by simp [intOf];omega⟩
                      rw [← HHB.out]
                      congr 1
                      clear HSN HHB HHAS HI5
                      first
                        | (have hh2:¬ op=22:=by omega
                           simp [hh2])
                        | (have hh2:op=22:=by omega
                           have hj0:j=0:=by omega
                           simp [hh2,hj0])
                        | (have hh2:op=22:=by omega
                           have hj0:¬ j=0:=by omega
                           by_cases hk1:nm=x
                           · simp [hh2,hj0,hk1]
                           · simp [hh2,hj0,hk1])
                        | (trace_state;sorry)
              · obtain rfl:j=ks.length:=by omega
                have hkI2:decide ((ks.length:Int)<(ks.length:Int))=false:=decide_eq_false (by omega)
                obtain rfl:bj=true:=by rw [← HBJ.out,List.take_length];exact HH.out
                clear HBJ HH HF HB0 HCN
                go_wp2
                go_roundw
                case rel=>exact ⟨k+1,by omega,by go_num,hbl.trans (hb4.mono (by omega))⟩
                case measure=>simp [intOf];omega
      · obtain rfl:k=N.length:=by omega
        have hkI:decide ((N.length:Int)<(N.length:Int))=false:=decide_eq_false (by omega)
        obtain ⟨w3,rfl⟩:∃ w3:World,w3=wr:=⟨_,rfl⟩
        obtain ⟨r0,r1,r2,r3,r4,r5,r6,r7,rz⟩:=expr_cells G0
        have HTN3:=Lib.hid (HTN.out.below hbl)
        clear HHIT HRIS HTN HCN
        go_upto_region 18 with fail
        clear r0 r1 r2 r3 r4 r5 r6 r7 rz
        go_loopw [81] (fun q wr=>∃ j:Nat,j≤ks.length∧q=.int .i64 j∧Below w3.heap.size w3 wr) (fun q _=>ks.length - (intOf q).toNat)
        case atStart=>exact ⟨0,Nat.zero_le _,rfl,Below.refl _ _⟩
        case round =>
          obtain ⟨j,hj,rfl,hb4⟩:=hrel
          have hz4:=hb4.size
          have hbw4:=hbwr.trans (hb4.mono hbwr.size)
          have hl0:=(Array.getElem?_eq_some_iff.1 G0).1
          have G04:=(hb4.block _ hl0).trans G0
          by_cases hlt2:j<ks.length
          · obtain ⟨w4,rfl⟩:∃ w4:World,w4=wr:=⟨_,rfl⟩
            obtain ⟨kb,ko,rfl,hbB,hbb,hkid⟩:=HF.out (by omega)
            obtain ⟨m,kv,hE,hc⟩:=hkid j hlt2
            have hmem:ks[j]∈ks:=List.getElem_mem hlt2
            have hle:=sizeE_mem ks _ hmem
            have hyl:=ks[j].freeL_len
            have hBK:=HBACK.out j hlt2
            have IHx:=IH.out _ hmem
            have hLx:=HLK.out _ hmem
            obtain ⟨am1,wn1,cm1,ae1,ce1,rfl,rfl⟩:=hE.slX
            have hkI2:(j:Int)<(ks.length:Int):=by omega
            generalize ks[j]=y at hE hc hle hyl hBK IHx hLx
            have y0:=(hbw4.cell (p:=⟨kb,ko+j * 8,none⟩) hbb).trans (hc 0 _ rfl)
            have y1:=(hbw4.cell (p:=⟨kb,ko+j * 8+1,none⟩) hbb).trans (hc 1 _ rfl)
            have y2:=(hbw4.cell (p:=⟨kb,ko+j * 8+2,none⟩) hbb).trans (hc 2 _ rfl)
            have y3:=(hbw4.cell (p:=⟨kb,ko+j * 8+3,none⟩) hbb).trans (hc 3 _ rfl)
            have y4:=(hbw4.cell (p:=⟨kb,ko+j * 8+4,none⟩) hbb).trans (hc 4 _ rfl)
            have y5:=(hbw4.cell (p:=⟨kb,ko+j * 8+5,none⟩) hbb).trans (hc 5 _ rfl)
            have y6:=(hbw4.cell (p:=⟨kb,ko+j * 8+6,none⟩) hbb).trans (hc 6 _ rfl)
            have y7:=(hbw4.cell (p:=⟨kb,ko+j * 8+7,none⟩) hbb).trans (hc 7 _ rfl)
            simp only [strV] at y1 y2
            have HE:=Lib.hid hE
            have HBK:=Lib.hid hBK
            have HIX:=Lib.hid (fun W (hW:Below w.heap.size w W)=>IHx B am1 wn1 cm1 ae1 ce1 W (HE.out.frame (Alk.ofB hW fun b hb=>by omega)) (Nat.le_trans hB hW.size) (by omega) hLx)
            have HIF:=Lib.hid (fun W (hW:Below w.heap.size w W)=>freeS_any y B am1 wn1 cm1 ae1 ce1 W (HE.out.frame (Alk.ofB hW fun b hb=>by omega)) (Nat.le_trans hB hW.size) (by omega))
            have hy4:y.freeL.length≤1000000:=by omega
            clear hkid hc hE hmem hle hyl hBK IHx hLx HF HBACK IH HLK HE
            go_upto_region 20 with fail
            clear y0 y1 y2 y3 y4 y5 y6 y7
            have gk:=heap_alloc_new w4 (.cells #[.int .i64 y.op,.string ⟨y.name.toArray⟩,.string ⟨y.module.toArray⟩,.bool (decide (y.num<0)),.slice am1 wn1 cm1,.bool y.yes,.slice ae1 y.kids.length ce1,.int .i64 y.at_] 40)
            have hb5:=hb4.alloc hz4 (.cells #[.int .i64 y.op,.string ⟨y.name.toArray⟩,.string ⟨y.module.toArray⟩,.bool (decide (y.num<0)),.slice am1 wn1 cm1,.bool y.yes,.slice ae1 y.kids.length ce1,.int .i64 y.at_] 40)
            generalize hK4:w4.heap.size=K4 at *
            generalize w4.alloc _=w5 at *
            clear hK4 hbw4 G04 hb4
            have hz5:=hb5.size
            have hbw5:=hbwr.trans (hb5.mono hbwr.size)
            have G05:=(hb5.block _ hl0).trans G0
            have hlk:=(Array.getElem?_eq_some_iff.1 gk).1
            obtain ⟨k0,k1,k2,k3,k4,k5,k6,k7,kz⟩:=expr_cells gk
            have HI5:=Lib.hid (HIX.out w5 hbw5)
            clear HIX
            go_upto_region 22 with (go_at_call 23;refine HI5.out.mono ?_;rintro r w6 ⟨rfl,hb6⟩)
            have gk6:=(hb6.block _ hlk).trans gk
            have hbw6:=hbw5.trans (hb6.mono hbw5.size)
            have hb36:=hb5.trans (hb6.mono hz5)
            clear k0 k1 k2 k3 k4 k5 k6 k7 kz HI5 gk
            obtain ⟨k0,k1,k2,k3,k4,k5,k6,k7,kz⟩:=expr_cells gk6
            have HI6:=Lib.hid (HIF.out w6 hbw6)
            clear HIF
            go_upto_region 23 with (go_at_call 61;refine HI6.out.mono ?_;rintro r w7 ⟨a7,c7,rfl,ht7,hb7⟩)
            have hb37:=hb36.trans (hb7.mono hb36.size)
            obtain ⟨a7',c7',hv7,_,hc7⟩:=ht7.slice
            simp only [Value.slice.injEq] at hv7
            obtain ⟨rfl,-,rfl⟩:=hv7
            have HC7:=Lib.hid hc7
            have hz7:=hb37.size
            have G07:=(hb37.block _ hl0).trans G0
            clear k0 k1 k2 k3 k4 k5 k6 k7 kz HI6 gk6 hc7 ht7 hb5 hbw5 G05 hb6 hb7 hb36 hbw6
            generalize y.freeL=YL at *
            go_loopw [92] (fun q wr=>∃ k:Nat,k≤YL.length∧q=.int .i64 k∧Below w7.heap.size w7 wr) (fun q _=>YL.length - (intOf q).toNat)
            case atStart=>exact ⟨0,Nat.zero_le _,rfl,Below.refl _ _⟩
            case round =>
              obtain ⟨k,hk,rfl,hb8⟩:=hrel
              by_cases hlt3:k<YL.length
              · obtain ⟨w8,rfl⟩:∃ w8:World,w8=wr:=⟨_,rfl⟩
                obtain ⟨b7,o7,rfl,_,hbw7,hcell⟩:=HC7.out (by omega)
                have x0:=(hb8.cell (p:=⟨b7,o7+k,none⟩) hbw7).trans (hcell k hlt3)
                have HBX:=Lib.hid (HBK.out _ (List.getElem_mem hlt3))
                have hkI3:(k:Int)<(YL.length:Int):=by omega
                generalize YL[k]=x at *
                have hb38:=hb37.trans (hb8.mono hz7)
                have HHAS:=Lib.hid (hasL_any _ an cn N x w8 (HTN3.out.below hb38) (by omega))
                have G08:=(hb38.block _ hl0).trans G0
                clear hcell HC7 HBK HTN3 G0 G07
                obtain ⟨m,hm0⟩:∃ m,decide (x∈N)=m:=⟨_,rfl⟩
                rw [hm0] at HHAS HBX
                clear hm0
                have entH:=Tryz.entersHas
                cases m with
                | true =>
                  clear HBX
                  go_wp2_with (go_at_fn 62;refine HHAS.out.mono ?_;rintro r w9 ⟨rfl,hb9⟩;have g9:=(hb9.block _ (Nat.lt_of_lt_of_le hl0 hb38.size)).trans G08;obtain ⟨r0,r1,r2,r3,r4,r5,r6,r7,rz⟩:=expr_cells g9)
                  go_roundw
                  case rel=>exact ⟨k+1,by omega,by go_num,hb8.trans (hb9.mono hb8.size)⟩
                  case measure=>simp [intOf];omega
                | false =>
                  obtain ⟨h22,hj0,hnx⟩:op=22∧¬ j=0∧nm=x:=by
                    have hq:=HBX.out
                    simp only [Bool.not_false,Bool.true_and,Bool.or_eq_false_iff,decide_eq_false_iff_not,Classical.not_not,ne_eq] at hq
                    exact ⟨hq.1.1,hq.1.2,hq.2⟩
                  subst h22
                  subst hnx
                  have hj0I:((j:Int) == 0)=false:=by simp;omega
                  clear HBX hj0
                  go_wp2_with (go_at_fn 62;refine HHAS.out.mono ?_;rintro r w9 ⟨rfl,hb9⟩;have g9:=(hb9.block _ (Nat.lt_of_lt_of_le hl0 hb38.size)).trans G08;obtain ⟨r0,r1,r2,r3,r4,r5,r6,r7,rz⟩:=expr_cells g9)
                  go_roundw
                  case rel =>
                    repeat apply Exists.intro
                    exact ⟨⟨k+1,by omega,by go_num,hb8.trans (hb9.mono hb8.size)⟩,rfl⟩
                  case measure=>simp [intOf];omega
              · obtain rfl:k=YL.length:=by omega
                have hkI3:decide ((YL.length:Int)<(YL.length:Int))=false:=decide_eq_false (by omega)
                clear HBK HC7 HTN3
                go_wp2
                go_roundw
                case rel=>exact ⟨j+1,by omega,by go_num,hb37.trans (hb8.mono hz7)⟩
                case measure=>simp [intOf];omega
          · obtain rfl:j=ks.length:=by omega
            have hkI2:decide ((ks.length:Int)<(ks.length:Int))=false:=decide_eq_false (by omega)
            clear HF HBACK IH HLK
            go_wp2
            go_ret
            exact ⟨rfl,hbw4⟩
theorem lfree_any:∀ (n:Nat) (e:PE),SizeOf.sizeOf e<n→LawF e
  | 0,e,hs=>absurd hs (by omega)
  | n+1,e,hs=>lfree_step e fun x hx=>lfree_any n x (by have:=kids_sizeOf e x hx;omega)
end Go.Proofs.YtbodlpoomfefcaaGreatDoor

namespace Go.Proofs.YtbodlpoomfefcaaGreatDoor
def tPub:List UInt8:=[112,117,98]
def tImport:List UInt8:=[105,109,112,111,114,116]
def tFun:List UInt8:=[102,117,110]
def tInt:List UInt8:=[105,110,116]
def tBool:List UInt8:=[98,111,111,108]
def colonM (toks:List Tok)(st:PSt):Int × PSt:=mustM toks [[58]] st
def bwordM (toks:List Tok)(st:PSt):Int × PSt:=mustM toks [tInt,tBool] (colonM toks st).2
def baseM (toks:List Tok)(st:PSt):Int × PSt:=nodeM 5 [(bwordM toks st).1] (bwordM toks st).2
def setC (st:PSt)(c:Bool):PSt:={ st with clause:=c }
def clauseM (toks:List Tok)(d g:Nat)(st:PSt):Option (Int × PSt) :=
 (run toks d g (.expr 1) (setC (leafM toks st).2 true)).bind fun f =>
  some (nodeM 6 [(leafM toks st).1,f.1,(mustM toks [[125]] (setC f.2 st.clause)).1] (mustM toks [[125]] (setC f.2 st.clause)).2)
def typedM (toks:List Tok)(d g:Nat)(kids:List Int)(st:PSt):Option (List Int × PSt) :=
 if (baseM toks st).2.fE=0∧nextF toks (baseM toks st).2 [[123]]=true then
  (clauseM toks d g (baseM toks st).2).bind fun n=>some (kids++[(colonM toks st).1,(baseM toks st).1,n.1],n.2)
 else some (kids++[(colonM toks st).1,(baseM toks st).1],(baseM toks st).2)
def paramM (toks:List Tok)(d g:Nat)(st:PSt):Option (Int × PSt) :=
 (typedM toks d g [(kindM toks 1 st).1] (kindM toks 1 st).2).bind fun l=>some (nodeM 4 l.1 l.2)
def importM (toks:List Tok)(st:PSt):Int × PSt :=
 nodeM 2 [(leafM toks st).1,(kindM toks 1 (leafM toks st).2).1,(mustM toks [[59]] (kindM toks 1 (leafM toks st).2).2).1] (mustM toks [[59]] (kindM toks 1 (leafM toks st).2).2).2
def pubM (toks:List Tok)(st:PSt):List Int × PSt:=if nextF toks st [tPub]=true then ([(leafM toks st).1],(leafM toks st).2) else ([],st)
def funM (toks:List Tok)(st:PSt):Int × PSt:=mustM toks [tFun] (pubM toks st).2
def fnameM (toks:List Tok)(st:PSt):Int × PSt:=kindM toks 1 (funM toks st).2
def fopenM (toks:List Tok)(st:PSt):Int × PSt:=mustM toks [[40]] (fnameM toks st).2
def defM (toks:List Tok)(d g:Nat)(st:PSt):Option (Int × PSt) :=
 (listM toks (paramM toks d g) (fopenM toks st).2).bind fun l =>
  (typedM toks d g ((pubM toks st).1++[(funM toks st).1,(fnameM toks st).1,(fopenM toks st).1]++l.1++[(mustM toks [[41]] l.2).1]) (mustM toks [[41]] l.2).2).bind fun t =>
   (run toks d g (.expr 1) (mustM toks [[61]] t.2).2).bind fun f =>
    some (nodeM 3 (t.1++[(mustM toks [[61]] t.2).1,f.1,(mustM toks [[59]] f.2).1]) (mustM toks [[59]] f.2).2)
def sevM (toks:List Tok)(one:PSt→Option (Int × PSt))(first:List (List UInt8)):Nat→List Int→PSt→Option (List Int × PSt)
 | 0,kids,st=>some (kids,if st.fE=0∧nextF toks st first=true then failM toks 15 st else st)
 | r+1,kids,st=>if st.fE=0∧nextF toks st first=true then (one st).bind fun k=>sevM toks one first r (kids++[k.1]) k.2 else some (kids,st)
def progM (toks:List Tok)(d g:Nat)(st:PSt):Option (Int × PSt) :=
 (sevM toks (fun s=>some (importM toks s)) [tImport] 16 [] st).bind fun a =>
  (sevM toks (defM toks d g) [tPub,tFun] 64 [] a.2).bind fun b =>
   some (nodeM 1 (a.1++b.1++[(kindM toks 5 b.2).1]) (kindM toks 5 b.2).2)
def progF (S:List UInt8)(d:Nat):FRes :=
 match lexAll S with
 | .error x=>.bad x.1 x.2
 | .ok toks=>match progM toks d (gasA toks) startP with
  | none=>.bad 99 0
  | some a=>ofSt toks a.2
theorem baseM_ext (toks:List Tok)(st:PSt):PExt st (baseM toks st).2:=((mustM_ext _ _ _).trans (mustM_ext _ _ _)).trans (nodeM_ext _ _ _)
theorem clauseM_ext {toks:List Tok}{d g:Nat}{st:PSt}{r:Int × PSt}(h:clauseM toks d g st=some r):PExt st r.2:=by
 unfold clauseM at h
 obtain ⟨f,h1,h⟩:=Option.bind_eq_some_iff.1 h
 obtain rfl:=Option.some.inj h
 have e1:=leafM_ext toks st
 have e2:=run_ext toks d g _ _ _ h1
 have e3:PExt st (setC f.2 st.clause):=⟨Nat.le_trans e1.1 e2.1,fun q=>by
  have q1:=e1.2.1 q
  have q2:=e2.2.1 (show (leafM toks st).2.fE≠0 by rw [q1];exact q)
  exact q2.trans q1,rfl,Nat.le_trans e1.2.2.2 e2.2.2.2⟩
 exact (e3.trans (mustM_ext _ _ _)).trans (nodeM_ext _ _ _)
theorem typedM_ext {toks:List Tok}{d g:Nat}{kids:List Int}{st:PSt}{r:List Int × PSt}(h:typedM toks d g kids st=some r):PExt st r.2:=by
 unfold typedM at h
 split at h
 ·obtain ⟨n,h1,h⟩:=Option.bind_eq_some_iff.1 h
  obtain rfl:=Option.some.inj h
  exact (baseM_ext _ _).trans (clauseM_ext h1)
 ·injection h with h;subst h
  exact baseM_ext _ _
theorem paramM_ext {toks:List Tok}{d g:Nat}(st:PSt)(r:Int × PSt)(h:paramM toks d g st=some r):PExt st r.2:=by
 unfold paramM at h
 obtain ⟨l,h1,h⟩:=Option.bind_eq_some_iff.1 h
 obtain rfl:=Option.some.inj h
 exact ((kindM_ext _ _ _).trans (typedM_ext h1)).trans (nodeM_ext _ _ _)
theorem importM_ext (toks:List Tok)(st:PSt):PExt st (importM toks st).2:=(((leafM_ext _ _).trans (kindM_ext _ _ _)).trans (mustM_ext _ _ _)).trans (nodeM_ext _ _ _)
theorem pubM_ext (toks:List Tok)(st:PSt):PExt st (pubM toks st).2:=by
 unfold pubM
 split
 ·exact leafM_ext _ _
 ·exact PExt.refl _
theorem fopenM_ext (toks:List Tok)(st:PSt):PExt st (fopenM toks st).2:=(((pubM_ext _ _).trans (mustM_ext _ _ _)).trans (kindM_ext _ _ _)).trans (mustM_ext _ _ _)
theorem defM_ext {toks:List Tok}{d g:Nat}(st:PSt)(r:Int × PSt)(h:defM toks d g st=some r):PExt st r.2:=by
 unfold defM at h
 obtain ⟨l,h1,h⟩:=Option.bind_eq_some_iff.1 h
 obtain ⟨t,h2,h⟩:=Option.bind_eq_some_iff.1 h
 obtain ⟨f,h3,h⟩:=Option.bind_eq_some_iff.1 h
 obtain rfl:=Option.some.inj h
 exact ((((((fopenM_ext _ _).trans (listM_ext toks _ paramM_ext _ _ h1)).trans (mustM_ext _ _ _)).trans (typedM_ext h2)).trans (mustM_ext _ _ _)).trans (run_ext _ _ _ _ _ _ h3)).trans ((mustM_ext _ _ _).trans (nodeM_ext _ _ _))
theorem sevM_ext {toks:List Tok}{one:PSt→Option (Int × PSt)}{first:List (List UInt8)}(h1:∀ s k,one s=some k→PExt s k.2):∀ (r:Nat) (kids:List Int) (st:PSt) (l:List Int × PSt),sevM toks one first r kids st=some l→PExt st l.2
 | 0,kids,st,l,h=>by
  rw [sevM] at h
  obtain rfl:=Option.some.inj h
  show PExt st (if _ then _ else _)
  split
  ·exact failM_ext _ _ _
  ·exact PExt.refl _
 | r+1,kids,st,l,h=>by
  rw [sevM] at h
  split at h
  ·obtain ⟨k,hk,h⟩:=Option.bind_eq_some_iff.1 h
   exact (h1 _ _ hk).trans (sevM_ext h1 r _ _ _ h)
  ·injection h with h;subst h
   exact PExt.refl _
theorem importO_ext (toks:List Tok)(s:PSt)(k:Int × PSt)(h:(fun s=>some (importM toks s)) s=some k):PExt s k.2:=by
 obtain rfl:=Option.some.inj h
 exact importM_ext _ _
theorem clauseM_wth {toks:List Tok}{d g:Nat}{st:PSt}{r:Int × PSt}(h:clauseM toks d g st=some r):Wth toks st r.2:=by
 unfold clauseM at h
 obtain ⟨f,h1,h⟩:=Option.bind_eq_some_iff.1 h
 obtain rfl:=Option.some.inj h
 have e2:=run_wth toks d g _ _ _ h1
 have e3:Wth toks st (setC f.2 st.clause):=fun q=>e2 (leafM_wth toks st q)
 exact (e3.trans (mustM_wth _ _ _)).trans (nodeM_wth _ _ _)
theorem typedM_wth {toks:List Tok}{d g:Nat}{kids:List Int}{st:PSt}{r:List Int × PSt}(h:typedM toks d g kids st=some r):Wth toks st r.2:=by
 have hb:Wth toks st (baseM toks st).2:=((mustM_wth _ _ _).trans (mustM_wth _ _ _)).trans (nodeM_wth _ _ _)
 unfold typedM at h
 split at h
 ·obtain ⟨n,h1,h⟩:=Option.bind_eq_some_iff.1 h
  obtain rfl:=Option.some.inj h
  exact hb.trans (clauseM_wth h1)
 ·injection h with h;subst h
  exact hb
theorem paramM_wth {toks:List Tok}{d g:Nat}(st:PSt)(r:Int × PSt)(h:paramM toks d g st=some r):Wth toks st r.2:=by
 unfold paramM at h
 obtain ⟨l,h1,h⟩:=Option.bind_eq_some_iff.1 h
 obtain rfl:=Option.some.inj h
 exact ((kindM_wth _ _ _).trans (typedM_wth h1)).trans (nodeM_wth _ _ _)
theorem importO_wth (toks:List Tok)(s:PSt)(k:Int × PSt)(h:(fun s=>some (importM toks s)) s=some k):Wth toks s k.2:=by
 obtain rfl:=Option.some.inj h
 exact (((leafM_wth _ _).trans (kindM_wth _ _ _)).trans (mustM_wth _ _ _)).trans (nodeM_wth _ _ _)
theorem fopenM_wth (toks:List Tok)(st:PSt):Wth toks st (fopenM toks st).2:=by
 have hp:Wth toks st (pubM toks st).2:=by
  unfold pubM
  split
  ·exact leafM_wth _ _
  ·exact Wth.refl _
 exact ((hp.trans (mustM_wth _ _ _)).trans (kindM_wth _ _ _)).trans (mustM_wth _ _ _)
theorem defM_wth {toks:List Tok}{d g:Nat}(st:PSt)(r:Int × PSt)(h:defM toks d g st=some r):Wth toks st r.2:=by
 unfold defM at h
 obtain ⟨l,h1,h⟩:=Option.bind_eq_some_iff.1 h
 obtain ⟨t,h2,h⟩:=Option.bind_eq_some_iff.1 h
 obtain ⟨f,h3,h⟩:=Option.bind_eq_some_iff.1 h
 obtain rfl:=Option.some.inj h
 exact ((((((fopenM_wth _ _).trans (listM_wth toks _ paramM_wth _ _ h1)).trans (mustM_wth _ _ _)).trans (typedM_wth h2)).trans (mustM_wth _ _ _)).trans (run_wth _ _ _ _ _ _ h3)).trans ((mustM_wth _ _ _).trans (nodeM_wth _ _ _))
theorem sevM_wth {toks:List Tok}{one:PSt→Option (Int × PSt)}{first:List (List UInt8)}(h1:∀ s k,one s=some k→Wth toks s k.2):∀ (r:Nat) (kids:List Int) (st:PSt) (l:List Int × PSt),sevM toks one first r kids st=some l→Wth toks st l.2
 | 0,kids,st,l,h=>by
  rw [sevM] at h
  obtain rfl:=Option.some.inj h
  show Wth toks st (if _ then _ else _)
  split
  ·exact failM_wth _ _ _
  ·exact Wth.refl _
 | r+1,kids,st,l,h=>by
  rw [sevM] at h
  split at h
  ·obtain ⟨k,hk,h⟩:=Option.bind_eq_some_iff.1 h
   exact (h1 _ _ hk).trans (sevM_wth h1 r _ _ _ h)
  ·injection h with h;subst h
   exact Wth.refl _
theorem progM_wth {toks:List Tok}{d g:Nat}{st:PSt}{r:Int × PSt}(h:progM toks d g st=some r):Wth toks st r.2:=by
 unfold progM at h
 obtain ⟨a,h1,h⟩:=Option.bind_eq_some_iff.1 h
 obtain ⟨b,h2,h⟩:=Option.bind_eq_some_iff.1 h
 obtain rfl:=Option.some.inj h
 exact (((sevM_wth (importO_wth toks) _ _ _ _ h1).trans (sevM_wth defM_wth _ _ _ _ h2)).trans (kindM_wth _ _ _)).trans (nodeM_wth _ _ _)
theorem clauseM_deeper {toks:List Tok}{d d' g:Nat}(hdd:d≤d'){st:PSt}{r:Int × PSt}(h:clauseM toks d g st=some r)(hr:r.2.fE=0):clauseM toks d' g st=some r:=by
 unfold clauseM at h ⊢
 obtain ⟨f,h1,h⟩:=Option.bind_eq_some_iff.1 h
 obtain rfl:=Option.some.inj h
 have h0:(setC f.2 st.clause).fE=0:=((mustM_ext _ _ _).trans (nodeM_ext _ _ _)).zero hr
 rw [run_deeper toks d d' hdd g _ _ _ h1 h0,Option.bind_some]
theorem typedM_deeper {toks:List Tok}{d d' g:Nat}(hdd:d≤d'){kids:List Int}{st:PSt}{r:List Int × PSt}(h:typedM toks d g kids st=some r)(hr:r.2.fE=0):typedM toks d' g kids st=some r:=by
 unfold typedM at h ⊢
 split at h
 ·rename_i hc
  rw [if_pos hc]
  obtain ⟨n,h1,h⟩:=Option.bind_eq_some_iff.1 h
  obtain rfl:=Option.some.inj h
  rw [clauseM_deeper hdd h1 hr,Option.bind_some]
 ·rename_i hc
  rw [if_neg hc]
  exact h
theorem paramM_deeper {toks:List Tok}{d d' g:Nat}(hdd:d≤d')(st:PSt)(r:Int × PSt)(h:paramM toks d g st=some r)(hr:r.2.fE=0):paramM toks d' g st=some r:=by
 unfold paramM at h ⊢
 obtain ⟨l,h1,h⟩:=Option.bind_eq_some_iff.1 h
 obtain rfl:=Option.some.inj h
 rw [typedM_deeper hdd h1 ((nodeM_ext _ _ _).zero hr),Option.bind_some]
theorem defM_deeper {toks:List Tok}{d d' g:Nat}(hdd:d≤d')(st:PSt)(r:Int × PSt)(h:defM toks d g st=some r)(hr:r.2.fE=0):defM toks d' g st=some r:=by
 unfold defM at h ⊢
 obtain ⟨l,h1,h⟩:=Option.bind_eq_some_iff.1 h
 obtain ⟨t,h2,h⟩:=Option.bind_eq_some_iff.1 h
 obtain ⟨f,h3,h⟩:=Option.bind_eq_some_iff.1 h
 obtain rfl:=Option.some.inj h
 have z3:f.2.fE=0:=((mustM_ext _ _ _).trans (nodeM_ext _ _ _)).zero hr
 have z2:t.2.fE=0:=((mustM_ext _ _ _).trans (run_ext _ _ _ _ _ _ h3)).zero z3
 have z1:l.2.fE=0:=((mustM_ext _ _ _).trans (typedM_ext h2)).zero z2
 rw [listM_deeper toks _ _ paramM_ext (paramM_deeper hdd) _ _ h1 z1,Option.bind_some,typedM_deeper hdd h2 z2,Option.bind_some,run_deeper toks d d' hdd g _ _ _ h3 z3,Option.bind_some]
theorem sevM_deeper {toks:List Tok}{one one':PSt→Option (Int × PSt)}{first:List (List UInt8)}(h1:∀ s k,one s=some k→PExt s k.2)(h2:∀ s k,one s=some k→k.2.fE=0→one' s=some k):∀ (r:Nat) (kids:List Int) (st:PSt) (l:List Int × PSt),sevM toks one first r kids st=some l→l.2.fE=0→sevM toks one' first r kids st=some l
 | 0,kids,st,l,h,_=>by rw [sevM] at h ⊢;exact h
 | r+1,kids,st,l,h,hl=>by
  rw [sevM] at h ⊢
  split at h
  ·rename_i hc
   rw [if_pos hc]
   obtain ⟨k,hk,h⟩:=Option.bind_eq_some_iff.1 h
   rw [h2 _ _ hk ((sevM_ext h1 r _ _ _ h).zero hl),Option.bind_some]
   exact sevM_deeper h1 h2 r _ _ _ h hl
  ·rename_i hc
   rw [if_neg hc]
   exact h
theorem progM_deeper {toks:List Tok}{d d' g:Nat}(hdd:d≤d'){st:PSt}{r:Int × PSt}(h:progM toks d g st=some r)(hr:r.2.fE=0):progM toks d' g st=some r:=by
 unfold progM at h ⊢
 obtain ⟨a,h1,h⟩:=Option.bind_eq_some_iff.1 h
 obtain ⟨b,h2,h⟩:=Option.bind_eq_some_iff.1 h
 obtain rfl:=Option.some.inj h
 have z2:b.2.fE=0:=((kindM_ext _ _ _).trans (nodeM_ext _ _ _)).zero hr
 rw [h1,Option.bind_some,sevM_deeper defM_ext (defM_deeper hdd) _ _ _ _ h2 z2,Option.bind_some]
end Go.Proofs.YtbodlpoomfefcaaGreatDoor
