/- Walks and plain laws: PrgW, Law. -/
import Derived.Test.YtemkhbmkaalgdaaGreatDoorQ41
import Derived.Test.YtemkhbmkaalgdaaGreatDoorRows
import Derived.ProofKit
import Derived.OpenShut
import Derived.OpenVars
set_option maxHeartbeats 16000000
set_option maxRecDepth 100000
set_option linter.unusedVariables false
set_option linter.unusedSimpArgs false
namespace Go.Proofs.YtemkhbmkaalgdaaGreatDoor
open Go.RowKit Go
theorem defR_cells {w:World}{b:Nat}{c0 c1 c2 c3 c4 c5 c6 c7 c8 c9 c10 c11 c12 c13:Value}(h:w.heap[b]?=some (.cells #[c0,c1,c2,c3,c4,c5,c6,c7,c8,c9,c10,c11,c12,c13] 80 (0,0))):w.cell? ⟨b,1,none⟩=some c1∧w.cell? ⟨b,5,none⟩=some c5∧w.cell? ⟨b,7,none⟩=some c7∧w.cell? ⟨b,8,none⟩=some c8∧w.cell? ⟨b,9,none⟩=some c9∧w.cell? ⟨b,10,none⟩=some c10∧w.cell? ⟨b,11,none⟩=some c11∧w.cell? ⟨b,12,none⟩=some c12∧w.cell? ⟨b,13,none⟩=some c13:=by
  refine ⟨?_,?_,?_,?_,?_,?_,?_,?_,?_⟩ <;> (rw [Lib.cell_of_heap h];rfl)
structure AtsOk (w0:World) (x:PE) (am:Option Addr) (wn cm:Nat) (ae:Option Addr) (ce:Nat) (ae3:Option Addr) (ce3:Nat):Prop where
  a:∀ W,Below w0.heap.size w0 W→Calls Tryz.prog 23 #[.agg #[.int .i64 x.op,.string ⟨x.name.toArray⟩,.string ⟨x.module.toArray⟩,.bool (decide (x.num<0)),.slice am wn cm,.bool x.yes,.slice ae x.kids.length ce,.int .i64 x.at_]] W (RowV w0 x.ats W)
  r:∀ W,Below w0.heap.size w0 W→Calls Tryz.prog 24 #[.agg #[.int .i64 x.op,.string ⟨x.name.toArray⟩,.string ⟨x.module.toArray⟩,.string ⟨x.txt.toArray⟩,.bool x.yes,.slice ae3 x.kids.length ce3,.int .i64 x.at_]] W (RowV w0 x.ats W)
  len:x.ats.length≤1099511627776
theorem atsOk {w0:World}{x:PE}{am:Option Addr}{wn cm:Nat}{ae:Option Addr}{ce:Nat}{ae3:Option Addr}{ce3:Nat}{m3:Value}(hz:x.size≤1099511627776)(h:EAt XA (fun b=>b<w0.heap.size) w0 (.slice am wn cm) (.slice ae x.kids.length ce) x)(h3:EAt XR (fun b=>b<w0.heap.size) w0 m3 (.slice ae3 x.kids.length ce3) x):AtsOk w0 x am wn cm ae ce ae3 ce3 :=
  ⟨fun W hW=>(ats_any (SizeOf.sizeOf x+1) x (by omega) w0.heap.size am wn cm ae ce W (h.frame (Alk.ofB hW fun b hb=>hb)) hW.size hz).mono fun e w' h=>h.v hW,
   fun W hW=>(rats_any (SizeOf.sizeOf x+1) x (by omega) w0.heap.size m3 ae3 ce3 W (h3.frame (Alk.ofB hW fun b hb=>hb)) hW.size hz).mono fun e w' h=>h.v hW,
   by rw [x.ats_len];exact hz⟩
theorem prg_good (s:ByteArray)(w:World)(hs:s.size≤1500)(toks:List Tok)(nodes:List Nd)(h:progF s.data.toList 100=.good toks nodes) :
    Calls Tryz.prog 5 #[.string s] w fun e w'=>e=.returned (.bool true)∧Below w.heap.size w w':=by
  obtain ⟨p,F⟩:=prog_good (by omega) h
  have hft:=F.good.fewt
  have hfn:=F.good.few
  have HF:=Lib.hid (fun W=>parse_any s 100 W (by omega) (by omega) (by omega))
  rw [h] at HF
  have hs':s.data.toList.length≤1500:=by rw [size_list];exact hs
  have HO:=Lib.hid (fun B at_ ct an cn W hT hB=>of_yes B at_ ct an cn s toks nodes p W hT hB F)
  have HFO:=Lib.hid (fun B at_ ct an cn W hT hB=>fof_yes B at_ ct an cn s toks nodes p W hT hB F)
  have D1:=F.dumpOk hs'
  have D2:=F.eraseOk hs'
  have htold:=F.told
  generalize hpp:p.pp toks=pp at HO HFO D1 D2 htold
  have hops:pp.all PE.opsOk:=fun d hd=>⟨fun f hf e he=>PE.fits_opsP ((D1.fits d hd).1 f hf e he),fun e he=>PE.fits_opsP ((D1.fits d hd).2.1 e he),PE.fits_opsP (D1.fits d hd).2.2⟩
  have hdT:pp.all fun e=>e.dumpT.length≤20000000:=fun d hd=>⟨fun f hf e he=>by show e.dumpT.length≤20000000;rw [PE.dump_told ((htold d hd).1 f hf e he)];exact (D1.dump d hd).1 f hf e he,fun e he=>by show e.dumpT.length≤20000000;rw [PE.dump_told ((htold d hd).2.1 e he)];exact (D1.dump d hd).2.1 e he,by show d.body.dumpT.length≤20000000;rw [PE.dump_told (htold d hd).2.2];exact (D1.dump d hd).2.2⟩
  have hT1:(pp.clP true).dumpT=pp.dump:=by rw [PP.clP_true,PP.dump_told htold]
  have hT2:(pp.clP false).dumpT=pp.erase.dump:=by rw [PP.clP_false,PP.dump_told (PP.all_erase htold)]
  obtain ⟨DX,hDX,eDX⟩:=bytes_of pp.dump
  obtain ⟨DE,hDE,eDE⟩:=bytes_of pp.erase.dump
  have HD1:=Lib.hid (fun B ai ci ad cd W (h:PAtA (fun b=>b<B) W (.slice ai pp.imports.length ci) (.slice ad pp.defs.length cd) pp) hB=>adump_any pp D1.small D1.fits D1.size D1.dump D1.len B ai ci ad cd W h hB)
  have HD2:=Lib.hid (fun B ai ci ad cd W (h:PAtA (fun b=>b<B) W (.slice ai pp.erase.imports.length ci) (.slice ad pp.erase.defs.length cd) pp.erase) hB=>adump_any pp.erase D2.small D2.fits D2.size D2.dump D2.len B ai ci ad cd W h hB)
  have HR1:=Lib.hid (fun B ai ci ad cd W (h:PAtR (fun b=>b<B) W (.slice ai pp.imports.length ci) (.slice ad pp.defs.length cd) pp) hB=>rpdump_any pp true D1.small hops D1.size hdT (by rw [hT1];exact D1.len) B ai ci ad cd W h hB)
  have HR2:=Lib.hid (fun B ai ci ad cd W (h:PAtR (fun b=>b<B) W (.slice ai pp.imports.length ci) (.slice ad pp.defs.length cd) pp) hB=>rpdump_any pp false D1.small hops D1.size hdT (by rw [hT2];exact D2.len) B ai ci ad cd W h hB)
  unfold StrPost at HD1 HD2 HR1 HR2
  rw [eDX] at HD1
  rw [eDE] at HD2
  rw [hT1,eDX] at HR1
  rw [hT2,eDE] at HR2
  have HE1:=Lib.hid (erase_any pp D1.small.ifew D1.small.dfew fun d hd=>(D1.small.defs d hd).few)
  have HB1:=Lib.hid (abare_any pp D1.small)
  have HB2:=Lib.hid (rbare_any pp D1.small)
  have hbl0:=dbares_len D1.small.defs D1.small.dfew
  have HBL:Hid (pp.bares.length≤1099511627776):=Lib.hid (by rw [PP.bares];omega)
  have HZ:=Lib.hid D1.size
  have HSM:=Lib.hid D1.small.defs
  have hd64:=D1.small.dfew
  generalize pp.erase=qq at HD2 HE1
  generalize pp.bares=bs at HB1 HB2 HBL
  have hsI:¬ ((1500:Int)<(s.size:Int)):=by omega
  have hdd:(DX.toList == DX.toList)=true:=beq_self_eq_true _
  have hde:(DE.toList == DE.toList)=true:=beq_self_eq_true _
  clear h F hpp D1 D2 htold hops hdT hT1 hT2 hDX hDE eDX eDE hbl0 hs'
  go_enter Tryz.func5,Tryz.ntmps5
  go_upto_region 6 with (first|(go_at_call 6;refine (anchor_any _).mono ?_;rintro e w1 ⟨rfl,hb1⟩)|(go_at_call 10;refine (HF.out _).mono ?_;rintro e w2 ⟨hb2,at_,ct,an,cn,rfl,hty⟩))
  have hb3:=(below_new w2 (.cells #[.slice at_ toks.length ct,.slice an nodes.length cn] 25)).alloc (by simp) (.cells #[.int .i64 0,.int .i64 0] 44)
  have e1:=(Lib.alloc_old (w2.alloc (.cells #[.slice at_ toks.length ct,.slice an nodes.length cn] 25)) (.cells #[.int .i64 0,.int .i64 0] 44) w2.heap.size (by simp)).trans (heap_alloc_new w2 (.cells #[.slice at_ toks.length ct,.slice an nodes.length cn] 25))
  have e2:=heap_alloc_new (w2.alloc (.cells #[.slice at_ toks.length ct,.slice an nodes.length cn] 25)) (.cells #[.int .i64 0,.int .i64 0] 44)
  rw [World.size_alloc] at e2
  have hbw:=(hb1.trans (hb2.mono hb1.size)).trans (hb3.mono (hb1.trans (hb2.mono hb1.size)).size)
  have hT:=hty.at.below hb3
  have hs3:w2.heap.size+1<((w2.alloc (.cells #[.slice at_ toks.length ct,.slice an nodes.length cn] 25)).alloc (.cells #[.int .i64 0,.int .i64 0] 44)).heap.size:=by simp
  clear hb1 hb2 hb3 HF hty
  generalize (w2.alloc _).alloc _=w3 at e1 e2 hbw hT hs3 ⊢
  generalize w2.heap.size=tb at e1 e2 hT hs3 ⊢
  obtain ⟨c0,c1⟩:=tree_cells e1
  have HOx:=Lib.hid (HO.out tb at_ ct an cn w3 hT (by omega))
  have HE12:=Lib.hid (And.intro e1 e2)
  clear e1 e2 HO
  go_upto_region 7 with (go_at_call 8;refine HOx.out.mono ?_;rintro e w4 ⟨ai,ci,ad,cd,rfl,hn4,hp4,hb4⟩)
  have hb5:=hb4.alloc hb4.size (.cells #[.slice ai pp.imports.length ci,.slice ad pp.defs.length cd] 31)
  have g5:=heap_alloc_new w4 (.cells #[.slice ai pp.imports.length ci,.slice ad pp.defs.length cd] 31)
  have hp5:PAtA (fun b=>b<w4.heap.size) (w4.alloc (.cells #[.slice ai pp.imports.length ci,.slice ad pp.defs.length cd] 31)) (.slice ai pp.imports.length ci) (.slice ad pp.defs.length cd) pp:=(hp4.imp (Q:=fun b=>b<w4.heap.size) fun b _ hl=>hl).frame ⟨by simp,fun b _ hl=>Lib.alloc_old _ _ _ hl⟩
  have hs5:w4.heap.size<(w4.alloc (.cells #[.slice ai pp.imports.length ci,.slice ad pp.defs.length cd] 31)).heap.size:=by simp
  have e15:=(hb5.block tb (by omega)).trans HE12.out.1
  have e25:=(hb5.block (tb+1) hs3).trans HE12.out.2
  have hbw5:=hbw.trans (hb5.mono hbw.size)
  have hT5:=hT.below (hb5.mono (by omega))
  have htx:=hb4.size
  clear c0 c1 HOx hT hp4 hb4 hbw hb5 HE12
  generalize hxx:w4.heap.size=pb at g5 hp5 hs5 htx ⊢
  clear hxx
  generalize w4.alloc _=w5 at g5 hp5 hs5 e15 e25 hbw5 hT5 ⊢
  have HN:=Lib.hid hn4
  have HP5:=Lib.hid hp5
  obtain ⟨f0,f1,-⟩:=fault_cells e25
  obtain ⟨c0,c1⟩:=tree_cells e15
  have HMT:=Lib.hid (mtree_any tb _ _ toks nodes w5 hT5 (by omega) hft hfn)
  clear hn4 hp5 hT5 e25
  go_upto_region 10 with (first|(go_at_call 17;refine HMT.out.mono ?_;rintro e wM ⟨a2,c2,a3,c3,rfl,hTM,hbM⟩)|(go_at_call 16;refine (HFO.out wM.heap.size a2 c2 a3 c3 wM hTM (Nat.le_refl _)).mono ?_;rintro e wO ⟨ai3,ci3,ad3,cd3,rfl,hpO,hbO⟩))
  have hb6:=hbM.trans (hbO.mono hbM.size)
  have hb7:=hb6.alloc hb6.size (.cells #[.slice ai3 pp.imports.length ci3,.slice ad3 pp.defs.length cd3] 62)
  have g7:=heap_alloc_new wO (.cells #[.slice ai3 pp.imports.length ci3,.slice ad3 pp.defs.length cd3] 62)
  have hp7:PAtR (fun b=>b<wO.heap.size) (wO.alloc (.cells #[.slice ai3 pp.imports.length ci3,.slice ad3 pp.defs.length cd3] 62)) (.slice ai3 pp.imports.length ci3) (.slice ad3 pp.defs.length cd3) pp:=(hpO.imp (Q:=fun b=>b<wO.heap.size) fun b _ hl=>hl).frame ⟨by simp,fun b _ hl=>Lib.alloc_old _ _ _ hl⟩
  have hs7:wO.heap.size<(wO.alloc (.cells #[.slice ai3 pp.imports.length ci3,.slice ad3 pp.defs.length cd3] 62)).heap.size:=by simp
  have g57:=(hb7.block pb hs5).trans g5
  have hpA7:=HP5.out.frame (Alk.of hb7)
  have hbw7:=hbw5.trans (hb7.mono hbw5.size)
  have hpq:pb<wO.heap.size:=Nat.lt_of_lt_of_le hs5 hb6.size
  clear c0 c1 f0 f1 HMT HFO hTM hbM hpO hbO hb6 hb7 g5 HP5 hbw5 e15
  generalize wO.alloc _=w7 at g7 hp7 hs7 g57 hpA7 hbw7 ⊢
  generalize wO.heap.size=qb at g7 hp7 hs7 hpq ⊢
  have hpA:PAtA (fun b=>b<w7.heap.size) w7 (.slice ai pp.imports.length ci) (.slice ad pp.defs.length cd) pp:=hpA7.imp fun b _ hl=>hl
  have hpR:PAtR (fun b=>b<w7.heap.size) w7 (.slice ai3 pp.imports.length ci3) (.slice ad3 pp.defs.length cd3) pp:=hp7.imp fun b _ hl=>hl
  have hp5w:pb<w7.heap.size:=by omega
  clear hpA7 hp7 hs5 hpq htx
  obtain ⟨a0,a1⟩:=prog_cells g57
  obtain ⟨q0,q1,_⟩:=cells2T g7
  have HS:=Lib.hid (fun W (hW:Below w7.heap.size w7 W)=>And.intro (cell_later hW a0) (And.intro (cell_later hW a1) (And.intro (cell_later hW q0) (cell_later hW q1))))
  have HD:=Lib.hid (fun W (hW:Below w7.heap.size w7 W)=>HD1.out w7.heap.size ai ci ad cd W (hpA.frame (Alk.ofB hW fun b hb=>hb)) hW.size)
  have HRT:=Lib.hid (fun W (hW:Below w7.heap.size w7 W)=>HR1.out w7.heap.size ai3 ci3 ad3 cd3 W (hpR.frame (Alk.ofB hW fun b hb=>hb)) hW.size)
  have HRF:=Lib.hid (fun W (hW:Below w7.heap.size w7 W)=>HR2.out w7.heap.size ai3 ci3 ad3 cd3 W (hpR.frame (Alk.ofB hW fun b hb=>hb)) hW.size)
  have HE:=Lib.hid (fun W (hW:Below w7.heap.size w7 W)=>HE1.out w7.heap.size ai ci ad cd W (hpA.frame (Alk.ofB hW fun b hb=>hb)) hW.size HN.out)
  have HB:=Lib.hid (fun W (hW:Below w7.heap.size w7 W)=>(HB1.out w7.heap.size ai ci ad cd W (hpA.frame (Alk.ofB hW fun b hb=>hb)) hW.size).mono fun e w' h=>BarePost.v h hW)
  have HRB:=Lib.hid (fun W (hW:Below w7.heap.size w7 W)=>(HB2.out w7.heap.size ai3 ci3 ad3 cd3 W (hpR.frame (Alk.ofB hW fun b hb=>hb)) hW.size).mono fun e w' h=>BarePost.v h hW)
  have HPA:=Lib.hid hpA
  have HPR:=Lib.hid hpR
  clear HD1 HR1 HR2 HE1 HB1 HB2 hpA hpR g57 g7
  go_cut [72] (fun v wc=>v=.bool false∧Below w7.heap.size w7 wc)
  case first =>
    clear HPA HPR HZ HSM HN
    go_region_held3 (fun W=>W.cell? ⟨pb,0,none⟩=some (.slice ai pp.imports.length ci)∧W.cell? ⟨pb,1,none⟩=some (.slice ad pp.defs.length cd)∧W.cell? ⟨qb,0,none⟩=some (.slice ai3 pp.imports.length ci3)∧W.cell? ⟨qb,1,none⟩=some (.slice ad3 pp.defs.length cd3))
      (first|(with_reducible exact p3)|(go_keep;done))
      (first
        | (go_at_call 18;refine (HD2.out _ _ _ _ _ _ hpE (Nat.le_refl _)).mono ?_;rintro e wF ⟨rfl,hbF⟩;have hqF:=hqE.trans (hbF.mono hqE.size);have p3:=HS.out _ hqF)
        | (go_at_call 18;refine (HD.out _ (Below.refl _ _).drew).mono ?_;rintro e wD ⟨rfl,hbD⟩;have hqD:Below w7.heap.size w7 wD:=(Below.refl w7.heap.size w7).drew.trans hbD;have p3:=HS.out _ hqD)
        | (go_at_call 19;refine (HRF.out _ hqF).mono ?_;rintro e wG ⟨rfl,hbG⟩;have hqG:=hqF.trans (hbG.mono hqF.size);have p3:=HS.out _ hqG)
        | (go_at_call 19;refine (HRT.out _ hqD).mono ?_;rintro e wR ⟨rfl,hbR⟩;have hqR:=hqD.trans (hbR.mono hqD.size);have p3:=HS.out _ hqR)
        | (go_at_call 14;refine (HE.out _ hqR).mono ?_;rintro e wE ⟨ai2,ci2,ad2,cd2,rfl,hnE,hpE,hbE⟩;have hqE:=hqR.trans (hbE.mono hqR.size);have p3:=HS.out _ hqE)
        | (go_at_call 21;refine (HB.out _ hqG).mono ?_;rintro e wB ⟨aoB,capB,rfl,hiB,hqB,hbB⟩;have p3:=HS.out _ hqB)
        | (go_at_call 22;refine (HRB.out _ hqB).mono ?_;rintro e wC ⟨aoC,capC,rfl,hiC,hqC,hbC⟩;have p3:=HS.out _ hqC)
        | (go_at_call 20;refine (same_yes wC.heap.size _ _ bs wC ((hiB.below hbC).mono hbC.size) hiC (Nat.le_refl _) HBL.out).mono ?_;rintro e wS ⟨rfl,hbS⟩;have hqS:=hqC.trans (hbS.mono hqC.size);have p3:=HS.out _ hqS))
    clear p3 a0 a1 q0 q1
    go_wp2
    go_meet
    exact ⟨rfl,hqS⟩
  case rest =>
    clear a0 a1 q0 q1
    obtain ⟨rfl,hb8⟩:=hcut
    obtain ⟨w8,rfl⟩:∃ w8:World,w8=wc:=⟨_,rfl⟩
    obtain ⟨a0,a1,q0,q1⟩:=HS.out _ hb8
    obtain ⟨ao',cc',hv,hcap,hform⟩:=HPA.out.2.form
    simp only [Value.slice.injEq] at hv
    obtain ⟨rfl,-,rfl⟩:=hv
    have HFA:=Lib.hid hform
    obtain ⟨ao2,cc2,hv2,hcap2,hform2⟩:=HPR.out.2.form
    simp only [Value.slice.injEq] at hv2
    obtain ⟨rfl,-,rfl⟩:=hv2
    have HFR:=Lib.hid hform2
    clear hform hform2 HPA HPR HD HRT HRF HE HB HRB HD2 HBL HN hdd hde
    go_wp2
    clear a0 a1 q0 q1
    go_loopw [76] (fun q wr=>∃ j:Nat,j≤pp.defs.length∧q=.int .i64 j∧Below w7.heap.size w7 wr) (fun q _=>pp.defs.length - (intOf q).toNat)
    case atStart=>exact ⟨0,Nat.zero_le _,rfl,hb8⟩
    case round =>
      clear hb8
      obtain ⟨j,hj,rfl,hbl⟩:=hrel
      have hzr:=hbl.size
      by_cases hlt:j<pp.defs.length
      ·
        obtain ⟨b,off,rfl,hbB,hbw7',hkid⟩:=HFA.out (by omega)
        obtain ⟨⟨pv,cv,bm,bk⟩,⟨hpr,hcr,hbe⟩,hc⟩:=hkid j hlt
        obtain ⟨b3,off3,rfl,hbB3,hbw3,hkid3⟩:=HFR.out (by omega)
        obtain ⟨⟨pv3,cv3,bm3,bk3⟩,⟨hpr3,hcr3,hbe3⟩,hc3⟩:=hkid3 j hlt
        have hjI:(j:Int)<(pp.defs.length:Int):=by omega
        have hdz:=HZ.out _ (List.getElem_mem hlt)
        have hds:=HSM.out _ (List.getElem_mem hlt)
        generalize pp.defs[j]=d at hpr hcr hbe hc hpr3 hcr3 hbe3 hc3 hdz hds
        obtain ⟨ap,cp,rfl⟩:=hpr.slice
        obtain ⟨ac,cc,rfl⟩:=hcr.slice
        obtain ⟨am,wn,cm,ae,ce,rfl,rfl⟩:=EAt.slX hbe
        obtain ⟨ap3,cp3,rfl⟩:=hpr3.slice
        obtain ⟨ac3,cc3,rfl⟩:=hcr3.slice
        obtain ⟨_,ae3,ce3,rfl,_⟩:=EAt.form hbe3
        have HAT:=Lib.hid (atsOk hdz.2.2 hbe hbe3)
        have hcl:∀ (c:Nat) (u:Value),w7.cell? ⟨b,c,none⟩=some u→wr.cell? ⟨b,c,none⟩=some u:=fun c u hu=>(hbl.cell (p:=⟨b,c,none⟩) hbw7').trans hu
        have y0:=hcl _ _ (show w7.cell? ⟨b,off+j * 15,none⟩=some (.bool d.pub) from hc 0 _ rfl)
        have y1:=hcl _ _ (show w7.cell? ⟨b,off+j * 15+1,none⟩=some (.string ⟨d.res.name.toArray⟩) from hc 1 _ rfl)
        have y2:=hcl _ _ (show w7.cell? ⟨b,off+j * 15+2,none⟩=some (.slice ap d.params.length cp) from hc 2 _ rfl)
        have y3:=hcl _ _ (show w7.cell? ⟨b,off+j * 15+3,none⟩=some (.int .i64 d.res.base) from hc 3 _ rfl)
        have y4:=hcl _ _ (show w7.cell? ⟨b,off+j * 15+4,none⟩=some (.slice ac d.res.clause.length cc) from hc 4 _ rfl)
        have y5:=hcl _ _ (show w7.cell? ⟨b,off+j * 15+5,none⟩=some (.int .i64 d.body.op) from hc 5 _ rfl)
        have y6:=hcl _ _ (show w7.cell? ⟨b,off+j * 15+6,none⟩=some (.string ⟨d.body.name.toArray⟩) from hc 6 _ rfl)
        have y7:=hcl _ _ (show w7.cell? ⟨b,off+j * 15+7,none⟩=some (.string ⟨d.body.module.toArray⟩) from hc 7 _ rfl)
        have y8:=hcl _ _ (show w7.cell? ⟨b,off+j * 15+8,none⟩=some (.bool (decide (d.body.num<0))) from hc 8 _ rfl)
        have y9:=hcl _ _ (show w7.cell? ⟨b,off+j * 15+9,none⟩=some (.slice am wn cm) from hc 9 _ rfl)
        have y10:=hcl _ _ (show w7.cell? ⟨b,off+j * 15+10,none⟩=some (.bool d.body.yes) from hc 10 _ rfl)
        have y11:=hcl _ _ (show w7.cell? ⟨b,off+j * 15+11,none⟩=some (.slice ae d.body.kids.length ce) from hc 11 _ rfl)
        have y12:=hcl _ _ (show w7.cell? ⟨b,off+j * 15+12,none⟩=some (.int .i64 d.body.at_) from hc 12 _ rfl)
        have y13:=hcl _ _ (show w7.cell? ⟨b,off+j * 15+13,none⟩=some (.int .i64 d.res.at_) from hc 13 _ rfl)
        have y14:=hcl _ _ (show w7.cell? ⟨b,off+j * 15+14,none⟩=some (.int .i64 d.res.bare) from hc 14 _ rfl)
        obtain ⟨a0,a1,q0,q1⟩:=HS.out _ hbl
        have hdb:=heap_alloc_new wr (.cells #[.bool d.pub,.string ⟨d.res.name.toArray⟩,.slice ap d.params.length cp,.int .i64 d.res.base,.slice ac d.res.clause.length cc,.int .i64 d.body.op,.string ⟨d.body.name.toArray⟩,.string ⟨d.body.module.toArray⟩,.bool (decide (d.body.num<0)),.slice am wn cm,.bool d.body.yes,.slice ae d.body.kids.length ce,.int .i64 d.body.at_,.int .i64 d.res.at_,.int .i64 d.res.bare] 54)
        have hblA:=hbl.alloc hzr (.cells #[.bool d.pub,.string ⟨d.res.name.toArray⟩,.slice ap d.params.length cp,.int .i64 d.res.base,.slice ac d.res.clause.length cc,.int .i64 d.body.op,.string ⟨d.body.name.toArray⟩,.string ⟨d.body.module.toArray⟩,.bool (decide (d.body.num<0)),.slice am wn cm,.bool d.body.yes,.slice ae d.body.kids.length ce,.int .i64 d.body.at_,.int .i64 d.res.at_,.int .i64 d.res.bare] 54)
        clear hkid hc hcl hbe hbe3 hcr hcr3
        go_upto_region 15 with fail
        clear y0 y1 y2 y3 y4 y5 y6 y7 y8 y9 y10 y11 y12 y13 y14 a0 a1 q0 q1
        generalize hdbn:wr.heap.size=db at hdb ⊢
        generalize wr.alloc _=wA at hdb hblA ⊢
        have hdbw:w7.heap.size≤db:=by omega
        have hcl:∀ (c:Nat) (u:Value),w7.cell? ⟨b3,c,none⟩=some u→wA.cell? ⟨b3,c,none⟩=some u:=fun c u hu=>(hblA.cell (p:=⟨b3,c,none⟩) hbw3).trans hu
        have v0:=hcl _ _ (show w7.cell? ⟨b3,off3+j * 14,none⟩=some (.bool d.pub) from hc3 0 _ rfl)
        have v1:=hcl _ _ (show w7.cell? ⟨b3,off3+j * 14+1,none⟩=some (.slice ap3 d.params.length cp3) from hc3 1 _ rfl)
        have v2:=hcl _ _ (show w7.cell? ⟨b3,off3+j * 14+2,none⟩=some (.string ⟨d.res.name.toArray⟩) from hc3 2 _ rfl)
        have v3:=hcl _ _ (show w7.cell? ⟨b3,off3+j * 14+3,none⟩=some (.int .i64 d.res.base) from hc3 3 _ rfl)
        have v4:=hcl _ _ (show w7.cell? ⟨b3,off3+j * 14+4,none⟩=some (.slice ac3 d.res.clause.length cc3) from hc3 4 _ rfl)
        have v5:=hcl _ _ (show w7.cell? ⟨b3,off3+j * 14+5,none⟩=some (.int .i64 d.res.at_) from hc3 5 _ rfl)
        have v6:=hcl _ _ (show w7.cell? ⟨b3,off3+j * 14+6,none⟩=some (.int .i64 d.res.bare) from hc3 6 _ rfl)
        have v7:=hcl _ _ (show w7.cell? ⟨b3,off3+j * 14+7,none⟩=some (.int .i64 d.body.op) from hc3 7 _ rfl)
        have v8:=hcl _ _ (show w7.cell? ⟨b3,off3+j * 14+8,none⟩=some (.string ⟨d.body.name.toArray⟩) from hc3 8 _ rfl)
        have v9:=hcl _ _ (show w7.cell? ⟨b3,off3+j * 14+9,none⟩=some (.string ⟨d.body.module.toArray⟩) from hc3 9 _ rfl)
        have v10:=hcl _ _ (show w7.cell? ⟨b3,off3+j * 14+10,none⟩=some (.string ⟨d.body.txt.toArray⟩) from hc3 10 _ rfl)
        have v11:=hcl _ _ (show w7.cell? ⟨b3,off3+j * 14+11,none⟩=some (.bool d.body.yes) from hc3 11 _ rfl)
        have v12:=hcl _ _ (show w7.cell? ⟨b3,off3+j * 14+12,none⟩=some (.slice ae3 d.body.kids.length ce3) from hc3 12 _ rfl)
        have v13:=hcl _ _ (show w7.cell? ⟨b3,off3+j * 14+13,none⟩=some (.int .i64 d.body.at_) from hc3 13 _ rfl)
        obtain ⟨a0,a1,q0,q1⟩:=HS.out _ hblA
        have hdb3:=heap_alloc_new wA (.cells #[.bool d.pub,.slice ap3 d.params.length cp3,.string ⟨d.res.name.toArray⟩,.int .i64 d.res.base,.slice ac3 d.res.clause.length cc3,.int .i64 d.res.at_,.int .i64 d.res.bare,.int .i64 d.body.op,.string ⟨d.body.name.toArray⟩,.string ⟨d.body.module.toArray⟩,.string ⟨d.body.txt.toArray⟩,.bool d.body.yes,.slice ae3 d.body.kids.length ce3,.int .i64 d.body.at_] 80)
        have hblR:=hblA.alloc hblA.size (.cells #[.bool d.pub,.slice ap3 d.params.length cp3,.string ⟨d.res.name.toArray⟩,.int .i64 d.res.base,.slice ac3 d.res.clause.length cc3,.int .i64 d.res.at_,.int .i64 d.res.bare,.int .i64 d.body.op,.string ⟨d.body.name.toArray⟩,.string ⟨d.body.module.toArray⟩,.string ⟨d.body.txt.toArray⟩,.bool d.body.yes,.slice ae3 d.body.kids.length ce3,.int .i64 d.body.at_] 80)
        have hdbl:=(Array.getElem?_eq_some_iff.1 hdb).1
        have hdbA:=(Lib.alloc_old wA (.cells #[.bool d.pub,.slice ap3 d.params.length cp3,.string ⟨d.res.name.toArray⟩,.int .i64 d.res.base,.slice ac3 d.res.clause.length cc3,.int .i64 d.res.at_,.int .i64 d.res.bare,.int .i64 d.body.op,.string ⟨d.body.name.toArray⟩,.string ⟨d.body.module.toArray⟩,.string ⟨d.body.txt.toArray⟩,.bool d.body.yes,.slice ae3 d.body.kids.length ce3,.int .i64 d.body.at_] 80) db hdbl).trans hdb
        have hzA:=hblA.size
        clear hkid3 hc3 hcl hbl hdb hzr hdbn wr
        go_upto_region 16 with fail
        clear v0 v1 v2 v3 v4 v5 v6 v7 v8 v9 v10 v11 v12 v13 a0 a1 q0 q1
        generalize hdbn:wA.heap.size=rb at hdb3 ⊢
        generalize wA.alloc _=wR at hdb3 hblR hdbA ⊢
        have hrbw:w7.heap.size≤rb:=by omega
        clear hdbn hblA hdbl hzA wA
        obtain ⟨_,_,x2,_,_,x5,x6,x7,x8,x9,x10,x11,x12,x13,_⟩:=def_cells hdbA
        obtain ⟨r1,r5,r7,r8,r9,r10,r11,r12,r13⟩:=defR_cells hdb3
        have HDB:=Lib.hid (And.intro hdbA hdb3)
        have HSL:=Lib.hid (fun W (hW:Below wR.heap.size wR W)=>And.intro (cell_later hW x5) (And.intro (cell_later hW x6) (And.intro (cell_later hW x7) (And.intro (cell_later hW x8) (And.intro (cell_later hW x9) (And.intro (cell_later hW x10) (And.intro (cell_later hW x11) (And.intro (cell_later hW x12) (And.intro (cell_later hW x13) (And.intro (cell_later hW r5) (And.intro (cell_later hW r7) (And.intro (cell_later hW r8) (And.intro (cell_later hW r9) (And.intro (cell_later hW r10) (And.intro (cell_later hW r11) (And.intro (cell_later hW r12) (cell_later hW r13)))))))))))))))))
        clear x2 r1 hdbA hdb3
        go_cut [101] (fun v wc=>v=.bool false∧Below wR.heap.size wR wc)
        case first =>
          have hss:(d.res.at_ == d.res.at_)=true:=beq_self_eq_true _
          go_region_held3 (fun W=>W.cell? ⟨db,5,none⟩=some (.int .i64 d.body.op)∧W.cell? ⟨db,6,none⟩=some (.string ⟨d.body.name.toArray⟩)∧W.cell? ⟨db,7,none⟩=some (.string ⟨d.body.module.toArray⟩)∧W.cell? ⟨db,8,none⟩=some (.bool (decide (d.body.num<0)))∧W.cell? ⟨db,9,none⟩=some (.slice am wn cm)∧W.cell? ⟨db,10,none⟩=some (.bool d.body.yes)∧W.cell? ⟨db,11,none⟩=some (.slice ae d.body.kids.length ce)∧W.cell? ⟨db,12,none⟩=some (.int .i64 d.body.at_)∧W.cell? ⟨db,13,none⟩=some (.int .i64 d.res.at_)∧W.cell? ⟨rb,5,none⟩=some (.int .i64 d.res.at_)∧W.cell? ⟨rb,7,none⟩=some (.int .i64 d.body.op)∧W.cell? ⟨rb,8,none⟩=some (.string ⟨d.body.name.toArray⟩)∧W.cell? ⟨rb,9,none⟩=some (.string ⟨d.body.module.toArray⟩)∧W.cell? ⟨rb,10,none⟩=some (.string ⟨d.body.txt.toArray⟩)∧W.cell? ⟨rb,11,none⟩=some (.bool d.body.yes)∧W.cell? ⟨rb,12,none⟩=some (.slice ae3 d.body.kids.length ce3)∧W.cell? ⟨rb,13,none⟩=some (.int .i64 d.body.at_))
            (first|(with_reducible exact p3)|(go_keep;done))
            (first
              | (go_at_call 23;refine (HAT.out.a _ hblR.drew).mono ?_;rintro e wX ⟨gA,cA,rfl,hiA,hqA,hbA⟩;have hqX:Below wR.heap.size wR wX:=(Below.refl wR.heap.size wR).drew.trans hbA;have p3:=HSL.out _ hqX)
              | (go_at_call 24;refine (HAT.out.r _ hqA).mono ?_;rintro e wY ⟨gB,cB,rfl,hiB,hqB,hbB⟩;have hqY:=hqX.trans (hbB.mono hqX.size);have p3:=HSL.out _ hqY)
              | (go_at_call 20;refine (same_yes wY.heap.size _ _ d.body.ats wY ((hiA.below hbB).mono hbB.size) hiB (Nat.le_refl _) HAT.out.len).mono ?_;rintro e wS ⟨rfl,hbS⟩;have hqS:=hqY.trans (hbS.mono hqY.size);have p3:=HSL.out _ hqS))
          clear p3 x5 x6 x7 x8 x9 x10 x11 x12 x13 r5 r7 r8 r9 r10 r11 r12 r13
          go_wp2
          go_meet
          exact ⟨rfl,hqS⟩
        case rest =>
          clear x5 x6 x7 x8 x9 x10 x11 x12 x13 r5 r7 r8 r9 r10 r11 r12 r13 HSL HAT
          obtain ⟨rfl,hbc⟩:=hcut
          obtain ⟨wS,rfl⟩:∃ wS:World,wS=wc:=⟨_,rfl⟩
          have hlA:=(Array.getElem?_eq_some_iff.1 HDB.out.1).1
          have hlR:=(Array.getElem?_eq_some_iff.1 HDB.out.2).1
          have hdA:=(hbc.block db hlA).trans HDB.out.1
          have hdR:=(hbc.block rb hlR).trans HDB.out.2
          have hblS:=hblR.trans (hbc.mono hblR.size)
          replace hlA:=Nat.lt_of_lt_of_le hlA hbc.size
          replace hlR:=Nat.lt_of_lt_of_le hlR hbc.size
          clear HDB hbc hblR
          obtain ⟨_,_,x2,_⟩:=def_cells hdA
          obtain ⟨ap',cp',hv4,hcap4,hform4⟩:=hpr.form
          simp only [Value.slice.injEq] at hv4
          obtain ⟨rfl,-,rfl⟩:=hv4
          have HF4:=Lib.hid hform4
          obtain ⟨ap5,cp5,hv5,hcap5,hform5⟩:=hpr3.form
          simp only [Value.slice.injEq] at hv5
          obtain ⟨rfl,-,rfl⟩:=hv5
          have HF5:=Lib.hid hform5
          have HDZ:=Lib.hid hdz.1
          have HDS:=Lib.hid hds.params
          have hp8:=hds.few
          have HR1:=Lib.hid (defR_cells hdR).1
          clear hpr hpr3 hform4 hform5 hdz hds hdA hdR
          go_wp2
          clear x2
          go_loopw [105] (fun q wr=>∃ k:Nat,k≤d.params.length∧q=.int .i64 k∧Below wS.heap.size wS wr) (fun q _=>d.params.length - (intOf q).toNat)
          case atStart=>exact ⟨0,Nat.zero_le _,rfl,Below.refl _ _⟩
          case round =>
            obtain ⟨k,hk,rfl,hbk⟩:=hrel
            have hzk:=hbk.size
            have hbl:=hblS.trans (hbk.mono hblS.size)
            by_cases hlk:k<d.params.length
            ·
              obtain ⟨b4,o4,rfl,hb4B,hb4w,hkid4⟩:=HF4.out (by omega)
              obtain ⟨cv4,hcr4,hc4⟩:=hkid4 k hlk
              obtain ⟨b5,o5,rfl,hb5B,hb5w,hkid5⟩:=HF5.out (by omega)
              obtain ⟨cv5,hcr5,hc5⟩:=hkid5 k hlk
              have hkI:(k:Int)<(d.params.length:Int):=by omega
              have hfz:=HDZ.out _ (List.getElem_mem hlk)
              have hfs:=(HDS.out _ (List.getElem_mem hlk)).clause
              generalize d.params[k]=f at hcr4 hc4 hcr5 hc5 hfz hfs
              obtain ⟨ac4,cc4,rfl⟩:=RowK.slice (show RowK (EK XA) (fun b=>b<w7.heap.size) w7 cv4 f.clause from hcr4)
              have hcr4:RowK (EK XA) (fun b=>b<w7.heap.size) w7 (.slice ac4 f.clause.length cc4) f.clause:=hcr4
              obtain ⟨ac5,cc5,rfl⟩:=RowK.slice (show RowK (EK XR) (fun b=>b<w7.heap.size) w7 cv5 f.clause from hcr5)
              have hcr5:RowK (EK XR) (fun b=>b<w7.heap.size) w7 (.slice ac5 f.clause.length cc5) f.clause:=hcr5
              have hcl4:∀ (c:Nat) (u:Value),w7.cell? ⟨b4,c,none⟩=some u→wr.cell? ⟨b4,c,none⟩=some u:=fun c u hu=>(hbl.cell (p:=⟨b4,c,none⟩) hb4w).trans hu
              have v0:=hcl4 _ _ (show w7.cell? ⟨b4,o4+k * 5,none⟩=some (.string ⟨f.name.toArray⟩) from hc4 0 _ rfl)
              have v1:=hcl4 _ _ (show w7.cell? ⟨b4,o4+k * 5+1,none⟩=some (.int .i64 f.base) from hc4 1 _ rfl)
              have v2:=hcl4 _ _ (show w7.cell? ⟨b4,o4+k * 5+2,none⟩=some (.slice ac4 f.clause.length cc4) from hc4 2 _ rfl)
              have v3:=hcl4 _ _ (show w7.cell? ⟨b4,o4+k * 5+3,none⟩=some (.int .i64 f.at_) from hc4 3 _ rfl)
              have v4:=hcl4 _ _ (show w7.cell? ⟨b4,o4+k * 5+4,none⟩=some (.int .i64 f.bare) from hc4 4 _ rfl)
              have hpx:=heap_alloc_new wr (.cells #[.string ⟨f.name.toArray⟩,.int .i64 f.base,.slice ac4 f.clause.length cc4,.int .i64 f.at_,.int .i64 f.bare] 56)
              have hblB:=hbl.alloc hbl.size (.cells #[.string ⟨f.name.toArray⟩,.int .i64 f.base,.slice ac4 f.clause.length cc4,.int .i64 f.at_,.int .i64 f.bare] 56)
              have hbkB:=hbk.alloc hzk (.cells #[.string ⟨f.name.toArray⟩,.int .i64 f.base,.slice ac4 f.clause.length cc4,.int .i64 f.at_,.int .i64 f.bare] 56)
              clear hkid4 hc4 hcl4 hkid5
              go_upto_region 21 with fail
              clear v0 v1 v2 v3 v4 hbk hbl hzk
              generalize wr.heap.size=px at hpx ⊢
              generalize wr.alloc _=wB at hpx hblB hbkB ⊢
              obtain ⟨_,_,u2,u3,_,_⟩:=par_cells hpx
              have r1:=(hbkB.cell (p:=⟨rb,1,none⟩) hlR).trans HR1.out
              have s2:=(hblB.cell (p:=⟨b5,o5+k * 5+2,none⟩) hb5w).trans (show w7.cell? ⟨b5,o5+k * 5+2,none⟩=some (.slice ac5 f.clause.length cc5) from hc5 2 _ rfl)
              have s3:=(hblB.cell (p:=⟨b5,o5+k * 5+3,none⟩) hb5w).trans (show w7.cell? ⟨b5,o5+k * 5+3,none⟩=some (.int .i64 f.at_) from hc5 3 _ rfl)
              clear hc5 hpx
              have hss:(f.at_ == f.at_)=true:=beq_self_eq_true _
              go_cut [142] (fun v wc=>v=.bool false∧Below wB.heap.size wB wc)
              case first =>
                generalize hfc:f.clause=cl at hcr4 hcr5 u2 s2 hfs
                have hfz:∀ e∈cl,e.size≤1099511627776:=by rw [← hfc];exact hfz
                clear hfc
                rcases cl with _|⟨x,_|⟨x2,l2⟩⟩
                · simp only [List.length_nil] at u2 s2
                  go_quiet (fail)
                  go_wp2
                  go_meet
                  exact ⟨rfl,below_drewN (Below.refl _ _) _⟩
                · simp only [List.length_cons,List.length_nil,Nat.zero_add] at u2 s2
                  obtain ⟨ao6,cc6,hv6,_,hform6⟩:=hcr4.form
                  simp only [Value.slice.injEq] at hv6
                  obtain ⟨rfl,-,rfl⟩:=hv6
                  obtain ⟨b6,o6,rfl,_,hb6w,hkid6⟩:=hform6 (by simp)
                  obtain ⟨⟨m6,kv6⟩,hE6,hc6⟩:=hkid6 0 (by simp)
                  have hE6:EAt XA (fun b=>b<w7.heap.size) w7 m6 kv6 x:=hE6
                  obtain ⟨am6,wn6,cm6,ae6,ce6,rfl,rfl⟩:=hE6.slX
                  obtain ⟨ao7,cc7,hv7,_,hform7⟩:=hcr5.form
                  simp only [Value.slice.injEq] at hv7
                  obtain ⟨rfl,-,rfl⟩:=hv7
                  obtain ⟨b7,o7,rfl,_,hb7w,hkid7⟩:=hform7 (by simp)
                  obtain ⟨⟨m7,kv7⟩,hE7,hc7⟩:=hkid7 0 (by simp)
                  have hE7:EAt XR (fun b=>b<w7.heap.size) w7 m7 kv7 x:=hE7
                  obtain ⟨_,ae7,ce7,rfl,_⟩:=hE7.form
                  have HAX:=Lib.hid (atsOk (hfz x List.mem_cons_self) hE6 hE7)
                  have hcl6:∀ (c:Nat) (u:Value),w7.cell? ⟨b6,c,none⟩=some u→wB.cell? ⟨b6,c,none⟩=some u:=fun c u hu=>(hblB.cell (p:=⟨b6,c,none⟩) hb6w).trans hu
                  have hcl7:∀ (c:Nat) (u:Value),w7.cell? ⟨b7,c,none⟩=some u→wB.cell? ⟨b7,c,none⟩=some u:=fun c u hu=>(hblB.cell (p:=⟨b7,c,none⟩) hb7w).trans hu
                  have m0:=hcl6 _ _ (show w7.cell? ⟨b6,o6,none⟩=some (.int .i64 x.op) from by simpa [strV] using hc6 0 _ rfl)
                  have m1:=hcl6 _ _ (show w7.cell? ⟨b6,o6+1,none⟩=some (.string ⟨x.name.toArray⟩) from by simpa [strV] using hc6 1 _ rfl)
                  have m2:=hcl6 _ _ (show w7.cell? ⟨b6,o6+2,none⟩=some (.string ⟨x.module.toArray⟩) from by simpa [strV] using hc6 2 _ rfl)
                  have m3:=hcl6 _ _ (show w7.cell? ⟨b6,o6+3,none⟩=some (.bool (decide (x.num<0))) from by simpa [strV] using hc6 3 _ rfl)
                  have m4:=hcl6 _ _ (show w7.cell? ⟨b6,o6+4,none⟩=some (.slice am6 wn6 cm6) from by simpa [strV] using hc6 4 _ rfl)
                  have m5:=hcl6 _ _ (show w7.cell? ⟨b6,o6+5,none⟩=some (.bool x.yes) from by simpa [strV] using hc6 5 _ rfl)
                  have m6:=hcl6 _ _ (show w7.cell? ⟨b6,o6+6,none⟩=some (.slice ae6 x.kids.length ce6) from by simpa [strV] using hc6 6 _ rfl)
                  have m7:=hcl6 _ _ (show w7.cell? ⟨b6,o6+7,none⟩=some (.int .i64 x.at_) from by simpa [strV] using hc6 7 _ rfl)
                  have n0:=hcl7 _ _ (show w7.cell? ⟨b7,o7,none⟩=some (.int .i64 x.op) from by simpa [strV] using hc7 0 _ rfl)
                  have n1:=hcl7 _ _ (show w7.cell? ⟨b7,o7+1,none⟩=some (.string ⟨x.name.toArray⟩) from by simpa [strV] using hc7 1 _ rfl)
                  have n2:=hcl7 _ _ (show w7.cell? ⟨b7,o7+2,none⟩=some (.string ⟨x.module.toArray⟩) from by simpa [strV] using hc7 2 _ rfl)
                  have n3:=hcl7 _ _ (show w7.cell? ⟨b7,o7+3,none⟩=some (.string ⟨x.txt.toArray⟩) from by simpa [strV] using hc7 3 _ rfl)
                  have n4:=hcl7 _ _ (show w7.cell? ⟨b7,o7+4,none⟩=some (.bool x.yes) from by simpa [strV] using hc7 4 _ rfl)
                  have n5:=hcl7 _ _ (show w7.cell? ⟨b7,o7+5,none⟩=some (.slice ae7 x.kids.length ce7) from by simpa [strV] using hc7 5 _ rfl)
                  have n6:=hcl7 _ _ (show w7.cell? ⟨b7,o7+6,none⟩=some (.int .i64 x.at_) from by simpa [strV] using hc7 6 _ rfl)
                  have HSL:=Lib.hid (fun W (hW:Below wB.heap.size wB W)=>And.intro (cell_later hW u2) (And.intro (cell_later hW u3) (And.intro (cell_later hW r1) (And.intro (cell_later hW s2) (And.intro (cell_later hW s3) (And.intro (cell_later hW m0) (And.intro (cell_later hW m1) (And.intro (cell_later hW m2) (And.intro (cell_later hW m3) (And.intro (cell_later hW m4) (And.intro (cell_later hW m5) (And.intro (cell_later hW m6) (And.intro (cell_later hW m7) (And.intro (cell_later hW n0) (And.intro (cell_later hW n1) (And.intro (cell_later hW n2) (And.intro (cell_later hW n3) (And.intro (cell_later hW n4) (And.intro (cell_later hW n5) ((cell_later hW n6)))))))))))))))))))))
                  clear hform6 hkid6 hc6 hcl6 hform7 hkid7 hc7 hcl7 hE6 hE7 hcr4 hcr5 hfz
                  go_region_held3 (fun W=>W.cell? ⟨px,2,none⟩=some (.slice (some ⟨b6,o6,none⟩) 1 cc4)∧W.cell? ⟨px,3,none⟩=some (.int .i64 f.at_)∧W.cell? ⟨rb,1,none⟩=some (.slice (some ⟨b5,o5,none⟩) d.params.length cp3)∧W.cell? ⟨b5,o5+k * 5+2,none⟩=some (.slice (some ⟨b7,o7,none⟩) 1 cc5)∧W.cell? ⟨b5,o5+k * 5+3,none⟩=some (.int .i64 f.at_)∧W.cell? ⟨b6,o6,none⟩=some (.int .i64 x.op)∧W.cell? ⟨b6,o6+1,none⟩=some (.string ⟨x.name.toArray⟩)∧W.cell? ⟨b6,o6+2,none⟩=some (.string ⟨x.module.toArray⟩)∧W.cell? ⟨b6,o6+3,none⟩=some (.bool (decide (x.num<0)))∧W.cell? ⟨b6,o6+4,none⟩=some (.slice am6 wn6 cm6)∧W.cell? ⟨b6,o6+5,none⟩=some (.bool x.yes)∧W.cell? ⟨b6,o6+6,none⟩=some (.slice ae6 x.kids.length ce6)∧W.cell? ⟨b6,o6+7,none⟩=some (.int .i64 x.at_)∧W.cell? ⟨b7,o7,none⟩=some (.int .i64 x.op)∧W.cell? ⟨b7,o7+1,none⟩=some (.string ⟨x.name.toArray⟩)∧W.cell? ⟨b7,o7+2,none⟩=some (.string ⟨x.module.toArray⟩)∧W.cell? ⟨b7,o7+3,none⟩=some (.string ⟨x.txt.toArray⟩)∧W.cell? ⟨b7,o7+4,none⟩=some (.bool x.yes)∧W.cell? ⟨b7,o7+5,none⟩=some (.slice ae7 x.kids.length ce7)∧W.cell? ⟨b7,o7+6,none⟩=some (.int .i64 x.at_))
                    (first|(with_reducible exact p3)|(go_keep;done))
                    (first
                      | (go_at_call 23;refine (HAX.out.a _ hblB.drew).mono ?_;rintro e wX ⟨gA,cA,rfl,hiA,hqA,hbA⟩;have hqX:Below wB.heap.size wB wX:=(Below.refl wB.heap.size wB).drew.trans hbA;have p3:=HSL.out _ hqX)
                      | (go_at_call 24;refine (HAX.out.r _ hqA).mono ?_;rintro e wY ⟨gB,cB,rfl,hiB,hqB,hbB⟩;have hqY:=hqX.trans (hbB.mono hqX.size);have p3:=HSL.out _ hqY)
                      | (go_at_call 20;refine (same_yes wY.heap.size _ _ x.ats wY ((hiA.below hbB).mono hbB.size) hiB (Nat.le_refl _) HAX.out.len).mono ?_;rintro e wZ ⟨rfl,hbS⟩;have hqS:=hqY.trans (hbS.mono hqY.size);have p3:=HSL.out _ hqS))
                  clear p3 u2 u3 r1 s2 s3 m0 m1 m2 m3 m4 m5 m6 m7 n0 n1 n2 n3 n4 n5 n6
                  go_wp2
                  go_meet
                  exact ⟨rfl,hqS⟩
                · simp only [List.length_cons] at hfs
                  omega
              case rest =>
                clear u2 u3 r1 s2 s3 hcr4 hcr5
                obtain ⟨rfl,hbc⟩:=hcut
                go_wp2
                go_roundw
                case rel=>exact ⟨k+1,by omega,by go_num,hbkB.trans (hbc.mono hbkB.size)⟩
                case measure=>simp [intOf];omega
            · obtain rfl:k=d.params.length:=by omega
              have hkI:decide ((d.params.length:Int)<(d.params.length:Int))=false:=decide_eq_false (by omega)
              go_wp2
              go_roundw
              case rel=>exact ⟨j+1,by omega,by go_num,hbl⟩
              case measure=>simp [intOf];omega
      · obtain rfl:j=pp.defs.length:=by omega
        have hjI:decide ((pp.defs.length:Int)<(pp.defs.length:Int))=false:=decide_eq_false (by omega)
        go_wp2
        go_ret
        exact ⟨rfl,hbw7.trans (hbl.mono hbw7.size)⟩
theorem prg_any (s:ByteArray)(w:World)(hs:s.size≤maxLen) :
    Calls Tryz.prog 5 #[.string s] w fun e w'=>e=.returned (.bool true)∧Below w.heap.size w w':=by
  by_cases h:s.size≤1500
  · cases hf:progF s.data.toList 100 with
    | bad c a=>exact prg_bad s w h c a hf
    | good toks nodes=>exact prg_good s w h toks nodes hf
  · exact prg_big s w hs (by omega)
end Go.Proofs.YtemkhbmkaalgdaaGreatDoor

namespace Go.Proofs.YtemkhbmkaalgdaaGreatDoor
open Go.ChangeShapes Go.WideShapes Go.ChangeAt Go.RowKit
theorem trodAll_below {H:Type}{enc:TypeId × Value→H}{P:Program}(hl:laidOutB P=true){W W':World}(hb:Below W.heap.size W W'):∀ {ts:List TypeId} {vs:List Value} {ds:List (DataW H)} {ps:List MemPlace},
  ts.all (fun t=>P.readableRec t && decide (t<P.types.size))=true→DataW.TrodAll enc P W 0 (fun _=>true) true ts vs ds ps→(∀ x∈ps,x.block<W.heap.size) →
  DataW.TrodAll enc P W' 0 (fun b=>decide (b<W.heap.size)) true ts vs ds ps
 | [],[],[],_,_,h,_=>h
 | [],_ :: _,_,_,_,h,_=>h.elim
 | [],[],_ :: _,_,_,h,_=>h.elim
 | _ :: _,[],_,_,_,h,_=>h.elim
 | _ :: _,_ :: _,[],_,_,h,_=>h.elim
 | t :: ts,v :: vs,d :: ds,_,ha,h,hlt=>by
  obtain ⟨p,q,h1,h2,rfl⟩:=h
  simp only [List.all_cons,Bool.and_eq_true,decide_eq_true_eq] at ha
  exact ⟨p,q,Below.trod hl ha.1.1 ha.1.2 h1 hb (fun x hx=>hlt x (List.mem_append_left _ hx)),trodAll_below hl hb ha.2 h2 (fun x hx=>hlt x (List.mem_append_right _ hx)),rfl⟩
theorem law_post {H:Type}{enc:TypeId × Value→H}{P:Program}{f:Func}{s:ChangeSpec}{W W':World}{args:Array Value}{ds gs:List (DataW H)}{before:List MemPlace}{tb:TypeId}
  (hl:laidOutB P=true) (hp:f.params.toList.all (fun t=>P.readableRec t && decide (t<P.types.size))=true) (hv:varsRowed P s.vars=true) (hr:f.resultTypes=#[tb]) (htb:P.underlying tb=some .bool)
  (hW:DataW.Whole enc P f.params.toList s.vars false W args.toList ds gs before) (hf1:(s.fn H (ds++gs)).results=[.lit (.bool true)]) (hf2:(s.fn H (ds++gs)).args=ds) (hf3:(s.fn H (ds++gs)).vars=gs)
  (hb:Below W.heap.size W W'):s.post enc P f false true false false W args (.bool true) W':=by
 have hlt:=hW.lt
 have hW':=hW
 obtain ⟨p,q,hA,hV,rfl,hfz,hnd⟩:=hW
 refine ⟨ds,gs,p++q,[]++[],p,q,hW',?_,?_,?_,hb.frame _,fun h=>by cases h⟩
 ·rw [hr,hf1]
  exact ⟨[],[],shut_bool htb true,rfl,rfl⟩
 ·rw [hf2]
  exact trodAll_below hl hb hp hA (fun x hx=>hlt x (List.mem_append_left _ hx))
 ·rw [hf3]
  exact Below.trodVars hl hb hv hV
end Go.Proofs.YtemkhbmkaalgdaaGreatDoor
