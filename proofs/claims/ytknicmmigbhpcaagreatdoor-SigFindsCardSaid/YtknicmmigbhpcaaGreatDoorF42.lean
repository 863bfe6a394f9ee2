/- SigFinds holds: at all arguments the law returns true. The condition: the listed tables of math/bits, internal/strconv and unicode/utf8 hold at the start what the program's text lays in them (the card ties that). -/
import Derived.Test.YtknicmmigbhpcaaGreatDoorF39
import Derived.Test.YtknicmmigbhpcaaGreatDoorF40
import Derived.Test.YtknicmmigbhpcaaGreatDoorF41
import Derived.Test.YtknicmmigbhpcaaGreatDoorTie
import Derived.Test.YtknicmmigbhpcaaGreatDoorCards
import Derived.PinnedBridge
import Derived.Lay
import Derived.LaidMore
import Derived.SevenTiedAt
set_option maxHeartbeats 16000000
set_option maxRecDepth 100000
set_option linter.unusedVariables false
set_option linter.unusedSimpArgs false
namespace Go.Proofs.YtknicmmigbhpcaaGreatDoor.sigFinds
open Go.ChangeShapes Go.WideShapes Go.ChangeAt Go.RowKit
set_option linter.unusedVariables false
theorem own:ownKnob Tryz.prog.godebug=none:=by kernel_rfl
theorem lifted (os:Os)(started:os.Started)(H:Type)(enc:TypeId × Value→H) :
  ReturnsInHanded {} Tryz.checked os 3 .any (fun w args=>(Rows.sigFindsSpec.pre enc Tryz.prog Tryz.f3 [] false w args∧laidMetH Tryz.prog Rows.sigFindsRow.laid w)∧sizedMet enc Tryz.prog Tryz.f3 (OpenSpec.ofChange Rows.sigFindsSpec) false w args)
   (Rows.sigFindsSpec.post enc Tryz.prog Tryz.f3 false true false false):=by
 refine returnsInHanded_of_change_and (C:=Tryz.checked) (X:=fun w _=>laidMetH Tryz.prog Rows.sigFindsRow.laid w) (fun _ _ _ hh h=>h.of_heap hh) own started (by kernel_rfl) Tryz.func3
  (ChangeSpec.witness_shaped (enc:=enc) (C:=Tryz.checked) (os:=os) (X:=fun w _=>laidMetH Tryz.prog Rows.sigFindsRow.laid w) false (World.laidAll Tryz.prog os Rows.sigFindsRow.laid) #[.slice none 0 0,.slice none 0 0,.string ByteArray.empty,.string ByteArray.empty] 8 (World.laidAll_os _ _ _)
   (World.shaped_of_ZipB (by kernel_rfl) (by kernel_rfl)) (by kernel_rfl) (by kernel_rfl) (by kernel_rfl)
   (by rw[MakeChecks.laidMetH_plain _ _ _ (by kernel_rfl)];exact laidMet_laidAll _ (by kernel_rfl) (by kernel_rfl))) ?_
 intro W base args ds gs before hval0 hW _ _ hL _;have hval:∀ (j:Nat) t v,Tryz.f3.params[j]?=some t→args[j]?=some v→Value.okWide Tryz.prog W .any base t v:=hval0;have hW':=hW;obtain⟨p,q,hA0,hV,rfl,hfz,hnd⟩:=hW;have hA:DataW.TrodAll enc Tryz.prog W 0 (fun _=>true) true Tryz.f3.params.toList args.toList ds p:=hA0;rw[Tryz.params3] at hA hval;obtain⟨v0,vs0,d0,ds0,p0,q0,hargs,rfl,rfl,h0,r0⟩:=trodAll_cons hA;obtain⟨v1,vs1,d1,ds1,p1,q1,rfl,rfl,rfl,h1,r1⟩:=trodAll_cons r0;obtain⟨v2,vs2,d2,ds2,p2,q2,rfl,rfl,rfl,h2,r2⟩:=trodAll_cons r1;obtain⟨v3,vs3,d3,ds3,p3,q3,rfl,rfl,rfl,h3,r3⟩:=trodAll_cons r2;obtain⟨rfl,rfl,rfl⟩:=trodAll_nil r3
 obtain rfl:args=#[v0,v1,v2,v3]:=by cases args;simp_all
 obtain⟨rfl,rfl⟩:=trodVars_none hV;obtain⟨a0,m0,c0,rfl⟩:=okWide_slice Tryz.underlying22 (hval 0 22 v0 rfl rfl);obtain⟨ae7,hf0⟩:=h0;obtain⟨l0,aa0,cc0,hv0,hr0,hl0⟩:=yA Tryz.underlying22 Tryz.underlying9 (by kernel_rfl) hf0;simp only[Value.slice.injEq] at hv0;obtain⟨rfl,rfl,rfl⟩:=hv0;obtain⟨a1,m1,c1,rfl⟩:=okWide_slice Tryz.underlying22 (hval 1 22 v1 rfl rfl);obtain⟨fuel1,hf1⟩:=h1;obtain⟨l1,aa1,cc1,hv1,hr1,hl1⟩:=yA Tryz.underlying22 Tryz.underlying9 (by kernel_rfl) hf1;simp only[Value.slice.injEq] at hv1;obtain⟨rfl,rfl,rfl⟩:=hv1;obtain⟨s2,rfl,rfl,rfl,hs2⟩:=ChangeMaps.open_string Tryz.underlying9 (hval 2 9 v2 rfl rfl) h2;obtain⟨s3,rfl,rfl,rfl,hs3⟩:=ChangeMaps.open_string Tryz.underlying9 (hval 3 9 v3 rfl rfl) h3;clear hA0 hval0 hL
 refine(OO l0 _ _ l1 _ _ s2 s3 W hr0 hl0 hr1 hl1 hs2 hs3).mono fun e W' ⟨he,hg⟩=>?_
 subst he;exact⟨_,rfl,XB (tb:=4) (by kernel_rfl) (by kernel_rfl) rfl rfl Tryz.underlying4 hW' rfl rfl rfl hg⟩
theorem f1:laidOutB Tryz.prog=true:=by kernel_rfl
theorem f2:mapsRowed Tryz.prog=true:=by kernel_rfl
theorem f3:(Rows.sigFindsRow.inPlace == Tryz.prog.inPlace 3)=true:=by kernel_rfl
theorem f4:(Rows.sigFindsRow.unfollowed == Tryz.prog.unfollowed 3)=true:=by kernel_rfl
theorem f5:(Rows.sigFindsRow.recurses == Tryz.prog.recurses 3)=true:=by kernel_rfl
theorem f6:(Rows.sigFindsRow.named == Tryz.prog.varsNamed 3)=true:=by kernel_rfl
theorem f7:Tryz.prog.funcNamed Rows.sigFindsRow.func=some 3:=by kernel_rfl
theorem closed:joinedFacts Tryz.prog 3 Tryz.f3 Rows.sigFindsSpec Rows.sigFindsRow=true:=by
 unfold joinedFacts;rw[f1,f2,f3,f4,f5,f6]
 kernel_rfl
theorem over:Rows.sigFindsRow.holds Tryz.pinned (OpenSpec.ofChange Rows.sigFindsSpec) :=
 OpenClaim.holds_of_wide 3 Tryz.f3 rfl rfl rfl rfl rfl rfl rfl ⟨rfl,rfl,rfl,rfl,rfl⟩ rfl rfl rfl rfl rfl f7 Tryz.func3 closed
  (of_decide_eq_true (by kernel_rfl)) (by unfold Func.isWrapper;first|(rw[if_pos (by decide +kernel)];kernel_rfl)|(rw[if_neg (by decide +kernel)];exact⟨rfl,rfl⟩))
  (fun os started H enc _=>lifted os started H enc)
theorem g1:Rows.sigFindsRow.wfByText (OpenSpec.ofChange Rows.sigFindsSpec)=true:=by kernel_rfl
theorem g2:Tryz.prog.mainIs=some (true,"a8295384e831205a1af92afd9b4d7f7cc0fcd504f15a93279809f598cf219f0b".toList):=by kernel_rfl
theorem g3:false=Tryz.prog.looks []:=by kernel_rfl
theorem g4:([22,22,9,9].all fun u=>!Tryz.prog.wantsStandIn u)=true:=by kernel_rfl
theorem g5:false=Rows.sigFindsRow.goesBy Tryz.prog:=by kernel_rfl
theorem proved:Rows.SigFindsCardSaid :=
 Claim7.holds_tied_plain_at .later [] [.data,.data,.data,.data,.pinned] true (true,"a8295384e831205a1af92afd9b4d7f7cc0fcd504f15a93279809f598cf219f0b") false
  over (fun _ h=>by cases h) g1 (fun _ h=>by cases h) sigFinds_row_tie rfl ⟨rfl,rfl⟩ g2 rfl
  (fun f fn hf hfn=>by
   obtain rfl:f=3:=Option.some.inj (f7.symm.trans hf) |>.symm
   obtain rfl:fn=Tryz.f3:=(Option.some.inj (Tryz.func3.symm.trans hfn)).symm
   exact⟨g3,fun j t ht=>by
    rw[Tryz.params3] at ht
    have hm:t∈[22,22,9,9]:=by simpa using Array.mem_of_getElem? ht
    have hall:=g4
    exact(show Tryz.prog.wantsStandIn t=false by simpa using List.all_eq_true.1 hall t hm)⟩)
  g5
#print axioms proved
end Go.Proofs.YtknicmmigbhpcaaGreatDoor.sigFinds
