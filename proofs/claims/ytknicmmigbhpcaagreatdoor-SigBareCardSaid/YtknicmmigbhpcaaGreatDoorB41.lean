/- SigBare holds: at all arguments the law returns true. The condition: the listed tables of math/bits, internal/strconv and unicode/utf8 hold at the start what the program's text lays in them (the card ties that). -/
import Derived.Test.YtknicmmigbhpcaaGreatDoorB39
import Derived.Test.YtknicmmigbhpcaaGreatDoorB40
import Derived.Test.YtknicmmigbhpcaaGreatDoorTie
import Derived.Test.YtknicmmigbhpcaaGreatDoorCards
import Derived.PinnedBridge
import Derived.Lay
import Derived.LaidMore
import Derived.SevenTiedAt
set_option maxHeartbeats 16000000
set_option maxRecDepth 100000
set_option linter.unusedVariables false
set_option linter.unusedSimpArgs false
namespace Go.Proofs.YtknicmmigbhpcaaGreatDoor.sigBare
open Go.ChangeShapes Go.WideShapes Go.ChangeAt Go.RowKit
set_option linter.unusedVariables false
theorem own:ownKnob Tryz.prog.godebug=none:=by kernel_rfl
theorem lifted (os:Os)(started:os.Started)(H:Type)(enc:TypeId × Value→H) :
  ReturnsInHanded {} Tryz.checked os 4 .any (fun w args=>(Rows.sigBareSpec.pre enc Tryz.prog Tryz.f4 [] false w args∧laidMetH Tryz.prog Rows.sigBareRow.laid w)∧sizedMet enc Tryz.prog Tryz.f4 (OpenSpec.ofChange Rows.sigBareSpec) false w args)
   (Rows.sigBareSpec.post enc Tryz.prog Tryz.f4 false true false false):=by
 refine returnsInHanded_of_change_and (C:=Tryz.checked) (X:=fun w _=>laidMetH Tryz.prog Rows.sigBareRow.laid w) (fun _ _ _ hh h=>h.of_heap hh) own started (by kernel_rfl) Tryz.func4
  (ChangeSpec.witness_shaped (enc:=enc) (C:=Tryz.checked) (os:=os) (X:=fun w _=>laidMetH Tryz.prog Rows.sigBareRow.laid w) false (World.laidAll Tryz.prog os Rows.sigBareRow.laid) #[.string ByteArray.empty] 8 (World.laidAll_os _ _ _)
   (World.shaped_of_ZipB (by kernel_rfl) (by kernel_rfl)) (by kernel_rfl) (by kernel_rfl) (by kernel_rfl)
   (by rw[MakeChecks.laidMetH_plain _ _ _ (by kernel_rfl)];exact laidMet_laidAll _ (by kernel_rfl) (by kernel_rfl))) ?_
 intro W base args ds gs before hval0 hW _ _ hL _;have hval:∀ (j:Nat) t v,Tryz.f4.params[j]?=some t→args[j]?=some v→Value.okWide Tryz.prog W .any base t v:=hval0;have hW':=hW;obtain⟨p,q,hA0,hV,rfl,hfz,hnd⟩:=hW;have hA:DataW.TrodAll enc Tryz.prog W 0 (fun _=>true) true Tryz.f4.params.toList args.toList ds p:=hA0;rw[Tryz.params4] at hA hval;obtain⟨v0,vs0,d0,ds0,p0,q0,hargs,rfl,rfl,h0,r0⟩:=trodAll_cons hA;obtain⟨rfl,rfl,rfl⟩:=trodAll_nil r0
 obtain rfl:args=#[v0]:=by cases args;simp_all
 obtain⟨rfl,rfl⟩:=trodVars_none hV;obtain⟨s0,rfl,rfl,rfl,hs0⟩:=ChangeMaps.open_string Tryz.underlying9 (hval 0 9 v0 rfl rfl) h0;clear hA0 hval0 hL
 refine(XK s0 W hs0).mono fun e W' ⟨he,hg⟩=>?_
 subst he;exact⟨_,rfl,XL (tb:=4) (by kernel_rfl) (by kernel_rfl) rfl rfl Tryz.underlying4 hW' rfl rfl rfl hg⟩
theorem f1:laidOutB Tryz.prog=true:=by kernel_rfl
theorem f2:mapsRowed Tryz.prog=true:=by kernel_rfl
theorem f3:(Rows.sigBareRow.inPlace == Tryz.prog.inPlace 4)=true:=by kernel_rfl
theorem f4:(Rows.sigBareRow.unfollowed == Tryz.prog.unfollowed 4)=true:=by kernel_rfl
theorem f5:(Rows.sigBareRow.recurses == Tryz.prog.recurses 4)=true:=by kernel_rfl
theorem f6:(Rows.sigBareRow.named == Tryz.prog.varsNamed 4)=true:=by kernel_rfl
theorem f7:Tryz.prog.funcNamed Rows.sigBareRow.func=some 4:=by kernel_rfl
theorem closed:joinedFacts Tryz.prog 4 Tryz.f4 Rows.sigBareSpec Rows.sigBareRow=true:=by
 unfold joinedFacts;rw[f1,f2,f3,f4,f5,f6]
 kernel_rfl
theorem over:Rows.sigBareRow.holds Tryz.pinned (OpenSpec.ofChange Rows.sigBareSpec) :=
 OpenClaim.holds_of_wide 4 Tryz.f4 rfl rfl rfl rfl rfl rfl rfl ⟨rfl,rfl,rfl,rfl,rfl⟩ rfl rfl rfl rfl rfl f7 Tryz.func4 closed
  (of_decide_eq_true (by kernel_rfl)) (by unfold Func.isWrapper;first|(rw[if_pos (by decide +kernel)];kernel_rfl)|(rw[if_neg (by decide +kernel)];exact⟨rfl,rfl⟩))
  (fun os started H enc _=>lifted os started H enc)
theorem g1:Rows.sigBareRow.wfByText (OpenSpec.ofChange Rows.sigBareSpec)=true:=by kernel_rfl
theorem g2:Tryz.prog.mainIs=some (true,"a8295384e831205a1af92afd9b4d7f7cc0fcd504f15a93279809f598cf219f0b".toList):=by kernel_rfl
theorem g3:false=Tryz.prog.looks []:=by kernel_rfl
theorem g4:([9].all fun u=>!Tryz.prog.wantsStandIn u)=true:=by kernel_rfl
theorem g5:false=Rows.sigBareRow.goesBy Tryz.prog:=by kernel_rfl
theorem proved:Rows.SigBareCardSaid :=
 Claim7.holds_tied_plain_at .later [] [.data,.data,.data,.data,.pinned] true (true,"a8295384e831205a1af92afd9b4d7f7cc0fcd504f15a93279809f598cf219f0b") false
  over (fun _ h=>by cases h) g1 (fun _ h=>by cases h) sigBare_row_tie rfl ⟨rfl,rfl⟩ g2 rfl
  (fun f fn hf hfn=>by
   obtain rfl:f=4:=Option.some.inj (f7.symm.trans hf) |>.symm
   obtain rfl:fn=Tryz.f4:=(Option.some.inj (Tryz.func4.symm.trans hfn)).symm
   exact⟨g3,fun j t ht=>by
    rw[Tryz.params4] at ht
    have hm:t∈[9]:=by simpa using Array.mem_of_getElem? ht
    have hall:=g4
    exact(show Tryz.prog.wantsStandIn t=false by simpa using List.all_eq_true.1 hall t hm)⟩)
  g5
#print axioms proved
end Go.Proofs.YtknicmmigbhpcaaGreatDoor.sigBare
