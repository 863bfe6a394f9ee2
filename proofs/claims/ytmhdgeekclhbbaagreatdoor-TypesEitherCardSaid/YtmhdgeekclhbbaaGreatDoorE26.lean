/- TypesEither holds: at all arguments the law returns true. The condition: the listed tables of math/bits, internal/strconv and unicode/utf8 hold at the start what the program's text lays in them (the card ties that). -/
import Derived.Test.YtmhdgeekclhbbaaGreatDoorE24
import Derived.Test.YtmhdgeekclhbbaaGreatDoorE25
import Derived.Test.YtmhdgeekclhbbaaGreatDoorTie
import Derived.Test.YtmhdgeekclhbbaaGreatDoorCards
import Derived.PinnedBridge
import Derived.Lay
import Derived.LaidMore
import Derived.SevenTiedAt
set_option maxHeartbeats 16000000
set_option maxRecDepth 100000
set_option linter.unusedVariables false
set_option linter.unusedSimpArgs false
namespace Go.Proofs.YtmhdgeekclhbbaaGreatDoor.typesEither
open Go.ChangeShapes Go.WideShapes Go.ChangeAt Go.RowKit
set_option linter.unusedVariables false
theorem own:ownKnob Tryz.prog.godebug=none:=by kernel_rfl
theorem lifted (os:Os)(started:os.Started)(H:Type)(enc:TypeId × Value->H) :
  ReturnsInHanded {} Tryz.checked os 5 .any (λw args=>(Rows.typesEitherSpec.pre enc Tryz.prog Tryz.f5 [] false w args/\laidMetH Tryz.prog Rows.typesEitherRow.laid w)/\sizedMet enc Tryz.prog Tryz.f5 (OpenSpec.ofChange Rows.typesEitherSpec) false w args)
   (Rows.typesEitherSpec.post enc Tryz.prog Tryz.f5 false true false false):=by
 refine returnsInHanded_of_change_and (C:=Tryz.checked) (X:=λw _=>laidMetH Tryz.prog Rows.typesEitherRow.laid w) (λ_ _ _ hh h=>h.of_heap hh) own started (by kernel_rfl) Tryz.func5
  (ChangeSpec.witness_shaped (enc:=enc) (C:=Tryz.checked) (os:=os) (X:=λw _=>laidMetH Tryz.prog Rows.typesEitherRow.laid w) false (World.laidAll Tryz.prog os Rows.typesEitherRow.laid) #[.string ByteArray.empty] 8 (World.laidAll_os _ _ _)
   (World.shaped_of_ZipB (by kernel_rfl) (by kernel_rfl)) (by kernel_rfl) (by kernel_rfl) (by kernel_rfl)
   (by rw[MakeChecks.laidMetH_plain _ _ _ (by kernel_rfl)];exact laidMet_laidAll _ (by kernel_rfl) (by kernel_rfl))) ?_
 intro W base args ds gs before hval0 hW _ _ hL _;have hval:∀ (j:Nat) t v,Tryz.f5.params[j]?=some t->args[j]?=some v->Value.okWide Tryz.prog W .any base t v:=hval0;have hW':=hW;obtain⟨p,q,hA0,hV,rfl,hfz,hnd⟩:=hW;have hA:DataW.TrodAll enc Tryz.prog W 0 (λ_=>true) true Tryz.f5.params.toList args.toList ds p:=hA0;rw[Tryz.params5] at hA hval;obtain⟨v0,vs0,d0,ds0,p0,q0,hargs,rfl,rfl,h0,r0⟩:=trodAll_cons hA;obtain⟨rfl,rfl,rfl⟩:=trodAll_nil r0
 obtain rfl:args=#[v0]:=by cases args;simp_all
 obtain⟨rfl,rfl⟩:=trodVars_none hV;obtain⟨s0,rfl,rfl,rfl,hs0⟩:=ChangeMaps.open_string Tryz.underlying9 (hval 0 9 v0 rfl rfl) h0;clear hA0 hval0 hL
 refine(ac8 s0 W hs0).mono λe W' ⟨he,hg⟩=>?_
 subst he;exact⟨_,rfl,ac9 (tb:=4) (by kernel_rfl) (by kernel_rfl) rfl rfl Tryz.underlying4 hW' rfl rfl rfl hg⟩
theorem f1:laidOutB Tryz.prog=true:=by kernel_rfl
theorem f2:mapsRowed Tryz.prog=true:=by kernel_rfl
theorem f3:(Rows.typesEitherRow.inPlace == Tryz.prog.inPlace 5)=true:=by kernel_rfl
theorem f4:(Rows.typesEitherRow.unfollowed == Tryz.prog.unfollowed 5)=true:=by kernel_rfl
theorem f5:(Rows.typesEitherRow.recurses == Tryz.prog.recurses 5)=true:=by kernel_rfl
theorem f6:(Rows.typesEitherRow.named == Tryz.prog.varsNamed 5)=true:=by kernel_rfl
theorem f7:Tryz.prog.funcNamed Rows.typesEitherRow.func=some 5:=by kernel_rfl
theorem closed:joinedFacts Tryz.prog 5 Tryz.f5 Rows.typesEitherSpec Rows.typesEitherRow=true:=by
 unfold joinedFacts;rw[f1,f2,f3,f4,f5,f6]
 kernel_rfl
theorem over:Rows.typesEitherRow.holds Tryz.pinned (OpenSpec.ofChange Rows.typesEitherSpec) :=
 OpenClaim.holds_of_wide 5 Tryz.f5 rfl rfl rfl rfl rfl rfl rfl ⟨rfl,rfl,rfl,rfl,rfl⟩ rfl rfl rfl rfl rfl f7 Tryz.func5 closed
  (V7 (by kernel_rfl)) (by unfold Func.isWrapper;first|(rw[bq (by decide +kernel)];kernel_rfl)|(rw[aP (by decide +kernel)];exact⟨rfl,rfl⟩))
  (λos started H enc _=>lifted os started H enc)
theorem g1:Rows.typesEitherRow.wfByText (OpenSpec.ofChange Rows.typesEitherSpec)=true:=by kernel_rfl
theorem g2:Tryz.prog.mainIs=some (true,"d7b32fdfea93c6c1614583757260bf6d65fbbe1cb7a51f20f12ab3512babff55".toList):=by kernel_rfl
theorem g3:false=Tryz.prog.looks []:=by kernel_rfl
theorem g4:([9].all λu=>!Tryz.prog.wantsStandIn u)=true:=by kernel_rfl
theorem g5:false=Rows.typesEitherRow.goesBy Tryz.prog:=by kernel_rfl
theorem proved:Rows.TypesEitherCardSaid :=
 Claim7.holds_tied_plain_at .later [] [.data,.data,.data,.data,.pinned] true (true,"d7b32fdfea93c6c1614583757260bf6d65fbbe1cb7a51f20f12ab3512babff55") false
  over (λ_ h=>by cases h) g1 (λ_ h=>by cases h) typesEither_row_tie rfl ⟨rfl,rfl⟩ g2 rfl
  (λf fn hf hfn=>by
   obtain rfl:f=5:=kE (f7.symm.trans hf) |>.symm
   obtain rfl:fn=Tryz.f5:=(kE (Tryz.func5.symm.trans hfn)).symm
   exact⟨g3,λj t ht=>by
    rw[Tryz.params5] at ht
    have hm:t∈[9]:=by simpa using Array.mem_of_getElem? ht
    have hall:=g4
    exact(show Tryz.prog.wantsStandIn t=false by simpa using List.all_eq_true.1 hall t hm)⟩)
  g5
#print axioms proved
