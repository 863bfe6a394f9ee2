/- ScopeRenames holds: at all arguments the law returns true. The condition: the listed tables of math/bits, internal/strconv and unicode/utf8 hold at the start what the program's text lays in them (the card ties that). -/
import Derived.Test.YtmhdgeekclhbbaaGreatDoorR23
import Derived.Test.YtmhdgeekclhbbaaGreatDoorR24
import Derived.Test.YtmhdgeekclhbbaaGreatDoorTie
import Derived.Test.YtmhdgeekclhbbaaGreatDoorCards
import Derived.PinnedBridge
import Derived.Lay
import Derived.LaidMore
import Derived.SevenTiedAt
set_option maxHeartbeats 16000000
set_option maxRecDepth 100000
set_option linter.unusedVariables false
set_option linter.unusedSimpArgs false
namespace Go.Proofs.YtmhdgeekclhbbaaGreatDoor.scopeRenames
open Go.ChangeShapes Go.WideShapes Go.ChangeAt Go.RowKit
set_option linter.unusedVariables false
theorem own:ownKnob Tryz.prog.godebug=none:=by kernel_rfl
theorem lifted (os:Os)(started:os.Started)(H:Type)(enc:TypeId × Value→H) :
  ReturnsInHanded {} Tryz.checked os 4 .any (fun w args=>(Rows.scopeRenamesSpec.pre enc Tryz.prog Tryz.f4 [] false w args∧laidMetH Tryz.prog Rows.scopeRenamesRow.laid w)∧sizedMet enc Tryz.prog Tryz.f4 (OpenSpec.ofChange Rows.scopeRenamesSpec) false w args)
   (Rows.scopeRenamesSpec.post enc Tryz.prog Tryz.f4 false true false false):=by
 refine returnsInHanded_of_change_and (C:=Tryz.checked) (X:=fun w _=>laidMetH Tryz.prog Rows.scopeRenamesRow.laid w) (fun _ _ _ hh h=>h.of_heap hh) own started (by kernel_rfl) Tryz.func4
  (ChangeSpec.witness_shaped (enc:=enc) (C:=Tryz.checked) (os:=os) (X:=fun w _=>laidMetH Tryz.prog Rows.scopeRenamesRow.laid w) false (World.laidAll Tryz.prog os Rows.scopeRenamesRow.laid) #[.string ByteArray.empty,.string ByteArray.empty] 8 (World.laidAll_os _ _ _)
   (World.shaped_of_ZipB (by kernel_rfl) (by kernel_rfl)) (by kernel_rfl) (by kernel_rfl) (by kernel_rfl)
   (by rw[MakeChecks.laidMetH_plain _ _ _ (by kernel_rfl)];exact laidMet_laidAll _ (by kernel_rfl) (by kernel_rfl))) ?_
 intro W base args ds gs before hval0 hW _ _ hL _;have hval:∀ (j:Nat) t v,Tryz.f4.params[j]?=some t→args[j]?=some v→Value.okWide Tryz.prog W .any base t v:=hval0;have hW':=hW;obtain⟨p,q,hA0,hV,rfl,hfz,hnd⟩:=hW;have hA:DataW.TrodAll enc Tryz.prog W 0 (fun _=>true) true Tryz.f4.params.toList args.toList ds p:=hA0;rw[Tryz.params4] at hA hval;obtain⟨v0,vs0,d0,ds0,p0,q0,hargs,rfl,rfl,h0,r0⟩:=trodAll_cons hA;obtain⟨v1,vs1,d1,ds1,p1,q1,rfl,rfl,rfl,h1,r1⟩:=trodAll_cons r0;obtain⟨rfl,rfl,rfl⟩:=trodAll_nil r1
 obtain rfl:args=#[v0,v1]:=by cases args;simp_all
 obtain⟨rfl,rfl⟩:=trodVars_none hV;obtain⟨s0,rfl,rfl,rfl,hs0⟩:=ChangeMaps.open_string Tryz.underlying9 (hval 0 9 v0 rfl rfl) h0;obtain⟨s1,rfl,rfl,rfl,hs1⟩:=ChangeMaps.open_string Tryz.underlying9 (hval 1 9 v1 rfl rfl) h1;clear hA0 hval0 hL
 refine(aaS s0 s1 W hs0 hs1).mono fun e W' ⟨he,hg⟩=>?_
 subst he;exact⟨_,rfl,aaT (tb:=4) (by kernel_rfl) (by kernel_rfl) rfl rfl Tryz.underlying4 hW' rfl rfl rfl hg⟩
theorem f1:laidOutB Tryz.prog=true:=by kernel_rfl
theorem f2:mapsRowed Tryz.prog=true:=by kernel_rfl
theorem f3:(Rows.scopeRenamesRow.inPlace == Tryz.prog.inPlace 4)=true:=by kernel_rfl
theorem f4:(Rows.scopeRenamesRow.unfollowed == Tryz.prog.unfollowed 4)=true:=by kernel_rfl
theorem f5:(Rows.scopeRenamesRow.recurses == Tryz.prog.recurses 4)=true:=by kernel_rfl
theorem f6:(Rows.scopeRenamesRow.named == Tryz.prog.varsNamed 4)=true:=by kernel_rfl
theorem f7:Tryz.prog.funcNamed Rows.scopeRenamesRow.func=some 4:=by kernel_rfl
theorem closed:joinedFacts Tryz.prog 4 Tryz.f4 Rows.scopeRenamesSpec Rows.scopeRenamesRow=true:=by
 unfold joinedFacts;rw[f1,f2,f3,f4,f5,f6]
 kernel_rfl
theorem over:Rows.scopeRenamesRow.holds Tryz.pinned (OpenSpec.ofChange Rows.scopeRenamesSpec) :=
 OpenClaim.holds_of_wide 4 Tryz.f4 rfl rfl rfl rfl rfl rfl rfl ⟨rfl,rfl,rfl,rfl,rfl⟩ rfl rfl rfl rfl rfl f7 Tryz.func4 closed
  (of_decide_eq_true (by kernel_rfl)) (by unfold Func.isWrapper;first|(rw[if_pos (by decide +kernel)];kernel_rfl)|(rw[if_neg (by decide +kernel)];exact⟨rfl,rfl⟩))
  (fun os started H enc _=>lifted os started H enc)
theorem g1:Rows.scopeRenamesRow.wfByText (OpenSpec.ofChange Rows.scopeRenamesSpec)=true:=by kernel_rfl
theorem g2:Tryz.prog.mainIs=some (true,"d7b32fdfea93c6c1614583757260bf6d65fbbe1cb7a51f20f12ab3512babff55".toList):=by kernel_rfl
theorem g3:false=Tryz.prog.looks []:=by kernel_rfl
theorem g4:([9,9].all fun u=>!Tryz.prog.wantsStandIn u)=true:=by kernel_rfl
theorem g5:false=Rows.scopeRenamesRow.goesBy Tryz.prog:=by kernel_rfl
theorem proved:Rows.ScopeRenamesCardSaid :=
 Claim7.holds_tied_plain_at .later [] [.data,.data,.data,.data,.pinned] true (true,"d7b32fdfea93c6c1614583757260bf6d65fbbe1cb7a51f20f12ab3512babff55") false
  over (fun _ h=>by cases h) g1 (fun _ h=>by cases h) scopeRenames_row_tie rfl ⟨rfl,rfl⟩ g2 rfl
  (fun f fn hf hfn=>by
   obtain rfl:f=4:=kR (f7.symm.trans hf) |>.symm
   obtain rfl:fn=Tryz.f4:=(kR (Tryz.func4.symm.trans hfn)).symm
   exact⟨g3,fun j t ht=>by
    rw[Tryz.params4] at ht
    have hm:t∈[9,9]:=by simpa using Array.mem_of_getElem? ht
    have hall:=g4
    exact(show Tryz.prog.wantsStandIn t=false by simpa using List.all_eq_true.1 hall t hm)⟩)
  g5
#print axioms proved
