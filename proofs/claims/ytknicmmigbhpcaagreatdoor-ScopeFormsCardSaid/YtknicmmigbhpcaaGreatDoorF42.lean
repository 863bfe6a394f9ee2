/- ScopeForms holds: at all arguments the law returns true. The condition: the listed tables of math/bits, internal/strconv and unicode/utf8 hold at the start what the program's text lays in them (the card ties that). -/
import Derived.Test.YtknicmmigbhpcaaGreatDoorF40
import Derived.Test.YtknicmmigbhpcaaGreatDoorF41
import Derived.Test.YtknicmmigbhpcaaGreatDoorTie
import Derived.Test.YtknicmmigbhpcaaGreatDoorCards
import Derived.PinnedBridge
import Derived.Lay
import Derived.LaidMore
import Derived.SevenTiedAt
set_option maxHeartbeats 16000000
set_option maxRecDepth 100000
set_option linter.unusedVariables false
set_option linter.unusedSimpArgs false
namespace Go.Proofs.YtknicmmigbhpcaaGreatDoor.scopeForms
open Go.ChangeShapes Go.WideShapes Go.ChangeAt Go.RowKit
set_option linter.unusedVariables false
theorem own:ownKnob Tryz.prog.godebug=none:=by kernel_rfl
theorem lifted (os:Os)(started:os.Started)(H:Type)(enc:TypeId × Value→H) :
  ReturnsInHanded {} Tryz.checked os 6 .any (fun w args=>(Rows.scopeFormsSpec.pre enc Tryz.prog Tryz.f6 [] false w args∧laidMetH Tryz.prog Rows.scopeFormsRow.laid w)∧sizedMet enc Tryz.prog Tryz.f6 (OpenSpec.ofChange Rows.scopeFormsSpec) false w args)
   (Rows.scopeFormsSpec.post enc Tryz.prog Tryz.f6 false true false false):=by
 refine returnsInHanded_of_change_and (C:=Tryz.checked) (X:=fun w _=>laidMetH Tryz.prog Rows.scopeFormsRow.laid w) (fun _ _ _ hh h=>h.of_heap hh) own started (by kernel_rfl) Tryz.func6
  (ChangeSpec.witness_shaped (enc:=enc) (C:=Tryz.checked) (os:=os) (X:=fun w _=>laidMetH Tryz.prog Rows.scopeFormsRow.laid w) false (World.laidAll Tryz.prog os Rows.scopeFormsRow.laid) #[.string ByteArray.empty,.string ByteArray.empty,.int .i64 0,.bool false] 8 (World.laidAll_os _ _ _)
   (World.shaped_of_ZipB (by kernel_rfl) (by kernel_rfl)) (by kernel_rfl) (by kernel_rfl) (by kernel_rfl)
   (by rw[MakeChecks.laidMetH_plain _ _ _ (by kernel_rfl)];exact laidMet_laidAll _ (by kernel_rfl) (by kernel_rfl))) ?_
 intro W base args ds gs before hval0 hW _ _ hL _;have hval:∀ (j:Nat) t v,Tryz.f6.params[j]?=some t→args[j]?=some v→Value.okWide Tryz.prog W .any base t v:=hval0;have hW':=hW;obtain⟨p,q,hA0,hV,rfl,hfz,hnd⟩:=hW;have hA:DataW.TrodAll enc Tryz.prog W 0 (fun _=>true) true Tryz.f6.params.toList args.toList ds p:=hA0;rw[Tryz.params6] at hA hval;obtain⟨v0,vs0,d0,ds0,p0,q0,hargs,rfl,rfl,h0,r0⟩:=trodAll_cons hA;obtain⟨v1,vs1,d1,ds1,p1,q1,rfl,rfl,rfl,h1,r1⟩:=trodAll_cons r0;obtain⟨v2,vs2,d2,ds2,p2,q2,rfl,rfl,rfl,h2,r2⟩:=trodAll_cons r1;obtain⟨v3,vs3,d3,ds3,p3,q3,rfl,rfl,rfl,h3,r3⟩:=trodAll_cons r2;obtain⟨rfl,rfl,rfl⟩:=trodAll_nil r3
 obtain rfl:args=#[v0,v1,v2,v3]:=by cases args;simp_all
 obtain⟨rfl,rfl⟩:=trodVars_none hV;obtain⟨s0,rfl,rfl,rfl,hs0⟩:=ChangeMaps.open_string Tryz.underlying9 (hval 0 9 v0 rfl rfl) h0;obtain⟨s1,rfl,rfl,rfl,hs1⟩:=ChangeMaps.open_string Tryz.underlying9 (hval 1 9 v1 rfl rfl) h1;obtain⟨n2,rfl,rfl,rfl,Fg⟩:=open_int Tryz.underlying3 (hval 2 3 v2 rfl rfl) h2
 have hn2:-9223372036854775808≤n2∧n2≤9223372036854775807:=by simpa [Lit.wf,IntKind.min,IntKind.max,IntKind.signed,IntKind.bits] using Fg
 obtain⟨b3,rfl,rfl,rfl⟩:=open_bool Tryz.underlying4 (hval 3 4 v3 rfl rfl) h3;clear hA0 hval0 hL
 refine(UH s0 s1 n2 b3 W hs0 hs1 hn2.1 hn2.2).mono fun e W' ⟨he,hg⟩=>?_
 subst he;exact⟨_,rfl,Yq (tb:=4) (by kernel_rfl) (by kernel_rfl) rfl rfl Tryz.underlying4 hW' rfl rfl rfl hg⟩
theorem f1:laidOutB Tryz.prog=true:=by kernel_rfl
theorem f2:mapsRowed Tryz.prog=true:=by kernel_rfl
theorem f3:(Rows.scopeFormsRow.inPlace == Tryz.prog.inPlace 6)=true:=by kernel_rfl
theorem f4:(Rows.scopeFormsRow.unfollowed == Tryz.prog.unfollowed 6)=true:=by kernel_rfl
theorem f5:(Rows.scopeFormsRow.recurses == Tryz.prog.recurses 6)=true:=by kernel_rfl
theorem f6:(Rows.scopeFormsRow.named == Tryz.prog.varsNamed 6)=true:=by kernel_rfl
theorem f7:Tryz.prog.funcNamed Rows.scopeFormsRow.func=some 6:=by kernel_rfl
theorem closed:joinedFacts Tryz.prog 6 Tryz.f6 Rows.scopeFormsSpec Rows.scopeFormsRow=true:=by
 unfold joinedFacts;rw[f1,f2,f3,f4,f5,f6]
 kernel_rfl
theorem over:Rows.scopeFormsRow.holds Tryz.pinned (OpenSpec.ofChange Rows.scopeFormsSpec) :=
 OpenClaim.holds_of_wide 6 Tryz.f6 rfl rfl rfl rfl rfl rfl rfl ⟨rfl,rfl,rfl,rfl,rfl⟩ rfl rfl rfl rfl rfl f7 Tryz.func6 closed
  (of_decide_eq_true (by kernel_rfl)) (by unfold Func.isWrapper;first|(rw[if_pos (by decide +kernel)];kernel_rfl)|(rw[if_neg (by decide +kernel)];exact⟨rfl,rfl⟩))
  (fun os started H enc _=>lifted os started H enc)
theorem g1:Rows.scopeFormsRow.wfByText (OpenSpec.ofChange Rows.scopeFormsSpec)=true:=by kernel_rfl
theorem g2:Tryz.prog.mainIs=some (true,"a8295384e831205a1af92afd9b4d7f7cc0fcd504f15a93279809f598cf219f0b".toList):=by kernel_rfl
theorem g3:false=Tryz.prog.looks []:=by kernel_rfl
theorem g4:([9,9,3,4].all fun u=>!Tryz.prog.wantsStandIn u)=true:=by kernel_rfl
theorem g5:false=Rows.scopeFormsRow.goesBy Tryz.prog:=by kernel_rfl
theorem proved:Rows.ScopeFormsCardSaid :=
 Claim7.holds_tied_plain_at .later [] [.data,.data,.data,.data,.pinned] true (true,"a8295384e831205a1af92afd9b4d7f7cc0fcd504f15a93279809f598cf219f0b") false
  over (fun _ h=>by cases h) g1 (fun _ h=>by cases h) scopeForms_row_tie rfl ⟨rfl,rfl⟩ g2 rfl
  (fun f fn hf hfn=>by
   obtain rfl:f=6:=Option.some.inj (f7.symm.trans hf) |>.symm
   obtain rfl:fn=Tryz.f6:=(Option.some.inj (Tryz.func6.symm.trans hfn)).symm
   exact⟨g3,fun j t ht=>by
    rw[Tryz.params6] at ht
    have hm:t∈[9,9,3,4]:=by simpa using Array.mem_of_getElem? ht
    have hall:=g4
    exact(show Tryz.prog.wantsStandIn t=false by simpa using List.all_eq_true.1 hall t hm)⟩)
  g5
#print axioms proved
end Go.Proofs.YtknicmmigbhpcaaGreatDoor.scopeForms
