/- TypesKept holds: at all arguments the law returns true. The condition: the listed tables of math/bits, internal/strconv, unicode/utf8 hold at the start what the program lays in them (the card ties that). -/
import Derived.Test.YtmleecdnkmoohaaGreatDoorK23
import Derived.Test.YtmleecdnkmoohaaGreatDoorTie
import Derived.Test.YtmleecdnkmoohaaGreatDoorCards
import Derived.ProofKit
import Derived.OpenShut
import Derived.OpenVars
import Derived.PinnedBridge
import Derived.Lay
import Derived.LaidMore
import Derived.SevenTiedAt
set_option maxHeartbeats 16000000
set_option maxRecDepth 100000
set_option linter.unusedVariables false
set_option linter.unusedSimpArgs false
namespace Go.Proofs.YtmleecdnkmoohaaGreatDoor.typesKept
open Go.ChangeShapes Go.WideShapes Go.ChangeAt Go.RowKit Go.Proofs.YtmleecdnkmoohaaGreatDoor.Rows Go.Proofs.Tryz
theorem yJ {H:Type}{enc:TypeId × Value->H}{P:Program}(hl:laidOutB P=true){W W':World}(hb:Below W.heap.size W W'):∀ {ts:List TypeId} {vs:List Value} {ds:List (DataW H)} {ps:List MemPlace},
  ts.all (λt=>P.readableRec t && decide (t<P.types.size))=true->DataW.TrodAll enc P W 0 (λ_=>true) true ts vs ds ps->(∀ x∈ps,x.block<W.heap.size) ->
  DataW.TrodAll enc P W' 0 (λb=>decide (b<W.heap.size)) true ts vs ds ps
 | [],[],[],_,_,h,_=>h
 | [],_ :: _,_,_,_,h,_=>h.elim
 | [],[],_ :: _,_,_,h,_=>h.elim
 | _ :: _,[],_,_,_,h,_=>h.elim
 | _ :: _,_ :: _,[],_,_,h,_=>h.elim
 | t :: ts,v :: vs,d :: ds,_,ha,h,hlt=>by
  obtain⟨p,q,h1,h2,rfl⟩:=h;simp only[List.all_cons,Bool.and_eq_true,decide_eq_true_eq] at ha;exact⟨p,q,Below.trod hl ha.1.1 ha.1.2 h1 hb (λx hx=>hlt x (List.mem_append_left _ hx)),yJ hl hb ha.2 h2 (λx hx=>hlt x (List.mem_append_right _ hx)),rfl⟩
theorem abS {H:Type}{enc:TypeId × Value->H}{P:Program}{f:Func}{s:ChangeSpec}{W W':World}{args:Array Value}{ds gs:List (DataW H)}{before:List MemPlace}{tb:TypeId}
  (hl:laidOutB P=true) (hp:f.params.toList.all (λt=>P.readableRec t && decide (t<P.types.size))=true) (hv:varsRowed P s.vars=true) (hr:f.resultTypes=#[tb]) (htb:P.underlying tb=some .bool)
  (hW:DataW.Whole enc P f.params.toList s.vars false W args.toList ds gs before) (hf1:(s.fn H (ds++gs)).results=[.lit (.bool true)]) (hf2:(s.fn H (ds++gs)).args=ds) (hf3:(s.fn H (ds++gs)).vars=gs)
  (hb:Below W.heap.size W W'):s.post enc P f false true false false W args (.bool true) W':=by
 have hlt:=hW.lt;have hW':=hW;obtain⟨p,q,hA,hV,rfl,hfz,hnd⟩:=hW;refine⟨ds,gs,p++q,[]++[],p,q,hW',?_,?_,?_,hb.frame _,λh=>by cases h⟩
 ·rw[hr,hf1]
  exact⟨[],[],shut_bool htb true,rfl,rfl⟩
 ·rw[hf2]
  exact yJ hl hb hp hA (λx hx=>hlt x (List.mem_append_left _ hx))
 ·rw[hf3]
  exact Below.trodVars hl hb hv hV
theorem own:ownKnob prog.godebug=.none:=by kernel_rfl
theorem lf (os:Os)(started:os.Started)(H:Type)(enc:TypeId × Value->H) :
  ReturnsInHanded {} checked os 3 .any (λw args=>(typesKeptSpec.pre enc prog Tryz.f3 [] false w args/\laidMetH prog typesKeptRow.laid w)/\sizedMet enc prog Tryz.f3 (OpenSpec.ofChange typesKeptSpec) false w args)
   (typesKeptSpec.post enc prog Tryz.f3 false true false false):=by
 refine returnsInHanded_of_change_and (C:=checked) (X:=λw _=>laidMetH prog typesKeptRow.laid w) (λ_ _ _ hh h=>h.of_heap hh) own started (by kernel_rfl) func3
  (ChangeSpec.witness_shaped (enc:=enc) (C:=checked) (os:=os) (X:=λw _=>laidMetH prog typesKeptRow.laid w) false (World.laidAll prog os typesKeptRow.laid) #[.string ByteArray.empty] 8 (World.laidAll_os _ _ _)
   (World.shaped_of_ZipB (by kernel_rfl) (by kernel_rfl)) (by kernel_rfl) (by kernel_rfl) (by kernel_rfl)
   (by rw[MakeChecks.laidMetH_plain _ _ _ (by kernel_rfl)];exact laidMet_laidAll _ (by kernel_rfl) (by kernel_rfl))) ?_
 intro W base args ds gs before hval0 hW _ _ hL _;have hval:∀ (j:Nat) t v,Tryz.f3.params[j]?=some t->args[j]?=some v->Value.okWide prog W .any base t v:=hval0;have hW':=hW;obtain⟨p,q,hA0,hV,rfl,hfz,hnd⟩:=hW;have hA:DataW.TrodAll enc prog W 0 (λ_=>true) true Tryz.f3.params.toList args.toList ds p:=hA0;rw[params3] at hA hval;obtain⟨v0,vs0,d0,ds0,p0,q0,hargs,rfl,rfl,h0,r0⟩:=trodAll_cons hA;obtain⟨rfl,rfl,rfl⟩:=trodAll_nil r0
 obtain rfl:args=#[v0]:=by cases args;simp_all
 obtain⟨rfl,rfl⟩:=trodVars_none hV;obtain⟨s0,rfl,rfl,rfl,hs0⟩:=ChangeMaps.open_string underlying9 (hval 0 9 v0 rfl rfl) h0;clear hA0 hval0 hL
 refine(Xd s0 W hs0).mono λe W' ⟨he,hg⟩=>?_
 subst he;exact⟨_,rfl,abS (tb:=4) (by kernel_rfl) (by kernel_rfl) rfl rfl underlying4 hW' rfl rfl rfl hg⟩
theorem f1:laidOutB prog=true:=by kernel_rfl
theorem f2:mapsRowed prog=true:=by kernel_rfl
theorem f3:(typesKeptRow.inPlace == prog.inPlace 3)=true:=by kernel_rfl
theorem f4:(typesKeptRow.unfollowed == prog.unfollowed 3)=true:=by kernel_rfl
theorem f5:(typesKeptRow.recurses == prog.recurses 3)=true:=by kernel_rfl
theorem f6:(typesKeptRow.named == prog.varsNamed 3)=true:=by kernel_rfl
theorem f7:prog.funcNamed typesKeptRow.func=some 3:=by kernel_rfl
theorem cl:joinedFacts prog 3 Tryz.f3 typesKeptSpec typesKeptRow=true:=by
 unfold joinedFacts;rw[f1,f2,f3,f4,f5,f6]
 kernel_rfl
theorem ov:typesKeptRow.holds Tryz.pinned (OpenSpec.ofChange typesKeptSpec) :=
 OpenClaim.holds_of_wide 3 Tryz.f3 rfl rfl rfl rfl rfl rfl rfl ⟨rfl,rfl,rfl,rfl,rfl⟩ rfl rfl rfl rfl rfl f7 func3 cl
  (PY (by kernel_rfl)) (by unfold Func.isWrapper;first|(rw[bR (by decide +kernel)];kernel_rfl)|(rw[aU (by decide +kernel)];exact⟨rfl,rfl⟩))
  (λos started H enc _=>lf os started H enc)
theorem g1:typesKeptRow.wfByText (OpenSpec.ofChange typesKeptSpec)=true:=by kernel_rfl
theorem g2:prog.mainIs=some (true,"3934e05b5dc4c9609c7428ae50d01eaaf189c689776747f0c8a073bf565dc359".toList):=by kernel_rfl
theorem g3:false=prog.looks []:=by kernel_rfl
theorem g4:([9].all λu=>!prog.wantsStandIn u)=true:=by kernel_rfl
theorem g5:false=typesKeptRow.goesBy prog:=by kernel_rfl
theorem proved:Rows.TypesKeptCardSaid :=
 Claim7.holds_tied_plain_at .later [] [.data,.data,.data,.data,.pinned] true (true,"3934e05b5dc4c9609c7428ae50d01eaaf189c689776747f0c8a073bf565dc359") false
  ov (λ_ h=>by cases h) g1 (λ_ h=>by cases h) typesKept_row_tie rfl ⟨rfl,rfl⟩ g2 rfl
  (λf fn hf hfn=>by
   obtain rfl:f=3:=lG (f7.symm.trans hf) |>.symm
   obtain rfl:fn=Tryz.f3:=(lG (func3.symm.trans hfn)).symm
   exact⟨g3,λj t ht=>by
    rw[params3] at ht
    have hm:t∈[9]:=by simpa using Array.mem_of_getElem? ht
    have hall:=g4
    exact(show prog.wantsStandIn t=false by simpa using List.all_eq_true.1 hall t hm)⟩)
  g5
#print axioms proved
