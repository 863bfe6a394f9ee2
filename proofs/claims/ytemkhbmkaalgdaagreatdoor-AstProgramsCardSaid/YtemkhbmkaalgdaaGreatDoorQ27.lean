/- Walks and plain laws: SetAtR. -/
import Derived.Test.YtemkhbmkaalgdaaGreatDoorQ22
set_option maxHeartbeats 16000000
set_option maxRecDepth 100000
namespace Go.Proofs.YtemkhbmkaalgdaaGreatDoor
open Go.RowKit Go
theorem fset14_cell (w:World)(b:Nat)(v0 v1 v2 v3 v4 v5 v6 v7 v8 v9 v10 v11 v12 v13:Value){k j:Nat}(h:k≠b):((((((((((((((w.setCell ⟨b,0,none⟩ v0).setCell ⟨b,1,none⟩ v1).setCell ⟨b,2,none⟩ v2).setCell ⟨b,3,none⟩ v3).setCell ⟨b,4,none⟩ v4).setCell ⟨b,5,none⟩ v5).setCell ⟨b,6,none⟩ v6).setCell ⟨b,7,none⟩ v7).setCell ⟨b,8,none⟩ v8).setCell ⟨b,9,none⟩ v9).setCell ⟨b,10,none⟩ v10).setCell ⟨b,11,none⟩ v11).setCell ⟨b,12,none⟩ v12).setCell ⟨b,13,none⟩ v13).cell? ⟨k,j,none⟩=w.cell? ⟨k,j,none⟩ :=
 setAt_cell h [v0,v1,v2,v3,v4,v5,v6,v7,v8,v9,v10,v11,v12,v13] 0 w
theorem fset14_same {w:World}{b:Nat}{T:TypeId}{c0 c1 c2 c3 c4 c5 c6 c7 c8 c9 c10 c11 c12 c13:Value}(h:w.heap[b]?=some (.cells #[c0,c1,c2,c3,c4,c5,c6,c7,c8,c9,c10,c11,c12,c13] T (0,0)))(v0 v1 v2 v3 v4 v5 v6 v7 v8 v9 v10 v11 v12 v13:Value):((((((((((((((w.setCell ⟨b,0,none⟩ v0).setCell ⟨b,1,none⟩ v1).setCell ⟨b,2,none⟩ v2).setCell ⟨b,3,none⟩ v3).setCell ⟨b,4,none⟩ v4).setCell ⟨b,5,none⟩ v5).setCell ⟨b,6,none⟩ v6).setCell ⟨b,7,none⟩ v7).setCell ⟨b,8,none⟩ v8).setCell ⟨b,9,none⟩ v9).setCell ⟨b,10,none⟩ v10).setCell ⟨b,11,none⟩ v11).setCell ⟨b,12,none⟩ v12).setCell ⟨b,13,none⟩ v13).heap[b]?=some (.cells #[v0,v1,v2,v3,v4,v5,v6,v7,v8,v9,v10,v11,v12,v13] T (0,0)):=by
 have h1:(w.setCell ⟨b,0,none⟩ v0).heap[b]?=some (.cells #[v0,c1,c2,c3,c4,c5,c6,c7,c8,c9,c10,c11,c12,c13] T (0,0)):=heap_setCell_same _ b 0 _ _ v0 h
 generalize w.setCell ⟨b,0,none⟩ v0=x1 at h1 ⊢
 have h2:(x1.setCell ⟨b,1,none⟩ v1).heap[b]?=some (.cells #[v0,v1,c2,c3,c4,c5,c6,c7,c8,c9,c10,c11,c12,c13] T (0,0)):=heap_setCell_same _ b 1 _ _ v1 h1
 generalize x1.setCell ⟨b,1,none⟩ v1=x2 at h2 ⊢
 have h3:(x2.setCell ⟨b,2,none⟩ v2).heap[b]?=some (.cells #[v0,v1,v2,c3,c4,c5,c6,c7,c8,c9,c10,c11,c12,c13] T (0,0)):=heap_setCell_same _ b 2 _ _ v2 h2
 generalize x2.setCell ⟨b,2,none⟩ v2=x3 at h3 ⊢
 have h4:(x3.setCell ⟨b,3,none⟩ v3).heap[b]?=some (.cells #[v0,v1,v2,v3,c4,c5,c6,c7,c8,c9,c10,c11,c12,c13] T (0,0)):=heap_setCell_same _ b 3 _ _ v3 h3
 generalize x3.setCell ⟨b,3,none⟩ v3=x4 at h4 ⊢
 have h5:(x4.setCell ⟨b,4,none⟩ v4).heap[b]?=some (.cells #[v0,v1,v2,v3,v4,c5,c6,c7,c8,c9,c10,c11,c12,c13] T (0,0)):=heap_setCell_same _ b 4 _ _ v4 h4
 generalize x4.setCell ⟨b,4,none⟩ v4=x5 at h5 ⊢
 have h6:(x5.setCell ⟨b,5,none⟩ v5).heap[b]?=some (.cells #[v0,v1,v2,v3,v4,v5,c6,c7,c8,c9,c10,c11,c12,c13] T (0,0)):=heap_setCell_same _ b 5 _ _ v5 h5
 generalize x5.setCell ⟨b,5,none⟩ v5=x6 at h6 ⊢
 have h7:(x6.setCell ⟨b,6,none⟩ v6).heap[b]?=some (.cells #[v0,v1,v2,v3,v4,v5,v6,c7,c8,c9,c10,c11,c12,c13] T (0,0)):=heap_setCell_same _ b 6 _ _ v6 h6
 generalize x6.setCell ⟨b,6,none⟩ v6=x7 at h7 ⊢
 have h8:(x7.setCell ⟨b,7,none⟩ v7).heap[b]?=some (.cells #[v0,v1,v2,v3,v4,v5,v6,v7,c8,c9,c10,c11,c12,c13] T (0,0)):=heap_setCell_same _ b 7 _ _ v7 h7
 generalize x7.setCell ⟨b,7,none⟩ v7=x8 at h8 ⊢
 have h9:(x8.setCell ⟨b,8,none⟩ v8).heap[b]?=some (.cells #[v0,v1,v2,v3,v4,v5,v6,v7,v8,c9,c10,c11,c12,c13] T (0,0)):=heap_setCell_same _ b 8 _ _ v8 h8
 generalize x8.setCell ⟨b,8,none⟩ v8=x9 at h9 ⊢
 have h10:(x9.setCell ⟨b,9,none⟩ v9).heap[b]?=some (.cells #[v0,v1,v2,v3,v4,v5,v6,v7,v8,v9,c10,c11,c12,c13] T (0,0)):=heap_setCell_same _ b 9 _ _ v9 h9
 generalize x9.setCell ⟨b,9,none⟩ v9=x10 at h10 ⊢
 have h11:(x10.setCell ⟨b,10,none⟩ v10).heap[b]?=some (.cells #[v0,v1,v2,v3,v4,v5,v6,v7,v8,v9,v10,c11,c12,c13] T (0,0)):=heap_setCell_same _ b 10 _ _ v10 h10
 generalize x10.setCell ⟨b,10,none⟩ v10=x11 at h11 ⊢
 have h12:(x11.setCell ⟨b,11,none⟩ v11).heap[b]?=some (.cells #[v0,v1,v2,v3,v4,v5,v6,v7,v8,v9,v10,v11,c12,c13] T (0,0)):=heap_setCell_same _ b 11 _ _ v11 h11
 generalize x11.setCell ⟨b,11,none⟩ v11=x12 at h12 ⊢
 have h13:(x12.setCell ⟨b,12,none⟩ v12).heap[b]?=some (.cells #[v0,v1,v2,v3,v4,v5,v6,v7,v8,v9,v10,v11,v12,c13] T (0,0)):=heap_setCell_same _ b 12 _ _ v12 h12
 generalize x12.setCell ⟨b,12,none⟩ v12=x13 at h13 ⊢
 have h14:(x13.setCell ⟨b,13,none⟩ v13).heap[b]?=some (.cells #[v0,v1,v2,v3,v4,v5,v6,v7,v8,v9,v10,v11,v12,v13] T (0,0)):=heap_setCell_same _ b 13 _ _ v13 h13
 exact h14
theorem fset14_below {B b:Nat}{w0 w:World}(h:Below B w0 w)(hb:B≤b)(v0 v1 v2 v3 v4 v5 v6 v7 v8 v9 v10 v11 v12 v13:Value):Below B w0 ((((((((((((((w.setCell ⟨b,0,none⟩ v0).setCell ⟨b,1,none⟩ v1).setCell ⟨b,2,none⟩ v2).setCell ⟨b,3,none⟩ v3).setCell ⟨b,4,none⟩ v4).setCell ⟨b,5,none⟩ v5).setCell ⟨b,6,none⟩ v6).setCell ⟨b,7,none⟩ v7).setCell ⟨b,8,none⟩ v8).setCell ⟨b,9,none⟩ v9).setCell ⟨b,10,none⟩ v10).setCell ⟨b,11,none⟩ v11).setCell ⟨b,12,none⟩ v12).setCell ⟨b,13,none⟩ v13) :=
 setAt_below hb [v0,v1,v2,v3,v4,v5,v6,v7,v8,v9,v10,v11,v12,v13] 0 h
theorem fset14_alk (P:Nat→Prop)(w:World)(b:Nat)(v0 v1 v2 v3 v4 v5 v6 v7 v8 v9 v10 v11 v12 v13:Value)(hP:∀ k,P k→k≠b):Alk P w ((((((((((((((w.setCell ⟨b,0,none⟩ v0).setCell ⟨b,1,none⟩ v1).setCell ⟨b,2,none⟩ v2).setCell ⟨b,3,none⟩ v3).setCell ⟨b,4,none⟩ v4).setCell ⟨b,5,none⟩ v5).setCell ⟨b,6,none⟩ v6).setCell ⟨b,7,none⟩ v7).setCell ⟨b,8,none⟩ v8).setCell ⟨b,9,none⟩ v9).setCell ⟨b,10,none⟩ v10).setCell ⟨b,11,none⟩ v11).setCell ⟨b,12,none⟩ v12).setCell ⟨b,13,none⟩ v13) :=
 setAt_alk hP [v0,v1,v2,v3,v4,v5,v6,v7,v8,v9,v10,v11,v12,v13] 0 w
theorem fset5_cell (w:World)(b:Nat)(v0 v1 v2 v3 v4:Value){k j:Nat}(h:k≠b):(((((w.setCell ⟨b,2,none⟩ v0).setCell ⟨b,3,none⟩ v1).setCell ⟨b,4,none⟩ v2).setCell ⟨b,5,none⟩ v3).setCell ⟨b,6,none⟩ v4).cell? ⟨k,j,none⟩=w.cell? ⟨k,j,none⟩ :=
 setAt_cell h [v0,v1,v2,v3,v4] 2 w
theorem fset5_same {w:World}{b:Nat}{T:TypeId}{c0 c1 c2 c3 c4 c5 c6 c7 c8 c9 c10 c11 c12 c13:Value}(h:w.heap[b]?=some (.cells #[c0,c1,c2,c3,c4,c5,c6,c7,c8,c9,c10,c11,c12,c13] T (0,0)))(v0 v1 v2 v3 v4:Value):(((((w.setCell ⟨b,2,none⟩ v0).setCell ⟨b,3,none⟩ v1).setCell ⟨b,4,none⟩ v2).setCell ⟨b,5,none⟩ v3).setCell ⟨b,6,none⟩ v4).heap[b]?=some (.cells #[c0,c1,v0,v1,v2,v3,v4,c7,c8,c9,c10,c11,c12,c13] T (0,0)):=by
 have h1:(w.setCell ⟨b,2,none⟩ v0).heap[b]?=some (.cells #[c0,c1,v0,c3,c4,c5,c6,c7,c8,c9,c10,c11,c12,c13] T (0,0)):=heap_setCell_same _ b 2 _ _ v0 h
 generalize w.setCell ⟨b,2,none⟩ v0=x1 at h1 ⊢
 have h2:(x1.setCell ⟨b,3,none⟩ v1).heap[b]?=some (.cells #[c0,c1,v0,v1,c4,c5,c6,c7,c8,c9,c10,c11,c12,c13] T (0,0)):=heap_setCell_same _ b 3 _ _ v1 h1
 generalize x1.setCell ⟨b,3,none⟩ v1=x2 at h2 ⊢
 have h3:(x2.setCell ⟨b,4,none⟩ v2).heap[b]?=some (.cells #[c0,c1,v0,v1,v2,c5,c6,c7,c8,c9,c10,c11,c12,c13] T (0,0)):=heap_setCell_same _ b 4 _ _ v2 h2
 generalize x2.setCell ⟨b,4,none⟩ v2=x3 at h3 ⊢
 have h4:(x3.setCell ⟨b,5,none⟩ v3).heap[b]?=some (.cells #[c0,c1,v0,v1,v2,v3,c6,c7,c8,c9,c10,c11,c12,c13] T (0,0)):=heap_setCell_same _ b 5 _ _ v3 h3
 generalize x3.setCell ⟨b,5,none⟩ v3=x4 at h4 ⊢
 have h5:(x4.setCell ⟨b,6,none⟩ v4).heap[b]?=some (.cells #[c0,c1,v0,v1,v2,v3,v4,c7,c8,c9,c10,c11,c12,c13] T (0,0)):=heap_setCell_same _ b 6 _ _ v4 h4
 exact h5
theorem fset5_below {B b:Nat}{w0 w:World}(h:Below B w0 w)(hb:B≤b)(v0 v1 v2 v3 v4:Value):Below B w0 (((((w.setCell ⟨b,2,none⟩ v0).setCell ⟨b,3,none⟩ v1).setCell ⟨b,4,none⟩ v2).setCell ⟨b,5,none⟩ v3).setCell ⟨b,6,none⟩ v4) :=
 setAt_below hb [v0,v1,v2,v3,v4] 2 h
theorem fset5_alk (P:Nat→Prop)(w:World)(b:Nat)(v0 v1 v2 v3 v4:Value)(hP:∀ k,P k→k≠b):Alk P w (((((w.setCell ⟨b,2,none⟩ v0).setCell ⟨b,3,none⟩ v1).setCell ⟨b,4,none⟩ v2).setCell ⟨b,5,none⟩ v3).setCell ⟨b,6,none⟩ v4) :=
 setAt_alk hP [v0,v1,v2,v3,v4] 2 w
theorem fset7_cell (w:World)(b:Nat)(v0 v1 v2 v3 v4 v5 v6:Value){k j:Nat}(h:k≠b):(((((((w.setCell ⟨b,7,none⟩ v0).setCell ⟨b,8,none⟩ v1).setCell ⟨b,9,none⟩ v2).setCell ⟨b,10,none⟩ v3).setCell ⟨b,11,none⟩ v4).setCell ⟨b,12,none⟩ v5).setCell ⟨b,13,none⟩ v6).cell? ⟨k,j,none⟩=w.cell? ⟨k,j,none⟩ :=
 setAt_cell h [v0,v1,v2,v3,v4,v5,v6] 7 w
theorem fset7_same {w:World}{b:Nat}{T:TypeId}{c0 c1 c2 c3 c4 c5 c6 c7 c8 c9 c10 c11 c12 c13:Value}(h:w.heap[b]?=some (.cells #[c0,c1,c2,c3,c4,c5,c6,c7,c8,c9,c10,c11,c12,c13] T (0,0)))(v0 v1 v2 v3 v4 v5 v6:Value):(((((((w.setCell ⟨b,7,none⟩ v0).setCell ⟨b,8,none⟩ v1).setCell ⟨b,9,none⟩ v2).setCell ⟨b,10,none⟩ v3).setCell ⟨b,11,none⟩ v4).setCell ⟨b,12,none⟩ v5).setCell ⟨b,13,none⟩ v6).heap[b]?=some (.cells #[c0,c1,c2,c3,c4,c5,c6,v0,v1,v2,v3,v4,v5,v6] T (0,0)):=by
 have h1:(w.setCell ⟨b,7,none⟩ v0).heap[b]?=some (.cells #[c0,c1,c2,c3,c4,c5,c6,v0,c8,c9,c10,c11,c12,c13] T (0,0)):=heap_setCell_same _ b 7 _ _ v0 h
 generalize w.setCell ⟨b,7,none⟩ v0=x1 at h1 ⊢
 have h2:(x1.setCell ⟨b,8,none⟩ v1).heap[b]?=some (.cells #[c0,c1,c2,c3,c4,c5,c6,v0,v1,c9,c10,c11,c12,c13] T (0,0)):=heap_setCell_same _ b 8 _ _ v1 h1
 generalize x1.setCell ⟨b,8,none⟩ v1=x2 at h2 ⊢
 have h3:(x2.setCell ⟨b,9,none⟩ v2).heap[b]?=some (.cells #[c0,c1,c2,c3,c4,c5,c6,v0,v1,v2,c10,c11,c12,c13] T (0,0)):=heap_setCell_same _ b 9 _ _ v2 h2
 generalize x2.setCell ⟨b,9,none⟩ v2=x3 at h3 ⊢
 have h4:(x3.setCell ⟨b,10,none⟩ v3).heap[b]?=some (.cells #[c0,c1,c2,c3,c4,c5,c6,v0,v1,v2,v3,c11,c12,c13] T (0,0)):=heap_setCell_same _ b 10 _ _ v3 h3
 generalize x3.setCell ⟨b,10,none⟩ v3=x4 at h4 ⊢
 have h5:(x4.setCell ⟨b,11,none⟩ v4).heap[b]?=some (.cells #[c0,c1,c2,c3,c4,c5,c6,v0,v1,v2,v3,v4,c12,c13] T (0,0)):=heap_setCell_same _ b 11 _ _ v4 h4
 generalize x4.setCell ⟨b,11,none⟩ v4=x5 at h5 ⊢
 have h6:(x5.setCell ⟨b,12,none⟩ v5).heap[b]?=some (.cells #[c0,c1,c2,c3,c4,c5,c6,v0,v1,v2,v3,v4,v5,c13] T (0,0)):=heap_setCell_same _ b 12 _ _ v5 h5
 generalize x5.setCell ⟨b,12,none⟩ v5=x6 at h6 ⊢
 have h7:(x6.setCell ⟨b,13,none⟩ v6).heap[b]?=some (.cells #[c0,c1,c2,c3,c4,c5,c6,v0,v1,v2,v3,v4,v5,v6] T (0,0)):=heap_setCell_same _ b 13 _ _ v6 h6
 exact h7
theorem fset7_below {B b:Nat}{w0 w:World}(h:Below B w0 w)(hb:B≤b)(v0 v1 v2 v3 v4 v5 v6:Value):Below B w0 (((((((w.setCell ⟨b,7,none⟩ v0).setCell ⟨b,8,none⟩ v1).setCell ⟨b,9,none⟩ v2).setCell ⟨b,10,none⟩ v3).setCell ⟨b,11,none⟩ v4).setCell ⟨b,12,none⟩ v5).setCell ⟨b,13,none⟩ v6) :=
 setAt_below hb [v0,v1,v2,v3,v4,v5,v6] 7 h
theorem fset7_alk (P:Nat→Prop)(w:World)(b:Nat)(v0 v1 v2 v3 v4 v5 v6:Value)(hP:∀ k,P k→k≠b):Alk P w (((((((w.setCell ⟨b,7,none⟩ v0).setCell ⟨b,8,none⟩ v1).setCell ⟨b,9,none⟩ v2).setCell ⟨b,10,none⟩ v3).setCell ⟨b,11,none⟩ v4).setCell ⟨b,12,none⟩ v5).setCell ⟨b,13,none⟩ v6) :=
 setAt_alk hP [v0,v1,v2,v3,v4,v5,v6] 7 w
theorem fdef_cells {w:World}{b:Nat}{c0 c1 c2 c3 c4 c5 c6 c7 c8 c9 c10 c11 c12 c13:Value}{T:TypeId}(h:w.heap[b]?=some (.cells #[c0,c1,c2,c3,c4,c5,c6,c7,c8,c9,c10,c11,c12,c13] T (0,0))):(w.cell? ⟨b,0,none⟩=some c0∧w.cell? ⟨b,1,none⟩=some c1∧w.cell? ⟨b,2,none⟩=some c2∧w.cell? ⟨b,3,none⟩=some c3∧w.cell? ⟨b,4,none⟩=some c4∧w.cell? ⟨b,5,none⟩=some c5∧w.cell? ⟨b,6,none⟩=some c6)∧(w.cell? ⟨b,7,none⟩=some c7∧w.cell? ⟨b,8,none⟩=some c8∧w.cell? ⟨b,9,none⟩=some c9∧w.cell? ⟨b,10,none⟩=some c10∧w.cell? ⟨b,11,none⟩=some c11∧w.cell? ⟨b,12,none⟩=some c12∧w.cell? ⟨b,13,none⟩=some c13)∧∀ j,w.frozen? ⟨b,j,none⟩=false:=by
 refine ⟨⟨?_,?_,?_,?_,?_,?_,?_⟩,⟨?_,?_,?_,?_,?_,?_,?_⟩,fun j=>by simp [World.frozen?,h]⟩ <;> (rw [Lib.cell_of_heap h];rfl)
end Go.Proofs.YtemkhbmkaalgdaaGreatDoor
