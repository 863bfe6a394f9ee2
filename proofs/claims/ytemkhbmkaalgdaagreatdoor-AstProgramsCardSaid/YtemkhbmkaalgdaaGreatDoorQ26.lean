/- Walks and plain laws: FExprW11, FTypedW, FDefL. -/
import Derived.Test.YtemkhbmkaalgdaaGreatDoorQ25
import Derived.Test.YtemkhbmkaalgdaaGreatDoorQ22
set_option maxHeartbeats 16000000
set_option maxRecDepth 100000
set_option linter.unusedVariables false
set_option linter.unusedSimpArgs false
namespace Go.Proofs.YtemkhbmkaalgdaaGreatDoor
open Go.RowKit Go
def REnv.freads (E:REnv)(e:CE)(u:Nat):Prop:=∀ (i:Nat) (W:World),Rep E.nodes i u e.pt→E.At W→Calls Tryz.prog 65 #[.agg #[E.tv,E.nv],.int .i64 i] W (EPost XR (e.pe E.toks u) W)
theorem fleaf_peek (E:REnv){k u:Nat}(h:E.nodes[k]?=some ⟨19,(u:Nat),[]⟩)(hu:u<E.toks.length)(W:World)(hT:TreeAt E.B W (.agg #[E.tv,E.nv]) E.toks E.nodes)(hB:E.B≤W.heap.size) :
  Calls Tryz.prog 38 #[.agg #[E.tv,E.nv],.int .i64 k] W fun e w'=>e=.returned (tokVal (peekF E.toks u))∧Below W.heap.size W w':=by
 have hp:=tok_peek hu
 rw [List.getElem?_eq_getElem hu] at hp
 injection hp with hp
 rw [← hp]
 exact fleaf_yes E.B E.tv E.nv E.toks E.nodes k u W hT hB h hu
theorem fleaf_text (E:REnv){k u:Nat}{l:List UInt8}(h:E.nodes[k]?=some ⟨19,(u:Nat),[]⟩)(hu:u<E.toks.length)(hl:textAt E.toks u=l)(W:World)(hT:TreeAt E.B W (.agg #[E.tv,E.nv]) E.toks E.nodes)(hB:E.B≤W.heap.size) :
  Calls Tryz.prog 38 #[.agg #[E.tv,E.nv],.int .i64 k] W fun e w'=>e=.returned (tokVal ⟨(peekF E.toks u).kind,(peekF E.toks u).lead,l,(peekF E.toks u).place⟩)∧Below W.heap.size W w':=by
 subst hl
 exact fleaf_peek E h hu W hT hB
theorem fmade_items (E:REnv)(its:List (Option CE))(ks:List Int)(u i:Nat)(k:Int)(hn:E.nodes[i]?=some ⟨k,-1,ks⟩)(hr:RepL E.nodes ks u (its.map itPT))(hlen:ks.length≤1000000000)(hsub:∀ p∈subsF its u,E.freads p.1 p.2)
  (op at_:Nat) (W:World) (hT:TreeAt E.B W (.agg #[E.tv,E.nv]) E.toks E.nodes) (hB:E.B≤W.heap.size) :
  Calls Tryz.prog 95 #[.agg #[E.tv,E.nv],.int .i64 i,.int .i64 op,.int .i64 at_] W (EPost XR (.mk op [] [] 0 [] false ((subsF its u).map fun p=>p.1.pe E.toks p.2) at_) W):=by
 obtain ⟨hi,hni⟩:=List.getElem?_eq_some_iff.1 hn
 obtain ⟨p1,p2⟩:=parts_items its ks u hr
 refine fmade_any E.B E.tv E.nv E.toks E.nodes i op at_ W hT hB hi (by rw [hni];exact repL_ok hr) (by rw [hni];exact hlen) _ (by rw [hni];simp [p1]) ?_
 rw [hni]
 intro j h1 h2 W' hT' hB'
 have h3:j<(subsF its u).length:=by simpa using h1
 have hrep:=p2 j h2 h3
 have hx:=hsub _ (List.getElem_mem h3)
 have hk:=rep_ok hrep
 simp only [List.getElem_map]
 obtain ⟨m,hm⟩:∃ m:Nat,(partsF E.nodes ks)[j]=(m:Int):=⟨((partsF E.nodes ks)[j]).toNat,by omega⟩
 rw [hm] at hrep ⊢
 exact hx m W' hrep ⟨hT',hB'⟩
theorem fsubs_ok {E:REnv}:∀ (l:List CE) (u:Nat),argsOk E.toks E.cl u l→u+lvL (argsPT l)≤E.toks.length→(∀ e∈l,∀ v,e.ok E.toks E.cl v→v+e.pt.lv≤E.toks.length→E.freads e v)→∀ p∈subsF (argsIts l++[none]) u,E.freads p.1 p.2
 | [],u,_,_,_,p,hp=>by simp [argsIts,subsF] at hp
 | [e],u,ho,hl,hr,p,hp=>by
  rw [argsOk] at ho
  rw [argsPT_one] at hl
  simp only [lvL] at hl
  have h:p=(e,u):=by simpa [argsIts,subsF] using hp
  subst h
  exact hr e List.mem_cons_self u ho.1 (by omega)
 | e :: f :: l,u,ho,hl,hr,p,hp=>by
  rw [argsOk] at ho
  rw [argsPT_two] at hl
  simp only [lvL,PT.lv] at hl
  rw [argsIts_two,List.cons_append,List.cons_append,subsF,subsF] at hp
  rcases List.mem_cons.1 hp with rfl|hp
  ·exact hr e List.mem_cons_self u ho.1 (by omega)
  ·exact fsubs_ok (f :: l) _ ho.2 (by omega) (fun x hx=>hr x (List.mem_cons_of_mem _ hx)) p hp
theorem fexpr_reads (E:REnv)(hE:E.ok):∀ (n:Nat) (e:CE) (u:Nat),SizeOf.sizeOf e<n→e.ok E.toks E.cl u→u+e.pt.lv≤E.toks.length→E.freads e u
 | 0,e,u,h,_,_=>absurd h (by omega)
 | n+1,.num,u,_,ho,hl=>by
  intro i W hrep hAt
  rw [CE.ok] at ho
  rw [CE.pt] at hrep hl
  simp only [PT.lv,lvL] at hl
  obtain ⟨ks,hn,hr⟩:=rep_node hrep
  obtain ⟨k0,ks',rfl,h0,_⟩:=repL_leaf hr
  rw [CE.pe]
  exact fexpr_all E.B E.tv E.nv E.toks E.nodes i _ _ W hAt.1 hAt.2 hn k0 rfl _ (fleaf_peek E h0 (by omega)) _ (.num _)
 | n+1,.truth,u,_,ho,hl=>by
  intro i W hrep hAt
  rw [CE.ok] at ho
  rw [CE.pt] at hrep hl
  simp only [PT.lv,lvL] at hl
  obtain ⟨ks,hn,hr⟩:=rep_node hrep
  obtain ⟨k0,ks',rfl,h0,_⟩:=repL_leaf hr
  rw [CE.pe]
  rcases ho with ho|ho
  ·rw [decide_eq_true ho]
   exact fexpr_all E.B E.tv E.nv E.toks E.nodes i _ _ W hAt.1 hAt.2 hn k0 rfl _ (fleaf_peek E h0 (by omega)) _ (.tru _ ho)
  ·rw [decide_eq_false (by rw [ho];decide)]
   exact fexpr_all E.B E.tv E.nv E.toks E.nodes i _ _ W hAt.1 hAt.2 hn k0 rfl _ (fleaf_peek E h0 (by omega)) _ (.fls _ ho)
 | n+1,.res,u,_,ho,hl=>by
  intro i W hrep hAt
  rw [CE.pt] at hrep hl
  simp only [PT.lv,lvL] at hl
  obtain ⟨ks,hn,hr⟩:=rep_node hrep
  obtain ⟨k0,ks',rfl,h0,_⟩:=repL_leaf hr
  rw [CE.pe]
  exact fexpr_all E.B E.tv E.nv E.toks E.nodes i _ _ W hAt.1 hAt.2 hn k0 rfl _ (fleaf_peek E h0 (by omega)) _ (.res _)
 | n+1,.nam,u,_,ho,hl=>by
  intro i W hrep hAt
  rw [CE.pt] at hrep hl
  simp only [PT.lv,lvL] at hl
  obtain ⟨ks,hn,hr⟩:=rep_node hrep
  obtain ⟨k0,ks',rfl,h0,_⟩:=repL_leaf hr
  rw [CE.pe]
  exact fexpr_all E.B E.tv E.nv E.toks E.nodes i _ _ W hAt.1 hAt.2 hn k0 rfl _ (fleaf_peek E h0 (by omega)) _ (.nam _)
 | n+1,.group e,u,hs,ho,hl=>by
  intro i W hrep hAt
  rw [CE.ok] at ho
  rw [CE.pt] at hrep hl
  simp only [PT.lv,lvL] at hl
  simp only [CE.group.sizeOf_spec] at hs
  obtain ⟨ks,hn,hr⟩:=rep_node hrep
  obtain ⟨k0,ks',rfl,h0,hr⟩:=repL_leaf hr
  obtain ⟨k1,ks',rfl,h1,_⟩:=repL_sub hr
  rw [CE.pe]
  exact fexpr_all E.B E.tv E.nv E.toks E.nodes i _ _ W hAt.1 hAt.2 hn k0 rfl _ (fleaf_peek E h0 (by omega)) _ (.group _ k1 rfl (fun W hT hB=>fexpr_reads E hE n e (u+1) (by omega) ho.2 (by omega) k1 W h1 ⟨hT,hB⟩))
 | n+1,.un e,u,hs,ho,hl=>by
  intro i W hrep hAt
  rw [CE.ok] at ho
  rw [CE.pt] at hrep hl
  simp only [PT.lv,lvL] at hl
  simp only [CE.un.sizeOf_spec] at hs
  obtain ⟨ks,hn,hr⟩:=rep_node hrep
  have hM:=fmade_items E [none,some e] ks u i _ hn hr (kids_few hE (its:=[none,some e]) hr (by simp only [List.map_cons,List.map_nil,itPT,lvL,PT.lv];omega)) (fun p hp=>by
   have h:p=(e,u+1):=by simpa [subsF] using hp
   subst h
   exact fexpr_reads E hE n e (u+1) (by omega) ho.2 (by omega))
  obtain ⟨k0,ks',rfl,h0,_⟩:=repL_leaf hr
  rw [CE.pe]
  rcases ho.1 with h|h
  ·rw [if_pos h]
   exact fexpr_all E.B E.tv E.nv E.toks E.nodes i _ _ W hAt.1 hAt.2 hn k0 rfl _ (fleaf_peek E h0 (by omega)) _ (.not _ h hM)
  ·rw [if_neg (by rw [h];decide)]
   exact fexpr_all E.B E.tv E.nv E.toks E.nodes i _ _ W hAt.1 hAt.2 hn k0 rfl _ (fleaf_peek E h0 (by omega)) _ (.neg _ h hM)
 | n+1,.bin a b,u,hs,ho,hl=>by
  intro i W hrep hAt
  rw [CE.ok] at ho
  rw [CE.pt] at hrep hl
  simp only [PT.lv,lvL] at hl
  simp only [CE.bin.sizeOf_spec] at hs
  obtain ⟨ks,hn,hr⟩:=rep_node hrep
  have hM:=fmade_items E [some a,none,some b] ks u i _ hn hr (kids_few hE (its:=[some a,none,some b]) hr (by simp only [List.map_cons,List.map_nil,itPT,lvL,PT.lv];omega)) (fun p hp=>by
   have h:p=(a,u)∨p=(b,u+a.pt.lv+1):=by simpa [subsF] using hp
   rcases h with rfl|rfl
   ·exact fexpr_reads E hE n a u (by omega) ho.2.1 (by omega)
   ·exact fexpr_reads E hE n b _ (by omega) ho.2.2 (by omega))
  obtain ⟨k0,ks',rfl,h0,hr⟩:=repL_sub hr
  obtain ⟨k1,ks',rfl,h1,_⟩:=repL_leaf hr
  obtain ⟨c,la,ea,c1,c2⟩:=a.node
  rw [ea] at h0
  obtain ⟨ksa,hna,_⟩:=rep_node h0
  rw [CE.pe]
  exact fexpr_all E.B E.tv E.nv E.toks E.nodes i _ _ W hAt.1 hAt.2 hn k0 rfl zeroTok (fun W' hT hB=>fleaf_no E.B E.tv E.nv E.toks E.nodes k0 _ W' hT hB hna (by simp only;omega)) _ (.bin _ k1 _ _ _ rfl (fleaf_peek E h1 (by omega)) (binL_at ho.1).1 (binL_at ho.1).2 rfl hM)
 | n+1,.iff a b c,u,hs,ho,hl=>by
  intro i W hrep hAt
  rw [CE.ok] at ho
  rw [CE.pt] at hrep hl
  simp only [PT.lv,lvL] at hl
  simp only [CE.iff.sizeOf_spec] at hs
  obtain ⟨ks,hn,hr⟩:=rep_node hrep
  have hM:=fmade_items E [none,some a,none,some b,none,some c] ks u i _ hn hr (kids_few hE (its:=[none,some a,none,some b,none,some c]) hr (by simp only [List.map_cons,List.map_nil,itPT,lvL,PT.lv];omega)) (fun p hp=>by
   have h:p=(a,u+1)∨p=(b,u+1+a.pt.lv+1)∨p=(c,u+1+a.pt.lv+1+b.pt.lv+1):=by simpa [subsF] using hp
   rcases h with rfl|rfl|rfl
   ·exact fexpr_reads E hE n a _ (by omega) ho.2.1 (by omega)
   ·exact fexpr_reads E hE n b _ (by omega) ho.2.2.1 (by omega)
   ·exact fexpr_reads E hE n c _ (by omega) ho.2.2.2 (by omega))
  obtain ⟨k0,ks',rfl,h0,_⟩:=repL_leaf hr
  rw [CE.pe]
  exact fexpr_all E.B E.tv E.nv E.toks E.nodes i _ _ W hAt.1 hAt.2 hn k0 rfl _ (fleaf_peek E h0 (by omega)) _ (.iff _ hM)
 | n+1,.lett a b,u,hs,ho,hl=>by
  intro i W hrep hAt
  rw [CE.ok] at ho
  rw [CE.pt] at hrep hl
  simp only [PT.lv,lvL] at hl
  simp only [CE.lett.sizeOf_spec] at hs
  obtain ⟨ks,hn,hr⟩:=rep_node hrep
  have hM:=fmade_items E [none,none,none,some a,none,some b] ks u i _ hn hr (kids_few hE (its:=[none,none,none,some a,none,some b]) hr (by simp only [List.map_cons,List.map_nil,itPT,lvL,PT.lv];omega)) (fun p hp=>by
   have h:p=(a,u+3)∨p=(b,u+3+a.pt.lv+1):=by simpa [subsF] using hp
   rcases h with rfl|rfl
   ·exact fexpr_reads E hE n a _ (by omega) ho.2.2.1 (by omega)
   ·exact fexpr_reads E hE n b _ (by omega) ho.2.2.2 (by omega))
  obtain ⟨k0,ks',rfl,h0,hr⟩:=repL_leaf hr
  obtain ⟨k1,ks',rfl,h1,_⟩:=repL_leaf hr
  rw [CE.pe]
  exact fexpr_all E.B E.tv E.nv E.toks E.nodes i _ _ W hAt.1 hAt.2 hn k0 rfl _ (fleaf_peek E h0 (by omega)) _ (.lett _ k1 _ rfl (fleaf_peek E h1 (by omega)) hM)
 | n+1,.asrt a b,u,hs,ho,hl=>by
  intro i W hrep hAt
  rw [CE.ok] at ho
  rw [CE.pt] at hrep hl
  simp only [PT.lv,lvL] at hl
  simp only [CE.asrt.sizeOf_spec] at hs
  obtain ⟨ks,hn,hr⟩:=rep_node hrep
  have hM:=fmade_items E [none,some a,none,some b] ks u i _ hn hr (kids_few hE (its:=[none,some a,none,some b]) hr (by simp only [List.map_cons,List.map_nil,itPT,lvL,PT.lv];omega)) (fun p hp=>by
   have h:p=(a,u+1)∨p=(b,u+1+a.pt.lv+1):=by simpa [subsF] using hp
   rcases h with rfl|rfl
   ·exact fexpr_reads E hE n a _ (by omega) ho.2.1 (by omega)
   ·exact fexpr_reads E hE n b _ (by omega) ho.2.2 (by omega))
  obtain ⟨k0,ks',rfl,h0,_⟩:=repL_leaf hr
  rw [CE.pe]
  exact fexpr_all E.B E.tv E.nv E.toks E.nodes i _ _ W hAt.1 hAt.2 hn k0 rfl _ (fleaf_peek E h0 (by omega)) _ (.asrt _ hM)
 | n+1,.call q l,u,hs,ho,hl=>by
  intro i W hrep hAt
  rw [CE.ok] at ho
  rw [CE.pt] at hrep hl
  simp only [CE.call.sizeOf_spec] at hs
  have hsz:∀ e∈l,∀ v,e.ok E.toks E.cl v→v+e.pt.lv≤E.toks.length→E.freads e v:=fun e he v h1 h2 =>
   fexpr_reads E hE n e v (by have:=List.sizeOf_lt_of_mem he;omega) h1 h2
  obtain ⟨ks,hn,hr⟩:=rep_node hrep
  cases q with
  | true =>
   simp only [if_true] at hr hl ho
   simp only [PT.lv,lvL_append,lvL] at hl
   have hr':RepL E.nodes ks u (([none,none,none,none]++(argsIts l++[none])).map itPT):=by
    rw [List.map_append,List.map_append,argsIts_pt]
    simpa [itPT] using hr
   have hM:=fmade_items E ([none,none,none,none]++(argsIts l++[none])) ks u i _ hn hr' (kids_few hE hr' (by rw [List.map_append,List.map_append,argsIts_pt];simp only [List.map_cons,List.map_nil,itPT,lvL_append,lvL,PT.lv];omega)) (fun p hp=>by
    simp only [List.cons_append,List.nil_append,subsF] at hp
    exact fsubs_ok l (u+4) ho.2.2.2.2.2 (by omega) hsz p hp)
   simp only [List.cons_append,List.nil_append,subsF] at hM
   rw [subs_args] at hM
   obtain ⟨k0,ks',rfl,h0,hr⟩:=repL_leaf hr
   obtain ⟨k1,ks',rfl,h1,hr⟩:=repL_leaf hr
   obtain ⟨k2,ks',rfl,h2,hr⟩:=repL_leaf hr
   rw [CE.pe,if_pos rfl]
   exact fexpr_all E.B E.tv E.nv E.toks E.nodes i _ _ W hAt.1 hAt.2 hn k0 rfl _ (fleaf_peek E h0 (by omega)) _ (.call1 _ k1 _ _ _ k2 _ rfl (fleaf_text E h1 (by omega) ho.2.2.2.1) rfl (fleaf_peek E h2 (by omega)) hM)
  | false =>
   simp only [Bool.false_eq_true,if_false] at hr hl ho
   simp only [PT.lv,lvL_append,lvL] at hl
   have hr':RepL E.nodes ks u (([none,none]++(argsIts l++[none])).map itPT):=by
    rw [List.map_append,List.map_append,argsIts_pt]
    simpa [itPT] using hr
   have hM:=fmade_items E ([none,none]++(argsIts l++[none])) ks u i _ hn hr' (kids_few hE hr' (by rw [List.map_append,List.map_append,argsIts_pt];simp only [List.map_cons,List.map_nil,itPT,lvL_append,lvL,PT.lv];omega)) (fun p hp=>by
    simp only [List.cons_append,List.nil_append,subsF] at hp
    exact fsubs_ok l (u+2) ho.2.2.2.2 (by omega) hsz p hp)
   simp only [List.cons_append,List.nil_append,subsF] at hM
   rw [subs_args] at hM
   obtain ⟨k0,ks',rfl,h0,hr⟩:=repL_leaf hr
   obtain ⟨k1,ks',rfl,h1,hr⟩:=repL_leaf hr
   rw [CE.pe,if_neg (by decide)]
   exact fexpr_all E.B E.tv E.nv E.toks E.nodes i _ _ W hAt.1 hAt.2 hn k0 rfl _ (fleaf_peek E h0 (by omega)) _ (.call0 _ k1 _ _ _ rfl (fleaf_text E h1 (by omega) ho.2.2.2.1) hM)
theorem cells5 {w:World}{b:Nat}{c0 c1 c2 c3 c4:Value}{T:TypeId}(h:w.heap[b]?=some (.cells #[c0,c1,c2,c3,c4] T (0,0))):w.cell? ⟨b,0,none⟩=some c0∧w.cell? ⟨b,1,none⟩=some c1∧w.cell? ⟨b,2,none⟩=some c2∧w.cell? ⟨b,3,none⟩=some c3∧w.cell? ⟨b,4,none⟩=some c4∧∀ j,w.frozen? ⟨b,j,none⟩=false:=by
 refine ⟨?_,?_,?_,?_,?_,fun j=>by simp [World.frozen?,h]⟩ <;> (rw [Lib.cell_of_heap h];rfl)
theorem Boxes4.set3 {w W:World}{c0 c1 c2 c3:Array Value}{t0 t1 t2 t3:TypeId}(h:Boxes4 w c0 c1 c2 c3 t0 t1 t2 t3 W)(j:Nat)(v:Value):Boxes4 w c0 c1 c2 (c3.setIfInBounds j v) t0 t1 t2 t3 (W.setCell ⟨w.heap.size+1+1+1,j,none⟩ v) :=
 ⟨(heap_setCell_other _ _ _ _ (by show w.heap.size≠w.heap.size+1+1+1;omega)).trans h.s0,(heap_setCell_other _ _ _ _ (by show w.heap.size+1≠w.heap.size+1+1+1;omega)).trans h.s1,(heap_setCell_other _ _ _ _ (by show w.heap.size+1+1≠w.heap.size+1+1+1;omega)).trans h.s2,heap_setCell_same _ _ j _ _ v h.s3,h.al.setCell (by show w.heap.size≤w.heap.size+1+1+1;omega) v⟩
theorem setB_cell (W:World){b k:Nat}(i:Nat)(v:Value){j:Nat}(h:k≠b):(W.setCell ⟨b,i,none⟩ v).cell? ⟨k,j,none⟩=W.cell? ⟨k,j,none⟩:=World.cell?_of_block (a:=⟨k,j,none⟩) (heap_setCell_other _ _ _ _ h)
def FtPost (a:TyA)(nm:List UInt8)(pl:Nat)(w:World)(e:Ending)(w':World):Prop:=∃ ao cap,e=.returned (.agg #[.string ⟨nm.toArray⟩,.int .i64 a.base,.slice ao a.clause.length cap,.int .i64 pl,.int .i64 a.bare])∧RowK (EK XR) (fun b=>w.heap.size≤b) w' (.slice ao a.clause.length cap) a.clause∧Below w.heap.size w w'
theorem rowR_one {x:PE}{k:Value}{P:Nat→Prop}{w:World}{T:TypeId}(h:EAt XR P w .nilIface k x)(hP:P w.heap.size):RowK (EK XR) P (w.alloc (.cells #[.int .i64 x.op,.string ⟨x.name.toArray⟩,.string ⟨x.module.toArray⟩,.string ⟨x.txt.toArray⟩,.bool x.yes,k,.int .i64 x.at_] T)) (.slice (some ⟨w.heap.size,0,none⟩) 1 1) [x]:=by
 have hnw:=heap_alloc_new w (.cells #[.int .i64 x.op,.string ⟨x.name.toArray⟩,.string ⟨x.module.toArray⟩,.string ⟨x.txt.toArray⟩,.bool x.yes,k,.int .i64 x.at_] T)
 refine ⟨[(x,(.nilIface,k))],rfl,⟨some ⟨w.heap.size,0,none⟩,1,rfl,Nat.le_refl _,(EK XR).flat_len _,fun _=>⟨w.heap.size,0,rfl,hP,by simp,fun i hi=>?_⟩⟩,fun p hp=>?_⟩
 ·have hc:(EK XR).flat [(x,(.nilIface,k))]=[.int .i64 x.op,.string ⟨x.name.toArray⟩,.string ⟨x.module.toArray⟩,.string ⟨x.txt.toArray⟩,.bool x.yes,k,.int .i64 x.at_]:=rfl
  rw [Lib.cell_of_heap hnw,Nat.zero_add]
  simp only [hc]
  simp only [hc,List.length_cons,List.length_nil] at hi
  have h':i<(#[Value.int .i64 x.op,.string ⟨x.name.toArray⟩,.string ⟨x.module.toArray⟩,.string ⟨x.txt.toArray⟩,.bool x.yes,k,.int .i64 x.at_]:Array Value).size:=hi
  rw [Array.getElem?_eq_getElem h']
  simp
 ·rw [List.mem_singleton] at hp
  subst hp
  exact EAt.frame (Alk.of (below_new w _)) h
theorem ftyped_any (B:Nat)(tv nv:Value)(toks:List Tok)(nodes:List Nd)(i kd:Nat)(ks:List Int)(u:Nat)(its:List It)(w:World)(h:TreeAt B w (.agg #[tv,nv]) toks nodes)(hB:B≤w.heap.size)(hn:nodes[i]?=some ⟨(kd:Nat),-1,ks⟩)(hr:RepL nodes ks u (its.map It.pt))(hu:u+lvL (its.map It.pt)≤toks.length)(hks:ks.length≤1000000)
  (hpl:∀ v,placeAt toks v+(textAt toks v).length≤1099511627776) (hbs:∀ v,(It.base,v)∈posL u its→textAt toks v∈[tInt,tBool])
  (hE:∀ e v,(It.cl e,v)∈posL u its→∀ (k:Nat) (W:World),Rep nodes k (v+1) e.pt→TreeAt B W (.agg #[tv,nv]) toks nodes→B≤W.heap.size→Calls Tryz.prog 65 #[.agg #[tv,nv],.int .i64 k] W (EPost XR (e.pe toks (v+1)) W)) (n:Tok) :
  Calls Tryz.prog 64 #[.agg #[tv,nv],.int .i64 i,.agg #[.int .i64 n.kind,.string ⟨n.lead.toArray⟩,.string ⟨n.text.toArray⟩,.int .i64 n.place]] w (FtPost (typA toks u its ⟨0,[],0⟩) n.text n.place w):=by
 have HE:=Lib.hid hE
 have HBS:=Lib.hid hbs
 have HPL:=Lib.hid hpl
 obtain ⟨hlk,hrp⟩:=posL_rep its ks u hr
 have HRP:=Lib.hid hrp
 have HLK:Hid (ks.length=(posL u its).length):=Lib.hid (by rw [posL_len];exact hlk)
 have HU:=Lib.hid hu
 have HT:=Lib.hid h
 obtain ⟨hi,hni⟩:=List.getElem?_eq_some_iff.1 hn
 obtain ⟨a1,c1,_,_,e⟩:=h.slices
 obtain ⟨b,off,cap,kv,rfl,hb,_,_,x2,hkv⟩:=h.node hi
 obtain ⟨rfl,-⟩:tv=.slice a1 toks.length c1∧_:=by simpa using e
 rw [hni] at hkv
 simp only at hkv
 obtain ⟨ak,ck,rfl,_,hf⟩:=hkv.form
 have HF:=Lib.hid hf
 have i1:(i:Int)<(nodes.length:Int):=by omega
 obtain ⟨nk,nl,nt,np⟩:=n
 simp only
 have HX2:=Lib.hid x2
 clear hf h e hkv x2 hn hni hlk hrp hr hu hE hbs hpl
 go_enter Tryz.func64,Tryz.ntmps64
 go_upto_region 2 with fail
 generalize hw4:(((w.alloc _).alloc _).alloc _).alloc _=w4
 have S:=Boxes4.of hw4
 clear hw4
 have x2:=cell_later S.al HX2.out
 obtain ⟨r0,r1⟩:=cells2 S.s0
 go_wp2
 clear r0 r1 x2
 go_loopw [9] (fun q wr=>∃ (j:Nat) (ao:Option Addr) (cc:Nat),j≤ks.length∧q=.int .i64 j∧Boxes4 w #[.slice a1 toks.length c1,.slice (some ⟨b,off,none⟩) nodes.length cap] #[.int .i64 nk,.string ⟨nl.toArray⟩,.string ⟨nt.toArray⟩,.int .i64 np] #[.string ⟨#[]⟩,.int .i64 0,.slice none 0 0,.int .i64 0,.int .i64 0] #[.string ⟨nt.toArray⟩,.int .i64 (typA toks u (its.take j) ⟨0,[],0⟩).base,.slice ao (typA toks u (its.take j) ⟨0,[],0⟩).clause.length cc,.int .i64 np,.int .i64 (typA toks u (its.take j) ⟨0,[],0⟩).bare] 67 105 76 76 wr∧RowK (EK XR) (fun b=>w.heap.size+1+1+1<b) wr (.slice ao (typA toks u (its.take j) ⟨0,[],0⟩).clause.length cc) (typA toks u (its.take j) ⟨0,[],0⟩).clause) (fun q _=>ks.length - (intOf q).toNat)
 case atStart=>exact ⟨0,none,0,Nat.zero_le _,rfl,S,RowK.nil _ _ _⟩
 case round =>
  clear S
  obtain ⟨j,ao,cc,hj,rfl,S,hrow⟩:=hrel
  have hbl:=S.al
  have hz:=hbl.size
  have hs:=S.size
  obtain ⟨r0,r1⟩:=cells2 S.s0
  by_cases hjl:j<ks.length
  ·obtain ⟨bk,ok,rfl,hbk,hcell⟩:=HF.out (by omega)
   have hx:=(hbl.cell (p:=⟨bk,ok+j,none⟩) (by show bk<_;omega)).trans (hcell j hjl)
   have hjp:j<(posL u its).length:=by have:=HLK.out;omega
   have hrep:=HRP.out j hjl hjp
   have hst:=typA_round toks its u ⟨0,[],0⟩ j hjp
   have hmem:=List.getElem_mem hjp
   have hend:=posL_end its u _ hmem
   have hu:=HU.out
   have hjI:(j:Int)<(ks.length:Int):=by omega
   generalize (posL u its)[j]=it at hrep hst hmem hend
   obtain ⟨it,v⟩:=it
   simp only at hrep hst hend
   generalize ks[j]=q at hx hrep
   obtain ⟨m,x,rfl,hnx,hkx⟩:=rep_kind hrep
   obtain ⟨hm,hnx'⟩:=List.getElem?_eq_some_iff.1 hnx
   obtain ⟨b',off',cap',kv',e',_,y0,y1,y2,hky⟩:=HT.out.node hm
   obtain ⟨⟨rfl,rfl⟩,rfl⟩:(b=b'∧off=off')∧cap=cap':=by simpa using e'
   rw [hnx'] at y0 y1 hky
   obtain ⟨ak2,ck2,rfl,_,hkf⟩:=hky.form
   have Y0:=(hbl.cell (p:=⟨b,off+m * 3,none⟩) (by show b<_;omega)).trans y0
   have Y1:=(hbl.cell (p:=⟨b,off+m * 3+1,none⟩) (by show b<_;omega)).trans y1
   have Y2:=(hbl.cell (p:=⟨b,off+m * 3+2,none⟩) (by show b<_;omega)).trans y2
   have hmI:(m:Int)<(nodes.length:Int):=by omega
   obtain ⟨xk,xt,xks⟩:=x
   simp only at Y0 Y1 Y2 hkf hkx
   have HKX:=Lib.hid hkx
   generalize typA toks u (its.take j) ⟨0,[],0⟩=a at S hrow hst
   have HKF:=Lib.hid hkf
   have HST:=Lib.hid hst
   clear y0 y1 y2 e' hcell hkf hky hst hkx hnx'
   go_upto_region 6 with fail
   go_cut [10] (fun p wc=>∃ X:Nat,p=.pointer (some ⟨X,0,none⟩)∧wc.heap[X]?=some (.cells #[.int .i64 xk,.int .i64 xt,.slice ak2 xks.length ck2] 104 (0,0))∧Below wr.heap.size wr wc∧wr.heap.size≤X)
   case first =>
    go_region_held3 (fun w'=>w'.cell? ⟨w.heap.size,0,none⟩=some (.slice a1 toks.length c1)∧w'.cell? ⟨w.heap.size,1,none⟩=some (.slice (some ⟨b,off,none⟩) nodes.length cap)∧w'.cell? ⟨bk,ok+j,none⟩=some (.int .i64 m)∧w'.cell? ⟨b,off+m * 3,none⟩=some (.int .i64 xk)∧w'.cell? ⟨b,off+m * 3+1,none⟩=some (.int .i64 xt)∧w'.cell? ⟨b,off+m * 3+2,none⟩=some (.slice ak2 xks.length ck2))
     ((go_keep;done)) (fail)
    go_wp2_with fail
    go_meet
    exact ⟨wr.heap.size,rfl,heap_alloc_new wr _,(below_new wr _).drew,Nat.le_refl _⟩
   case rest =>
    obtain ⟨X,rfl,hX,hbc,hXl⟩:=hcut
    obtain ⟨wn,rfl⟩:∃ wn:World,wn=wc:=⟨_,rfl⟩
    have S1:=S.later hbc
    have hr1:=hrow.frame (Alk.of hbc)
    have hblc:=S1.al
    have hzc:=hblc.size
    have hXn:=(Array.getElem?_eq_some_iff.1 hX).1
    obtain ⟨n0,n1,n2⟩:=cells3 hX
    clear S hrow hbl r0 r1 hx Y0 Y1 Y2 hz
    obtain ⟨r0,r1⟩:=cells2 S1.s0
    cases hpn:it.plain with
    | true =>
     obtain ⟨k5,k6⟩:=it.kind_plain hpn
     rw [← HKX.out] at k5 k6
     have t5:(xk == 5)=false:=by rw [← Bool.not_eq_true,beq_iff_eq];exact k5
     have t6:(xk == 6)=false:=by rw [← Bool.not_eq_true,beq_iff_eq];exact k6
     have HSP:=Lib.hid (It.step_plain (toks:=toks) (u:=v) hpn a)
     clear hpn k5 k6 hrep hmem hend
     go_wp2
     go_roundw
     case rel =>
      have e1:=HST.out
      rw [HSP.out] at e1
      refine ⟨j+1,ao,cc,by omega,by go_num,?_⟩
      rw [e1]
      exact ⟨S1,hr1⟩
     case measure=>simp [intOf];omega
    | false =>
     cases it with
     | leaf=>cases hpn
     | par t=>cases hpn
     | expr e=>cases hpn
     | base =>
      obtain ⟨ks2,hn2,hr2⟩:=rep_node (show Rep nodes m v (.node 5 [.leaf]) from hrep)
      rw [hnx] at hn2
      obtain ⟨rfl,rfl,rfl⟩:xk=5∧xt=-1∧xks=ks2:=by simpa using hn2
      obtain ⟨k0,ks',rfl,hl0,hr3⟩:=repL_leaf hr2
      rw [RepL] at hr3
      subst hr3
      have hv:v<toks.length:=by simp only [It.pt,PT.lv,lvL] at hend;omega
      have hbt:=HBS.out v hmem
      have hpv:=HPL.out v
      have hK:=fun W hT hW=>fleaf_yes B (.slice a1 toks.length c1) (.slice (some ⟨b,off,none⟩) nodes.length cap) toks nodes k0 v W hT hW hl0 hv
      have htk:toks[v]=peekF toks v:=by have:=tok_peek hv;rw [List.getElem?_eq_getElem hv] at this;exact Option.some.inj this
      rw [htk] at hK
      unfold tokVal strV at hK
      have hst2:=HST.out
      unfold It.step at hst2
      unfold textAt placeAt at hst2 hpv
      unfold textAt at hbt
      generalize peekF toks v=t at hK hst2 hbt hpv
      obtain ⟨tk,tl,tt,tp⟩:=t
      simp only at hK hst2 hbt hpv
      have HS2:=Lib.hid hst2
      obtain ⟨b2,o2,rfl,hb2,hkc⟩:=HKF.out (by simp)
      have z0:=(hblc.cell (p:=⟨b2,o2+0,none⟩) (by show b2<_;omega)).trans (hkc 0 (by simp))
      simp only [Nat.add_zero,List.getElem_cons_zero,List.length_cons,List.length_nil,Nat.zero_add] at z0 n2
      have HK:=Lib.hid (fun W (hb:Below wn.heap.size wn W)=>(hK W (HT.out.below ((hblc.trans (hb.mono hzc)).mono hB)) (by have:=hb.size;omega)).mono (R':=fun e w'=>e=.returned (.agg #[.int .i64 tk,.string ⟨tl.toArray⟩,.string ⟨tt.toArray⟩,.int .i64 tp])∧Below wn.heap.size wn w'∧Below W.heap.size W w') fun e w' h=>⟨h.1,hb.trans (h.2.mono hb.size),h.2⟩)
      clear hK hst2 HST hpn hrep hmem hend hn2 hr2 hl0 hkc htk hnx
      go_upto_region 8 with fail
      have hq0:w.heap.size≠wn.heap.size:=by omega
      have hq1:X≠wn.heap.size:=by omega
      have hq2:b2≠wn.heap.size:=by omega
      go_cut [11] (fun p wc=>∃ Y:Nat,p=.pointer (some ⟨Y,0,none⟩)∧wc.heap[Y]?=some (.cells #[.int .i64 tk,.string ⟨tl.toArray⟩,.string ⟨tt.toArray⟩,.int .i64 tp] 105 (0,0))∧Below wn.heap.size wn wc∧wn.heap.size≤Y)
      case first =>
       go_region_held3 (fun w'=>w'.cell? ⟨w.heap.size,0,none⟩=some (.slice a1 toks.length c1)∧w'.cell? ⟨w.heap.size,1,none⟩=some (.slice (some ⟨b,off,none⟩) nodes.length cap)∧w'.cell? ⟨X,2,none⟩=some (.slice (some ⟨b2,o2,none⟩) 1 ck2)∧w'.cell? ⟨b2,o2,none⟩=some (.int .i64 k0))
        (first|(with_reducible exact p3)|((try dsimp only);with_reducible exact And.intro ((set4_cell w3 wn.heap.size _ _ _ _ hq0).trans p3.1) (And.intro ((set4_cell w3 wn.heap.size _ _ _ _ hq0).trans p3.2.1) (And.intro ((set4_cell w3 wn.heap.size _ _ _ _ hq1).trans p3.2.2.1) ((set4_cell w3 wn.heap.size _ _ _ _ hq2).trans p3.2.2.2))))|(go_keep;done))
        (first|(go_at_call 38;refine (HK.out _ ?_).mono ?_;(first|exact (Below.refl _ _).drew|exact ((Below.refl _ _).alloc (Nat.le_refl _) _).drew);rintro e w3 ⟨rfl,hq3,hb3⟩;have p3:=And.intro (cell_later hq3 r0) (And.intro (cell_later hq3 r1) (And.intro (cell_later hq3 n2) (cell_later hq3 z0)));try (have hTz:=(hb3.block wn.heap.size (by simp)).trans (heap_alloc_new wn (.cells #[.int .i64 0,.string ⟨#[]⟩,.string ⟨#[]⟩,.int .i64 0] 105));obtain ⟨tz0,tz1,tz2,tz3,tz4⟩:=cells4 hTz)))
       ·clear r0 r1 n2 z0 p3
        go_wp2_with fail
        go_meet
        exact ⟨w3.heap.size,rfl,heap_alloc_new _ _,hq3.alloc hq3.size _,hq3.size⟩
       ·obtain ⟨S3,So,_⟩:=store4 hTz (.int .i64 tk) (.string ⟨tl.toArray⟩) (.string ⟨tt.toArray⟩) (.int .i64 tp)
        clear r0 r1 n2 z0 p3 tz0 tz1 tz2 tz3 tz4
        go_wp2_with fail
        go_meet
        exact ⟨wn.heap.size,rfl,S3,(((hq3.setCell (Nat.le_refl _) _).setCell (Nat.le_refl _) _).setCell (Nat.le_refl _) _).setCell (Nat.le_refl _) _,Nat.le_refl _⟩
      case rest =>
       obtain ⟨Y,rfl,hY,hbY,hYl⟩:=hcut
       obtain ⟨wa,rfl⟩:∃ wa:World,wa=wc:=⟨_,rfl⟩
       have S2:=S1.later hbY
       have hX2:=(hbY.block X hXn).trans hX
       have hrwwa:=hr1.frame (Alk.of hbY)
       have hs2:=S1.size
       clear r0 r1 n2 z0 HK hbY n0 n1 S1 hr1 hX
       obtain ⟨f0,f1,f2,f3,f4,fz⟩:=cells5 S2.s3
       go_upto_region 10 with fail
       have S3:=S2.set3 1 (.int .i64 1)
       have hX2':=(heap_setCell_other wa ⟨w.heap.size+1+1+1,1,none⟩ X (.int .i64 1) (by show X≠w.heap.size+1+1+1;omega)).trans hX2
       have hY':=(heap_setCell_other wa ⟨w.heap.size+1+1+1,1,none⟩ Y (.int .i64 1) (by show Y≠w.heap.size+1+1+1;omega)).trans hY
       have hrwwb:=hrwwa.frame (Alk.set (a:=⟨w.heap.size+1+1+1,1,none⟩) (.int .i64 1) fun b hb=>by show b≠w.heap.size+1+1+1;omega)
       clear f0 f1 f2 f3 f4 fz S2 hX2 hY hrwwa
       generalize wa.setCell _ _=wb at S3 hX2' hY' hrwwb ⊢
       obtain ⟨f0,f1,f2,f3,f4,fz⟩:=cells5 (show wb.heap[w.heap.size+1+1+1]?=some (.cells #[.string ⟨nt.toArray⟩,.int .i64 1,.slice ao a.clause.length cc,.int .i64 np,.int .i64 a.bare] 76 (0,0)) from S3.s3)
       obtain ⟨n0,n1,n2⟩:=cells3 hX2'
       obtain ⟨y0,y1,y2,y3,yz⟩:=cells4 hY'
       simp only [List.mem_cons,List.not_mem_nil,or_false] at hbt
       rcases hbt with rfl|rfl
       ·simp only [tInt,List.length_cons,List.length_nil] at hpv y2
        go_upto_region 13 with fail
        have S4:=S3.set3 4 (.int .i64 ((tp:Int)+3))
        have hX4:=(heap_setCell_other wb ⟨w.heap.size+1+1+1,4,none⟩ X (.int .i64 ((tp:Int)+3)) (by show X≠w.heap.size+1+1+1;omega)).trans hX2'
        have hrwwd:=hrwwb.frame (Alk.set (a:=⟨w.heap.size+1+1+1,4,none⟩) (.int .i64 ((tp:Int)+3)) fun b hb=>by show b≠w.heap.size+1+1+1;omega)
        clear f0 f1 f2 f3 f4 fz n0 n1 n2 y0 y1 y2 y3 yz S3 hX2' hY' hrwwb
        generalize wb.setCell _ _=wd at S4 hX4 hrwwd ⊢
        obtain ⟨n0,n1,n2⟩:=cells3 hX4
        go_wp2
        go_roundw
        case rel =>
         have e1:=HS2.out
         rw [if_neg (by decide)] at e1
         refine ⟨j+1,ao,cc,by omega,by go_num,?_⟩
         rw [e1]
         exact ⟨S4,hrwwd⟩
        case measure=>simp [intOf];omega
       ·simp only [tBool,List.length_cons,List.length_nil] at hpv y2
        go_upto_region 12 with fail
        have S4:=S3.set3 1 (.int .i64 2)
        have hX4:=(heap_setCell_other wb ⟨w.heap.size+1+1+1,1,none⟩ X (.int .i64 2) (by show X≠w.heap.size+1+1+1;omega)).trans hX2'
        have hY4:=(heap_setCell_other wb ⟨w.heap.size+1+1+1,1,none⟩ Y (.int .i64 2) (by show Y≠w.heap.size+1+1+1;omega)).trans hY'
        have hrwwd:=hrwwb.frame (Alk.set (a:=⟨w.heap.size+1+1+1,1,none⟩) (.int .i64 2) fun b hb=>by show b≠w.heap.size+1+1+1;omega)
        clear f0 f1 f2 f3 f4 fz n0 n1 n2 y0 y1 y2 y3 yz S3 hX2' hY' hrwwb
        generalize wb.setCell _ _=wd at S4 hX4 hY4 hrwwd ⊢
        obtain ⟨f0,f1,f2,f3,f4,fz⟩:=cells5 (show wd.heap[w.heap.size+1+1+1]?=some (.cells #[.string ⟨nt.toArray⟩,.int .i64 2,.slice ao a.clause.length cc,.int .i64 np,.int .i64 a.bare] 76 (0,0)) from S4.s3)
        obtain ⟨y0,y1,y2,y3,yz⟩:=cells4 hY4
        simp only [tBool] at y2
        go_upto_region 13 with fail
        have S5:=S4.set3 4 (.int .i64 ((tp:Int)+4))
        have hX5:=(heap_setCell_other wd ⟨w.heap.size+1+1+1,4,none⟩ X (.int .i64 ((tp:Int)+4)) (by show X≠w.heap.size+1+1+1;omega)).trans hX4
        have hrwwe:=hrwwd.frame (Alk.set (a:=⟨w.heap.size+1+1+1,4,none⟩) (.int .i64 ((tp:Int)+4)) fun b hb=>by show b≠w.heap.size+1+1+1;omega)
        clear f0 f1 f2 f3 f4 fz y0 y1 y2 y3 yz S4 hX4 hY4 hrwwd
        generalize wd.setCell _ _=we at S5 hX5 hrwwe ⊢
        obtain ⟨n0,n1,n2⟩:=cells3 hX5
        go_wp2
        go_roundw
        case rel =>
         have e1:=HS2.out
         rw [if_pos rfl] at e1
         refine ⟨j+1,ao,cc,by omega,by go_num,?_⟩
         rw [e1]
         exact ⟨S5,hrwwe⟩
        case measure=>simp [intOf];omega
     | cl e =>
      obtain ⟨ks2,hn2,hr2⟩:=rep_node (show Rep nodes m v (.node 6 [.leaf,e.pt,.leaf]) from hrep)
      rw [hnx] at hn2
      obtain ⟨rfl,rfl,rfl⟩:xk=6∧xt=-1∧xks=ks2:=by simpa using hn2
      obtain ⟨k0,ks3,rfl,_,hr3⟩:=repL_leaf hr2
      obtain ⟨k1,ks4,rfl,hl1,hr4⟩:=repL_sub hr3
      obtain ⟨k2,ks5,rfl,_,hr5⟩:=repL_leaf hr4
      rw [RepL] at hr5
      subst hr5
      have hst2:typA toks u (its.take (j+1)) ⟨0,[],0⟩=⟨a.base,[e.pe toks (v+1)],-1⟩:=HST.out
      have hEX:=fun W (hb:Below wn.heap.size wn W)=>(HE.out e v hmem k1 W hl1 (HT.out.below ((hblc.trans (hb.mono hzc)).mono hB)) (by have:=hb.size;omega)).mono fun _ _ h=>h.r
      generalize e.pe toks (v+1)=xe at hst2 hEX
      have HEX:=Lib.hid hEX
      have HS2:=Lib.hid hst2
      obtain ⟨b2,o2,rfl,hb2,hkc⟩:=HKF.out (by simp)
      have z1:=(hblc.cell (p:=⟨b2,o2+1,none⟩) (by show b2<_;omega)).trans (hkc 1 (by simp))
      simp only [List.getElem_cons_zero,List.getElem_cons_succ,List.length_cons,List.length_nil,Nat.zero_add] at z1 n2
      clear hEX hst2 HST hpn hrep hmem hend hn2 hr2 hr3 hr4 hl1 hkc hnx
      have hs2:=S1.size
      go_upto_region 14 with fail
      have hq0:w.heap.size≠w.heap.size+1+1+1:=by omega
      have hq1:X≠w.heap.size+1+1+1:=by omega
      have hq2:b2≠w.heap.size+1+1+1:=by omega
      have e2:=(cells5 S1.s3).2.2.1
      have ez:=(cells5 S1.s3).2.2.2.2.2
      go_region_held3 (fun w'=>w'.cell? ⟨w.heap.size,0,none⟩=some (.slice a1 toks.length c1)∧w'.cell? ⟨w.heap.size,1,none⟩=some (.slice (some ⟨b,off,none⟩) nodes.length cap)∧w'.cell? ⟨X,2,none⟩=some (.slice (some ⟨b2,o2,none⟩) 3 ck2)∧w'.cell? ⟨b2,o2+1,none⟩=some (.int .i64 k1))
       (first|(with_reducible exact p3)|(with_reducible exact p4)|(go_keep;done))
       ((go_at_call 65;refine (HEX.out _ ((Below.refl _ _).drew)).mono ?_;rintro e w3 ⟨ae,ce,rfl,hxe,hb3⟩;have hq3:Below wn.heap.size wn w3:=(Below.refl wn.heap.size wn).drew.trans hb3;have p3:=And.intro (cell_later hq3 r0) (And.intro (cell_later hq3 r1) (And.intro (cell_later hq3 n2) (cell_later hq3 z1)));have S3:=S1.later hq3;have S4:=S3.later (below_new w3 (.cells #[.int .i64 xe.op,.string ⟨xe.name.toArray⟩,.string ⟨xe.module.toArray⟩,.string ⟨xe.txt.toArray⟩,.bool xe.yes,.slice ae xe.kids.length ce,.int .i64 xe.at_] 78));obtain ⟨g0,g1,g2,g3,g4,gz⟩:=cells5 S4.s3;have hq4:=hq3.alloc hq3.size (.cells #[.int .i64 xe.op,.string ⟨xe.name.toArray⟩,.string ⟨xe.module.toArray⟩,.string ⟨xe.txt.toArray⟩,.bool xe.yes,.slice ae xe.kids.length ce,.int .i64 xe.at_] 78);have p4:=And.intro ((setB_cell (w3.alloc (.cells #[.int .i64 xe.op,.string ⟨xe.name.toArray⟩,.string ⟨xe.module.toArray⟩,.string ⟨xe.txt.toArray⟩,.bool xe.yes,.slice ae xe.kids.length ce,.int .i64 xe.at_] 78)) 2 (.slice (some ⟨w3.heap.size,0,none⟩) 1 1) hq0).trans (cell_later hq4 r0)) (And.intro ((setB_cell (w3.alloc (.cells #[.int .i64 xe.op,.string ⟨xe.name.toArray⟩,.string ⟨xe.module.toArray⟩,.string ⟨xe.txt.toArray⟩,.bool xe.yes,.slice ae xe.kids.length ce,.int .i64 xe.at_] 78)) 2 (.slice (some ⟨w3.heap.size,0,none⟩) 1 1) hq0).trans (cell_later hq4 r1)) (And.intro ((setB_cell (w3.alloc (.cells #[.int .i64 xe.op,.string ⟨xe.name.toArray⟩,.string ⟨xe.module.toArray⟩,.string ⟨xe.txt.toArray⟩,.bool xe.yes,.slice ae xe.kids.length ce,.int .i64 xe.at_] 78)) 2 (.slice (some ⟨w3.heap.size,0,none⟩) 1 1) hq1).trans (cell_later hq4 n2)) ((setB_cell (w3.alloc (.cells #[.int .i64 xe.op,.string ⟨xe.name.toArray⟩,.string ⟨xe.module.toArray⟩,.string ⟨xe.txt.toArray⟩,.bool xe.yes,.slice ae xe.kids.length ce,.int .i64 xe.at_] 78)) 2 (.slice (some ⟨w3.heap.size,0,none⟩) 1 1) hq2).trans (cell_later hq4 z1))))))
      have hone:=(rowR_one (P:=fun b=>w.heap.size+1+1+1<b) (w:=w3) (T:=78) (hxe.imp (fun b hb _=>by have:wn.drew.heap.size=wn.heap.size:=rfl;omega)) (by have:=hq3.size;omega)).frame (Alk.set (a:=⟨w.heap.size+1+1+1,2,none⟩) (.slice (some ⟨w3.heap.size,0,none⟩) 1 1) fun b hb=>by show b≠w.heap.size+1+1+1;omega)
      have S5:=S4.set3 2 (.slice (some ⟨w3.heap.size,0,none⟩) 1 1)
      clear r0 r1 n2 z1 n0 n1 e2 ez g0 g1 g2 g3 g4 gz p3 p4 S3 S4 hq4 hb3 hxe
      generalize hw3:w3.heap.size=N3 at S5 hone ⊢
      clear hw3
      generalize World.setCell _ _ _=w4 at S5 hone ⊢
      obtain ⟨f0,f1,f2,f3,f4,fz⟩:=cells5 (show w4.heap[w.heap.size+1+1+1]?=some (.cells #[.string ⟨nt.toArray⟩,.int .i64 a.base,.slice (some ⟨N3,0,none⟩) 1 1,.int .i64 np,.int .i64 a.bare] 76 (0,0)) from S5.s3)
      have S6:=S5.set3 4 (.int .i64 (-1))
      have hone6:=hone.frame (Alk.set (a:=⟨w.heap.size+1+1+1,4,none⟩) (.int .i64 (-1)) fun b hb=>by show b≠w.heap.size+1+1+1;omega)
      go_wp2
      go_roundw
      case rel =>
       have e1:=HS2.out
       refine ⟨j+1,some ⟨N3,0,none⟩,1,by omega,by go_num,?_⟩
       rw [e1]
       exact ⟨S6,hone6⟩
      case measure=>simp [intOf];omega
  ·
   obtain rfl:j=ks.length:=by omega
   have hti:its.take ks.length=its:=List.take_of_length_le (by have:=HLK.out;rw [posL_len] at this;omega)
   rw [hti] at S hrow
   have hjI:decide ((ks.length:Int)<(ks.length:Int))=false:=decide_eq_false (by omega)
   generalize hta:typA toks u its ⟨0,[],0⟩=a at S hrow
   have HTA:=Lib.hid hta
   clear hta
   obtain ⟨f0,f1,f2,f3,f4,fz⟩:=cells5 S.s3
   obtain ⟨d0,d1,d2,d3,d4,dz⟩:=cells5 S.s2
   clear r0 r1
   go_wp2
   refine bodyPost_ret (v:=.agg #[.string ⟨nt.toArray⟩,.int .i64 a.base,.slice ao a.clause.length cc,.int .i64 np,.int .i64 a.bare]) (by simp [results,Tryz.results64,go_sem,d0,d1,d2,d3,d4]) rfl ?_
   rw [HTA.out]
   have hset:∀ (W:World) (j:Nat) (v:Value),Alk (fun b=>w.heap.size+1+1+1<b) W (W.setCell ⟨w.heap.size+1+1,j,none⟩ v):=fun W j v=>Alk.set v fun b hb=>by show b≠w.heap.size+1+1;omega
   exact ⟨ao,cc,rfl,(hrow.frame (((((hset _ _ _).trans (hset _ _ _)).trans (hset _ _ _)).trans (hset _ _ _)).trans (hset _ _ _))).imp fun b hb _=>by omega,((((hbl.setCell (by show _≤w.heap.size+1+1;omega) _).setCell (by show _≤w.heap.size+1+1;omega) _).setCell (by show _≤w.heap.size+1+1;omega) _).setCell (by show _≤w.heap.size+1+1;omega) _).setCell (by show _≤w.heap.size+1+1;omega) _⟩
structure FdE (B:Nat) (tv nv:Value) (toks:List Tok) (nodes:List Nd):Prop where
 pl:∀ v,placeAt toks v+(textAt toks v).length≤1099511627776
 few:∀ n∈nodes,n.kids.length≤1000000
 exprs:∀ (cl:Bool) (e:CE) (u:Nat),e.ok toks cl u→u+e.pt.lv≤toks.length→∀ (k:Nat) (W:World),Rep nodes k u e.pt→TreeAt B W (.agg #[tv,nv]) toks nodes→B≤W.heap.size→Calls Tryz.prog 65 #[.agg #[tv,nv],.int .i64 k] W (EPost XR (e.pe toks u) W)
def FfPost (f:FF)(w:World)(e:Ending)(w':World):Prop:=∃ ao cap,e=.returned (.agg #[.string ⟨f.name.toArray⟩,.int .i64 f.base,.slice ao f.clause.length cap,.int .i64 f.at_,.int .i64 f.bare])∧RowK (EK XR) (fun b=>w.heap.size≤b) w' (.slice ao f.clause.length cap) f.clause∧Below w.heap.size w w'
theorem fpar_reads {B:Nat}{tv nv:Value}{toks:List Tok}{nodes:List Nd}(E:FdE B tv nv toks nodes)(t:TyS)(v:Nat)(ho:t.parOk toks v)(hl:v+t.par.lv≤toks.length)(i:Nat)(w:World)(hr:Rep nodes i v t.par)(h:TreeAt B w (.agg #[tv,nv]) toks nodes)(hB:B≤w.heap.size) :
  Calls Tryz.prog 64 #[.agg #[tv,nv],.int .i64 i,tokVal (peekF toks v)] w (FfPost (t.parFF toks v) w):=by
 rw [t.parIts_pt] at hr hl
 obtain ⟨ks,hn,hk⟩:=rep_node hr
 have hlv:v+lvL (t.parIts.map It.pt)≤toks.length:=by rw [PT.lv] at hl;exact hl
 have hks:=E.few _ (List.mem_of_getElem? hn)
 have:=ftyped_any B tv nv toks nodes i 4 ks v t.parIts w h hB hn hk hlv hks E.pl (fun x hx=>?_) (fun e x hx k W' hrk hT' hW'=>?_) (peekF toks v)
 ·rw [TyS.par_typ] at this
  exact this
 ·rw [TyS.parIts,posL,List.mem_cons] at hx
  rcases hx with hx|hx
  ·cases hx
  ·exact TyS.its_base ho.2 x hx
 ·have hend:=posL_end _ _ _ hx
  simp only [It.pt,PT.lv,lvL] at hend
  rw [TyS.parIts,posL,List.mem_cons] at hx
  rcases hx with hx|hx
  ·cases hx
  ·exact E.exprs true e (x+1) (TyS.its_cl ho.2 e x hx) (by omega) k W' hrk hT' hW'
theorem fdtyped {B:Nat}{tv nv:Value}{toks:List Tok}{nodes:List Nd}(E:FdE B tv nv toks nodes)(d:DfS)(u:Nat)(ho:d.ok toks u)(ks:List Int)(hlv:u+lvL (d.its.map It.pt)≤toks.length)(i:Nat)(hn:nodes[i]?=some ⟨(3:Nat),-1,ks⟩)(hk:RepL nodes ks u (d.its.map It.pt))(w:World)(h:TreeAt B w (.agg #[tv,nv]) toks nodes)(hB:B≤w.heap.size) :
  Calls Tryz.prog 64 #[.agg #[tv,nv],.int .i64 i,tokVal (peekF toks (d.at1 u+1))] w (FfPost (d.dd toks u).res w):=by
 have hks:=E.few _ (List.mem_of_getElem? hn)
 have hty:=ho.2.2.2.2.2.1
 have:=ftyped_any B tv nv toks nodes i 3 ks u d.its w h hB hn hk hlv hks E.pl (fun x hx=>TyS.its_base hty x (d.its_in u _ hx rfl)) (fun e x hx k W' hrk hT' hW'=>by
  have hend:=posL_end _ _ _ hx
  simp only [It.pt,PT.lv,lvL] at hend
  exact E.exprs true e (x+1) (TyS.its_cl hty e x (d.its_in u _ hx rfl)) (by omega) k W' hrk hT' hW') (peekF toks (d.at1 u+1))
 rw [d.typ] at this
 exact this
end Go.Proofs.YtemkhbmkaalgdaaGreatDoor
