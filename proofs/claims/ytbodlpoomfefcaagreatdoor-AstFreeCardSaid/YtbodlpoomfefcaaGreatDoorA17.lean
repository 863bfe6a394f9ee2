/- Walks and plain laws: LeavesW2. -/
import Derived.Maps.OwnIn
import Derived.Sort.CutIn
import Derived.Test.YtbodlpoomfefcaaGreatDoorA16
set_option maxHeartbeats 16000000
set_option maxRecDepth 100000
set_option linter.unusedVariables false
set_option linter.unusedSimpArgs false
namespace Go.Proofs.YtbodlpoomfefcaaGreatDoor
open Go.RowKit Go.Shelf
attribute [local go_sem] Oper.semAt_some
def LvPost (l:List Int)(w:World)(e:Ending)(w':World):Prop:=∃ v,e=.returned v∧Ints w'.heap.size w' v l∧Below w.heap.size w w'
theorem leavesM_len {nodes:List Nd}:∀ (g:Nat) (st out l:List Int),leavesM nodes g st out=some l→out.length≤l.length
 | 0,st,out,l,h=>by rw [leavesM] at h;cases h
 | g+1,[],out,l,h=>by rw [leavesM] at h;injection h with h;subst h;exact Nat.le_refl _
 | g+1,i :: rest,out,l,h=>by
  rw [leavesM] at h
  split at h
  ·cases h
  ·split at h
   ·cases h
   ·split at h
    ·have:=leavesM_len g _ _ _ h
     simp only [List.length_append,List.length_cons,List.length_nil] at this
     omega
    ·split at h
     ·cases h
     ·exact leavesM_len g _ _ _ h
def markOf (r:Nat):Deferred:={ target:=.collected r,args:=#[] }
def shutAll:World→List Nat→World
 | w,[]=>w
 | w,r :: rs=>shutAll (w.putObj r (.deferred none)) rs
theorem shutAll_below {B:Nat}{w0:World}:∀ (rs:List Nat) (w:World),(∀ r∈rs,B≤r)→B≤w.heap.size→Below B w0 w→Below B w0 (shutAll w rs)
 | [],w,_,_,hb=>hb
 | r :: rs,w,h,hB,hb=>by
  rw [shutAll]
  refine shutAll_below rs _ (fun x hx=>h x (List.mem_cons_of_mem _ hx)) (by simpa using hB) (hb.grown (grownBy_putObj' w r (.deferred none)) hB (fun k e=>?_))
  cases e
  exact h r List.mem_cons_self
theorem marks_leave {F:Fence}{n:Nat}{P:Program}{fn:Func}{tmps:Array Value}{R:Ending→World→Prop}:∀ (rs:List Nat) (w:World),rs.Nodup→(∀ r∈rs,w.heap[r]?=some (.deferred (some []))) →
  LeavesIn F n P fn tmps R [] .returning (shutAll w rs)→LeavesInM F n P fn tmps R (rs.map markOf) .returning w
 | [],w,_,_,h=>h
 | r :: rs,w,hnd,hm,h=>by
  rw [List.nodup_cons] at hnd
  refine ⟨by simp,.inl ⟨r,_,rfl,run_takeDeferred (hm r List.mem_cons_self),marks_leave rs _ hnd.2 (fun x hx=>?_) h⟩⟩
  rw [World.putObj_heap_other (fun q=>hnd.1 (by rw [← q];exact hx))]
  exact hm x (List.mem_cons_of_mem _ hx)
theorem own_shut {B e sz n:Nat}{v:Value}{xs:List Value}:∀ (rs:List Nat) (w:World),rs.Nodup→(∀ r∈rs,w.heap[r]?=some (.deferred (some [])))→w.ownsRow B e sz v n xs→(shutAll w rs).ownsRow B e sz v n xs
 | [],w,_,_,h=>h
 | r :: rs,w,hnd,hm,h=>by
  rw [List.nodup_cons] at hnd
  refine own_shut rs _ hnd.2 (fun x hx=>?_) (ownsRow_putObj h _ (hm r List.mem_cons_self) rfl)
  rw [World.putObj_heap_other (fun q=>hnd.1 (by rw [← q];exact hx))]
  exact hm x (List.mem_cons_of_mem _ hx)
theorem own_pop {w:World}{B e m cap:Nat}{ao:Option Addr}{xs:List Value}{x:Value}(h:w.ownsRow B e 1 (.slice ao (m+1) cap) (m+1) (xs++[x])):w.ownsRow B e 1 (.slice ao m cap) m xs:=by
 obtain ⟨hl,h⟩:=h
 rcases h with ⟨_,h0⟩|⟨g,c,cur,hv,hg,hh,hn,hm,hs,hx⟩
 ·omega
 ·simp only [Value.slice.injEq] at hv
  obtain ⟨rfl,-,rfl⟩:=hv
  have hlx:xs.length=m * 1:=by simp at hl;omega
  refine ⟨hlx,.inr ⟨g,cap,cur,rfl,hg,hh,by omega,hm,hs,?_⟩⟩
  have h2:=congrArg (List.take (m * 1)) hx
  rw [List.take_take,Nat.min_eq_left (by omega),List.take_left' hlx] at h2
  exact h2
theorem own_same {w w':World}{B e sz n:Nat}{v:Value}{xs:List Value}(h:w.ownsRow B e sz v n xs)(hs:∀ q,v.ownBlock=some q→w'.heap[q]?=w.heap[q]?):w'.ownsRow B e sz v n xs:=by
 refine ⟨h.1,?_⟩
 rcases h.2 with hn|⟨g,cap,cur,hv,hg,hh,hr⟩
 ·exact .inl hn
 ·exact .inr ⟨g,cap,cur,hv,hg,(hs g (by rw [hv];rfl)).trans hh,hr⟩
theorem own_cap {w:World}{B e n cap:Nat}{ao:Option Addr}{xs:List Value}(h:w.ownsRow B e 1 (.slice ao n cap) n xs):n≤cap:=by
 rcases h.2 with ⟨hv,h0⟩|⟨g,c,cur,hv,hg,hh,hn,_⟩
 ·omega
 ·simp only [Value.slice.injEq] at hv
  omega
theorem own_cell {w:World}{B e n cap:Nat}{g off:Nat}{xs:List Value}(h:w.ownsRow B e 1 (.slice (some ⟨g,off,none⟩) n cap) n xs){j:Nat}{u:Value}(hj:xs[j]?=some u):w.cell? ⟨g,off+j,none⟩=some u:=by
 obtain ⟨ao,c,hv,_,hl,hc⟩:=Sl.ofOwns h
 obtain ⟨h1,h2⟩:=List.getElem?_eq_some_iff.1 hj
 obtain ⟨b,o,ha,_,hcell⟩:=hc (by omega)
 simp only [Value.slice.injEq] at hv
 rw [ha] at hv
 obtain ⟨hv,_⟩:=hv
 simp only [Option.some.injEq,Addr.mk.injEq] at hv
 obtain ⟨rfl,rfl,_⟩:=hv
 rw [hcell j h1,h2]
theorem ownFrom_alk {β:Type}{P:Nat→Prop}{w₀:World}{B:Nat}(hB:w₀.heap.size≤B):OwnFrom B (fun (_:β) W=>Alk P w₀ W):=fun _ _ _ _ hs hg hr =>
 ⟨Nat.le_trans hs.1 hg.size,fun b hb hl=>by
  rw [hg.block b (Nat.lt_of_lt_of_le hl hs.1) (fun e=>by have:=(hr b e.symm).1;omega)]
  exact hs.2 b hb hl⟩
structure LvIn (B b0:Nat) (w:World) (tcs:Array Value) (st out:List Int) (ov outv:Value) (rs:List Nat) (wr:World):Prop where
 box:Boxed wr (b0+1+1) 81 ov
 row:wr.ownsRow b0 3 1 ov st.length (st.reverse.map (Value.int .i64))
 form:∃ g cap,ov=.slice (some ⟨g,0,none⟩) st.length cap∧outv.ownBlock≠some g
 out:wr.ownsRow b0 3 1 outv out.length (out.map (Value.int .i64))
 tree:wr.heap[b0]?=some (.cells tcs 25 (0,0))
 below:Below b0 w wr
 nd:rs.Nodup
 few:st.length≤549755813888
 marks:∀ r∈rs,b0≤r∧wr.heap[r]?=some (.deferred (some []))
def LvAct (at_ an:Option Addr)(toks:List Tok)(nodes:List Nd)(ct cn:Nat)(n:Int)(b0:Nat)(outv:Value)(rs:List Nat)(a:Act):Prop :=
 ∃ u7 u8 u10 u13 u14 u15 u16 u17 u18 u19 u20 u21 u22 u23 u24 u25 u26 u27 u28 u29 u30 u31 u32 u33 u34 u35 u36 u37 u38 u39 u40 u41 u42 u43 u44 u45 u46 u47 u48:Value,a={ tmps:=#[.agg #[.slice at_ toks.length ct,.slice an nodes.length cn],.int .i64 n,.pointer (some ⟨b0,0,none⟩),undef,.slice none 0 0,outv,.pointer (some ⟨b0+1+1,0,none⟩),u7,u8,undef,u10,.int .i64 n,.slice (some ⟨b0+1,0,none⟩) 1 1,u13,u14,u15,u16,u17,u18,u19,u20,u21,u22,u23,u24,u25,u26,u27,u28,u29,u30,u31,u32,u33,u34,u35,u36,u37,u38,u39,u40,u41,u42,u43,u44,u45,u46,u47,u48,undef],defers:=rs.map markOf }
def LvSt (at_ an:Option Addr)(toks:List Tok)(nodes:List Nd)(ct cn:Nat)(n:Int)(l:List Int)(B:Nat)(w:World)(gk:Nat)(a:Act)(wr:World):Prop :=
 ∃ (st out:List Int) (ov outv:Value) (rs:List Nat),leavesM nodes gk st out=some l∧LvIn B w.heap.size w #[.slice at_ toks.length ct,.slice an nodes.length cn] st out ov outv rs wr∧LvAct at_ an toks nodes ct cn n w.heap.size outv rs a
def LvRow (b0 ob g m _cap:Nat)(xs:List Int)(W0:World)(pre:List (Int × Int))(W:World):Prop :=
 (∃ v,Boxed W ob 81 v∧W.ownsRow b0 3 1 v (m+pre.length) ((xs++pre.map Prod.snd).map (Value.int .i64))∧∃ gg cp,v=.slice (some ⟨gg,0,none⟩) (m+pre.length) cp∧(gg=g∨W0.heap.size≤gg))
theorem leaves_any (B:Nat)(tv nv:Value)(toks:List Tok)(nodes:List Nd)(n:Int)(l:List Int)(g:Nat)(w:World)(h:TreeAt B w (.agg #[tv,nv]) toks nodes)(hB:B≤w.heap.size)(_hn:nodes.length≤1099511627776)(hl:leavesM nodes g [n] []=some l)(hlen:l.length≤549755813888) :
  Calls Tryz.prog 150 #[.agg #[tv,nv],.int .i64 n] w (LvPost l w):=by
 obtain ⟨i0,hi,hz0,hz1,hz2⟩:=info_parts Tryz.infoInt
 obtain ⟨at_,ct,an,cn,hv⟩:=h.slices
 simp only [Value.agg.injEq,Array.mk.injEq,List.cons.injEq,and_true] at hv
 obtain ⟨rfl,rfl⟩:=hv
 have HT:=Lib.hid h
 have HL:=Lib.hid hl
 clear h hl
 refine (callsIn_wide (n:=8)).1 ?_
 refine callsIn_of_wp_marks Tryz.func150 rfl trivial ?_ rfl
 simp only [Tryz.ntmps150,List.size_toArray,List.length_cons,List.length_nil,Nat.reduceAdd,Nat.reduceSub,Array.replicate_succ,Array.replicate_zero,List.push_toArray,List.append_toArray,List.nil_append,List.cons_append]
 gi_wp2
 refine wpIn_loop_ghost (fun gk a wr=>LvSt at_ an toks nodes ct cn n l B w gk a wr) g ?start ?round
 case start =>
  have e1:=heap_alloc_new w (.cells #[.slice at_ toks.length ct,.slice an nodes.length cn] 25)
  have e2:=heap_alloc_new (w.alloc (.cells #[.slice at_ toks.length ct,.slice an nodes.length cn] 25)) (.cells #[.int .i64 n] 3)
  have hb:Below w.heap.size w (((w.alloc (.cells #[.slice at_ toks.length ct,.slice an nodes.length cn] 25)).alloc (.cells #[.int .i64 n] 3)).alloc (.cells #[.slice (some ⟨w.heap.size+1,0,none⟩) 1 1] 81)):=(((Below.refl _ w).alloc (Nat.le_refl _) _).alloc (by simp) _).alloc (by simp;omega) _
  refine ⟨[n],[],.slice (some ⟨w.heap.size+1,0,none⟩) 1 1,.slice none 0 0,[],HL.out,⟨?_,?_,⟨_,_,rfl,by simp [Value.ownBlock]⟩,World.ownsRow_nil _ _ _ _,?_,hb,List.nodup_nil,by simp,fun r hr=>by cases hr⟩,?_⟩
  ·have:=heap_alloc_new ((w.alloc (.cells #[.slice at_ toks.length ct,.slice an nodes.length cn] 25)).alloc (.cells #[.int .i64 n] 3)) (.cells #[.slice (some ⟨w.heap.size+1,0,none⟩) 1 1] 81)
   simp only [World.size_alloc] at this
   exact this
  ·simp only [World.size_alloc] at e2
   exact ⟨rfl,.inr ⟨_,1,#[.int .i64 n],rfl,by omega,(Lib.alloc_old _ _ _ (by simp)).trans e2,Nat.le_refl _,by decide,rfl,rfl⟩⟩
  ·exact (Lib.alloc_old _ _ _ (by simp;omega)).trans ((Lib.alloc_old _ _ _ (by simp)).trans e1)
  ·repeat apply Exists.intro
   rfl
 case round =>
  rintro gk a wr ⟨st,out,ov,outv,rs,hm,hI,hA⟩
  obtain ⟨u7,u8,u10,u13,u14,u15,u16,u17,u18,u19,u20,u21,u22,u23,u24,u25,u26,u27,u28,u29,u30,u31,u32,u33,u34,u35,u36,u37,u38,u39,u40,u41,u42,u43,u44,u45,u46,u47,u48,rfl⟩:=hA
  dsimp only
  cases gk with
  | zero=>rw [leavesM] at hm;cases hm
  | succ gk =>
  obtain ⟨hbox,hrow,⟨gb,cap,rfl,hout⟩,hor,htr,hbl,hnd,hfew,hmk⟩:=hI
  have hf0:=hbox.frozen
  cases st with
  | nil =>
   have hc0:wr.cell? ⟨w.heap.size+1+1,0,none⟩=some (.slice (some ⟨gb,0,none⟩) 0 cap):=hbox.cell
   rw [leavesM] at hm
   injection hm with hm
   subst hm
   clear hbox hrow
   gi_wp2
   have hsz:=hbl.size
   refine marks_leave rs wr hnd (fun r hr=>(hmk r hr).2) ⟨outv,by simp [results,Tryz.results150,go_sem],outv,rfl,Sl.ofOwns (own_shut rs wr hnd (fun r hr=>(hmk r hr).2) hor),shutAll_below rs wr (fun r hr=>(hmk r hr).1) hsz hbl⟩
  | cons i rest =>
   rw [leavesM] at hm
   by_cases hi0:i<0
   ·rw [if_pos hi0] at hm;cases hm
   rw [if_neg hi0] at hm
   obtain ⟨k,rfl⟩:∃ k:Nat,i=(k:Int):=⟨i.toNat,by omega⟩
   rw [Int.toNat_natCast] at hm
   by_cases hk':nodes.length≤k
   ·rw [List.getElem?_eq_none (by omega)] at hm;cases hm
   have hk:k<nodes.length:=by omega
   rw [List.getElem?_eq_getElem hk] at hm
   simp only at hm
   obtain ⟨b,off,cap2,kv,hnv,hbB,hx0,hx1,hx2,hkv⟩:=HT.out.node hk
   simp only [Value.slice.injEq] at hnv
   obtain ⟨rfl,-,rfl⟩:=hnv
   have hlenR:rest.reverse.length=rest.length:=by simp
   have hrow':wr.ownsRow w.heap.size 3 1 (.slice (some ⟨gb,0,none⟩) (rest.length+1) cap) (rest.length+1) (rest.reverse.map (Value.int .i64)++[.int .i64 k]):=by
    have:=hrow
    rw [List.reverse_cons,List.map_append] at this
    exact this
   have hpop:=own_pop hrow'
   have hxi:wr.cell? ⟨gb,rest.length,none⟩=some (.int .i64 k):=by
    have:=own_cell hrow' (j:=rest.length) (u:=.int .i64 k) (by rw [List.getElem?_append_right (by simp)];simp)
    rw [Nat.zero_add] at this
    exact this
   have hc0:wr.cell? ⟨w.heap.size+1+1,0,none⟩=some (.slice (some ⟨gb,0,none⟩) (rest.length+1) cap):=hbox.cell
   have T:=Boxed.set (.slice (some ⟨gb,0,none⟩) rest.length cap) hbox
   have hne0:some (w.heap.size+1+1)≠(Value.slice (some ⟨gb,0,none⟩) rest.length cap).ownBlock:=hbox.not_row (e:=3) (by decide) hpop
   have hkI:(k:Int)<(nodes.length:Int):=by omega
   have hrl:rest.length≤549755813888:=by simp only [List.length_cons] at hfew;omega
   have hcap:=own_cap hrow'
   have hob:=hbox.lt
   have R5:=own_set (a:=⟨w.heap.size+1+1,0,none⟩) hpop hne0 (.slice (some ⟨gb,0,none⟩) rest.length cap)
   have O5:=own_set (a:=⟨w.heap.size+1+1,0,none⟩) hor (hbox.not_row (by decide) hor) (.slice (some ⟨gb,0,none⟩) rest.length cap)
   have E5:(wr.setCell ⟨w.heap.size+1+1,0,none⟩ (.slice (some ⟨gb,0,none⟩) rest.length cap)).heap[w.heap.size]?=_:=(heap_setCell_other _ _ _ _ (by show w.heap.size≠w.heap.size+1+1;omega)).trans htr
   have B5:=hbl.setCell (p:=⟨w.heap.size+1+1,0,none⟩) (by show w.heap.size≤w.heap.size+1+1;omega) (.slice (some ⟨gb,0,none⟩) rest.length cap)
   have M5:∀ r∈rs,w.heap.size≤r∧(wr.setCell ⟨w.heap.size+1+1,0,none⟩ (.slice (some ⟨gb,0,none⟩) rest.length cap)).heap[r]?=some (.deferred (some [])):=fun r hr=>⟨(hmk r hr).1,(heap_setCell_other _ _ _ _ (by
    show r≠w.heap.size+1+1
    rintro rfl
    have:=(hmk _ hr).2
    rw [show wr.heap[w.heap.size+1+1]?=_ from hbox] at this
    cases this)).trans (hmk r hr).2⟩
   have X0:=(B5.cell (p:=⟨b,off+k * 3,none⟩) (by show b<_;omega)).trans hx0
   have X1:=(B5.cell (p:=⟨b,off+k * 3+1,none⟩) (by show b<_;omega)).trans hx1
   have X2:=(B5.cell (p:=⟨b,off+k * 3+2,none⟩) (by show b<_;omega)).trans hx2
   have K5:=(hkv.mono hB).below B5
   clear hkv hx0 hx1 hx2 hrow hrow' htr hbl hor hmk hfew hpop hlenR
   gi_upto_region 6 with (fail)
   clear hc0 hf0 hxi hcap
   generalize wr.setCell ⟨w.heap.size+1+1,0,none⟩ _=W5 at T R5 O5 E5 B5 M5 X0 X1 X2 K5 ⊢
   have q0:W5.cell? ⟨w.heap.size,1,none⟩=some (.slice (some ⟨b,off,none⟩) nodes.length cn):=by rw [Lib.cell_of_heap E5];rfl
   clear hbox
   obtain ⟨akv,ckv,rfl,_,_⟩:=K5.form
   gi_upto_region 7 with (fail)
   have hs5:=B5.size
   have E6:=(Lib.alloc_old W5 (.cells #[.int .i64 nodes[k].kind,.int .i64 nodes[k].tok,.slice akv nodes[k].kids.length ckv] 83) w.heap.size (Array.getElem?_eq_some_iff.1 E5).1).trans E5
   have R6:=R5.alloc (.cells #[.int .i64 nodes[k].kind,.int .i64 nodes[k].tok,.slice akv nodes[k].kids.length ckv] 83)
   have O6:=O5.alloc (.cells #[.int .i64 nodes[k].kind,.int .i64 nodes[k].tok,.slice akv nodes[k].kids.length ckv] 83)
   have T6:=T.alloc (.cells #[.int .i64 nodes[k].kind,.int .i64 nodes[k].tok,.slice akv nodes[k].kids.length ckv] 83)
   have B6:=B5.alloc hs5 (.cells #[.int .i64 nodes[k].kind,.int .i64 nodes[k].tok,.slice akv nodes[k].kids.length ckv] 83)
   have M6:∀ r∈rs,w.heap.size≤r∧(W5.alloc (.cells #[.int .i64 nodes[k].kind,.int .i64 nodes[k].tok,.slice akv nodes[k].kids.length ckv] 83)).heap[r]?=some (.deferred (some [])):=fun r hr=>⟨(M5 r hr).1,(Lib.alloc_old W5 _ r (Array.getElem?_eq_some_iff.1 (M5 r hr).2).1).trans (M5 r hr).2⟩
   have N6:=heap_alloc_new W5 (.cells #[.int .i64 nodes[k].kind,.int .i64 nodes[k].tok,.slice akv nodes[k].kids.length ckv] 83)
   have K6:=K5.below ((Below.refl w.heap.size W5).alloc hs5 (.cells #[.int .i64 nodes[k].kind,.int .i64 nodes[k].tok,.slice akv nodes[k].kids.length ckv] 83))
   clear E5 R5 O5 T B5 M5 K5 X0 X1 X2 q0
   generalize W5.heap.size=xb at N6 ⊢
   generalize W5.alloc _=W6 at N6 E6 R6 O6 T6 B6 M6 K6 ⊢
   have x0:W6.cell? ⟨xb,0,none⟩=some (.int .i64 nodes[k].kind):=by rw [Lib.cell_of_heap N6];rfl
   have x1:W6.cell? ⟨xb,1,none⟩=some (.int .i64 nodes[k].tok):=by rw [Lib.cell_of_heap N6];rfl
   have x2:W6.cell? ⟨xb,2,none⟩=some (.slice akv nodes[k].kids.length ckv):=by rw [Lib.cell_of_heap N6];rfl
   have hs6:=B6.size
   clear hs5 N6
   by_cases hleaf:nodes[k].kind=19
   ·rw [if_pos hleaf] at hm
    rw [hleaf] at x0
    have hol:=leavesM_len _ _ _ _ hm
    simp only [List.length_append,List.length_cons,List.length_nil] at hol
    have HM:=Lib.hid hm
    clear hm K6 x2
    generalize nodes[k].tok=tk at x1 HM
    gi_wp2_with (gi_at_builtin;refine wpListIn_append_own_at _ rfl _ _ 81 rfl w.heap.size 3 i0 (.int .i64 0) 1 8 Tryz.underlying81 hi hz0 hz1 hz2 rfl (by decide) outv _ _ rfl (O6.alloc _) ⟨W6.heap.size,0,none⟩ 1 1 [.int .i64 tk] rfl rfl (cell_one_new _ _ _) (by simp [Value.oneCell']) (by unfold maxLen;omega) (by omega) (by simp;omega) ?_;intro v' w1 hown' hgrow _ hob';obtain ⟨g',cap',rfl⟩:=ownsRow_succ hown')
    have hlt6:gb≠W6.heap.size:=by
     rcases R6.2 with ⟨hv,_⟩|⟨gg,c9,cur,hv,_,hgg,_⟩
     ·cases hv
     ·simp only [Value.slice.injEq,Option.some.injEq,Addr.mk.injEq] at hv
      have:=(Array.getElem?_eq_some_iff.1 hgg).1
      omega
    have hg':g'≠gb:=by
     rintro rfl
     rcases hob' with q|q
     ·exact hout q.symm
     ·simp only [Value.ownBlock,World.size_alloc,Option.some.injEq] at q
      have:=(R6.lt g' rfl).2
      omega
    have hne7:∀ q,outv.ownBlock=some q→w.heap.size≤q:=fun q hq=>(O6.lt q hq).1
    refine ⟨gk,by omega,rest,out++[tk],.slice (some ⟨gb,0,none⟩) rest.length cap,.slice (some ⟨g',0,none⟩) (out.length+1) cap',rs,HM.out,⟨?_,?_,⟨gb,cap,rfl,fun q=>hg' (Option.some.inj q)⟩,?_,?_,?_,hnd,by omega,?_⟩,?_⟩
    ·exact (T6.alloc (.cells #[.int .i64 tk] 3)).kept hgrow ((T6.alloc (.cells #[.int .i64 tk] 3)).not_row (by decide) (O6.alloc (.cells #[.int .i64 tk] 3)))
    ·have:=(R6.alloc (.cells #[.int .i64 tk] 3)).kept hgrow (.inr fun q=>hout q.symm)
     simpa using this
    ·simpa using hown'
    ·exact own_block (O6.alloc _) hgrow ((Lib.alloc_old W6 (.cells #[.int .i64 tk] 3) w.heap.size (Array.getElem?_eq_some_iff.1 E6).1).trans E6) (by decide)
    ·exact (B6.alloc hs6 _).grown hgrow (by simp;omega) hne7
    ·intro r hr
     refine ⟨(M6 r hr).1,?_⟩
     have hrl:=(Array.getElem?_eq_some_iff.1 (M6 r hr).2).1
     rw [hgrow.block r (by simp;omega) (fun q=>?_)]
     ·exact (Lib.alloc_old W6 _ r hrl).trans (M6 r hr).2
     ·rcases O6.2 with ⟨hv,_⟩|⟨gg,c9,cur,hv,_,hgg,_⟩
      ·rw [hv] at q;cases q
      ·rw [hv] at q
       simp only [Value.ownBlock,Option.some.injEq] at q
       subst q
       rw [(M6 r hr).2] at hgg
       cases hgg
    ·repeat apply Exists.intro
     rfl
   ·rw [if_neg hleaf] at hm
    by_cases hbig:549755813888<(nodes[k].kids++rest).length
    ·rw [if_pos hbig] at hm;cases hm
    rw [if_neg hbig] at hm
    rw [List.length_append] at hbig
    have hkd:(nodes[k].kind == 19)=false:=by simpa using hleaf
    have HM:=Lib.hid hm
    have HB:=Lib.hid hbig
    clear hm x1 hleaf hbig
    gi_wp2_with (refine ⟨trivial,?_⟩;gi_at_call 220;refine (back_in Fence.wide _ trivial rfl _ _ _ _).mono ?_;rintro e w' ⟨rfl,rfl⟩)
    have hsz6:W6.heap.size<(W6.alloc (.cells #[.slice akv nodes[k].kids.length ckv] 81)).heap.size:=by simp
    have Bk:=Boxed.new W6 81 (.slice akv nodes[k].kids.length ckv)
    have T7:=T6.alloc (.cells #[.slice akv nodes[k].kids.length ckv] 81)
    have R7:=R6.alloc (.cells #[.slice akv nodes[k].kids.length ckv] 81)
    have O7:=O6.alloc (.cells #[.slice akv nodes[k].kids.length ckv] 81)
    have E7:=(Lib.alloc_old W6 (.cells #[.slice akv nodes[k].kids.length ckv] 81) w.heap.size (Array.getElem?_eq_some_iff.1 E6).1).trans E6
    have B7:=B6.alloc hs6 (.cells #[.slice akv nodes[k].kids.length ckv] 81)
    have K7:=K6.below ((Below.refl w.heap.size W6).alloc hs6 (.cells #[.slice akv nodes[k].kids.length ckv] 81))
    have M7:∀ r∈rs,w.heap.size≤r∧(W6.alloc (.cells #[.slice akv nodes[k].kids.length ckv] 81)).heap[r]?=some (.deferred (some [])):=fun r hr=>⟨(M6 r hr).1,(Lib.alloc_old W6 _ r (Array.getElem?_eq_some_iff.1 (M6 r hr).2).1).trans (M6 r hr).2⟩
    have hob6:=T6.lt
    clear T6 R6 O6 E6 B6 K6 M6 x0 x2
    generalize W6.heap.size=bs at Bk hsz6 hs6 hob6 ⊢
    generalize W6.alloc _=W7 at Bk T7 R7 O7 E7 B7 K7 M7 hsz6 ⊢
    generalize nodes[k].kids=ks at Bk HM HB K7 ⊢
    have hgb:w.heap.size≤gb∧gb<W7.heap.size:=R7.lt gb rfl
    have hbsne:bs≠gb:=by
     have:=Bk.not_row (e:=3) (by decide) R7
     rintro rfl
     exact this rfl
    refine wpIn_rangeFunc_ownG rfl (by decide) (gf:=265) (lb:=#[.pointer (some ⟨bs,0,none⟩)]) rfl trivial (enters_of Tryz.func265 (by kernel_rfl) rfl)
     (back_stops Fence.wide 7 trivial rfl (by decide) bs w.heap.size _ ks (by have:=HB.out;omega) W7 hsz6 (by omega) Bk.cell K7) (fun {_ _ _} h1 h2=>BackKp.trans h1 h2) ?kb (Below.refl _ _) (fun _=>rfl)
     (fun pre W=>LvRow w.heap.size (w.heap.size+1+1) gb rest.length cap rest.reverse W7 pre W∧(Alk (fun q=>q≠w.heap.size+1+1∧q≠gb) W7 W∧Below w.heap.size w W))
     (fun _ _ _=>False)
     (OwnFrom.and (Own.from (holdsRow_own w.heap.size (w.heap.size+1+1) 81 3 1 (fun pre:List (Int × Int)=>rest.length+pre.length) (fun pre=>(rest.reverse++pre.map Prod.snd).map (Value.int .i64)) (fun pre v=>∃ gg cp,v=.slice (some ⟨gg,0,none⟩) (rest.length+pre.length) cp∧(gg=gb∨W7.heap.size≤gg))) _) (OwnFrom.and (ownFrom_alk (Nat.le_refl _)) (ownFrom_below (Nat.le_refl _) (by omega))))
     (fun _ _ _ _ _ hs _ _=>hs)
     ⟨⟨_,T7,by simpa using R7,gb,cap,rfl,.inl rfl⟩,Alk.refl _ _,B7⟩
     ?a1 ?assign ?body ?done ?stop
    case kb =>
     intro W lq o o' hl ho hc hw
     have hbl:bs<lq:=by omega
     exact ⟨belowK_b (w:=W7) (by omega) W lq o o' hl ho hc hw,World.cell?_of_block (a:=⟨bs,0,none⟩) (World.putObj_heap_other (Nat.ne_of_lt hbl))⟩
    case assign =>
     intro l x W K hK
     gi_wp2
     exact hK
    case body =>
     rintro lp pre x W ⟨⟨v,hbx,hrow,gg,cp,rfl,hgg⟩,halk,hBW⟩ hlt
     have hc:=hbx.cell
     have hWs:=hBW.size
     have hB2:=HB.out
     gi_wp2_with (gi_at_builtin;refine wpListIn_append_own_at _ rfl _ _ 81 rfl w.heap.size 3 i0 (.int .i64 0) 1 8 Tryz.underlying81 hi hz0 hz1 hz2 rfl (by decide) (.slice (some ⟨gg,0,none⟩) (rest.length+pre.length) cp) _ _ rfl (hrow.alloc _) ⟨W.heap.size,0,none⟩ 1 1 [.int .i64 x.2] rfl rfl (cell_one_new _ _ _) (by simp [Value.oneCell']) (by unfold maxLen;omega) (by omega) (by simp;omega) ?_;intro v' w1 hown' hgrow _ hor';obtain ⟨g',cap',rfl⟩:=ownsRow_succ hown';obtain ⟨hv1,hv2,hr2,hk2,hb2⟩:=hbx.appended (by decide) hrow hWs (by omega) hown' hgrow;have hc1:=hv1.cell;have hf1:=hv1.frozen)
     have hfr:∀ q,q<W.heap.size→q≠w.heap.size+1+1→q≠gg→(w1.setCell ⟨w.heap.size+1+1,0,none⟩ (.slice (some ⟨g',0,none⟩) (rest.length+pre.length+1) cap')).heap[q]?=W.heap[q]?:=fun q h1 h2 h3 =>
      (heap_setCell_other _ _ _ _ h2).trans ((hgrow.block q (by simp;omega) (fun e=>h3 (Option.some.inj e))).trans (Lib.alloc_old W _ q h1))
     have hsz7:=halk.1
     refine ⟨hk2.from _,⟨hb2,World.cell?_of_block (a:=⟨bs,0,none⟩) (hfr bs (by omega) (by omega) (by omega))⟩,⟨_,hv2,?_,g',cap',?_,?_⟩,⟨Nat.le_trans halk.1 hk2.size,fun q hq hl=>(hfr q (by omega) hq.1 (by omega)).trans (halk.2 q hq hl)⟩,hBW.trans hb2⟩
     ·simpa [Nat.add_assoc] using hr2
     ·simp [Nat.add_assoc]
     ·simp only [Value.ownBlock,World.size_alloc,Option.some.injEq] at hor'
      omega
    case done =>
     rintro D ys W hD rfl ⟨⟨v,hbx,hrow,gg,cp,rfl,hgg⟩,halk,hBW⟩ hK
     rw [backF_len,backF_snd _ _ (Nat.le_refl _),List.take_of_length_le (by simp)] at hrow
     rw [backF_len] at hbx
     have hB2:=HB.out
     have htree:w.heap.size≠gb:=fun q=>by
      have:=own_ne R7 E7 (by decide)
      exact this (by rw [q];rfl)
     gi_wp2
     refine ⟨gk,by omega,ks++rest,out,.slice (some ⟨gg,0,none⟩) (rest.length+ks.length) cp,outv,D :: rs,HM.out,⟨hbx,?_,⟨gg,cp,?_,?_⟩,?_,?_,hBW,?_,by simp;omega,?_⟩,?_⟩
     ·rw [List.reverse_append,List.length_append,Nat.add_comm ks.length]
      exact hrow
     ·rw [List.length_append,Nat.add_comm ks.length]
     ·intro q
      rcases hgg with rfl|hgg
      ·exact hout q
      ·have:=(O7.lt gg q).2
       omega
     ·refine own_same O7 fun q hq=>halk.2 q ⟨?_,?_⟩ (O7.lt q hq).2
      ·rintro rfl
       exact T7.not_row (by decide) O7 hq.symm
      ·rintro rfl
       exact hout hq
     ·exact (halk.2 w.heap.size ⟨by omega,htree⟩ (Array.getElem?_eq_some_iff.1 E7).1).trans E7
     ·rw [List.nodup_cons]
      refine ⟨fun q=>?_,hnd⟩
      have:=(Array.getElem?_eq_some_iff.1 (M7 D q).2).1
      omega
     ·intro r hr
      rcases List.mem_cons.1 hr with rfl|hr
      ·exact ⟨by omega,hK⟩
      ·refine ⟨(M7 r hr).1,(halk.2 r ⟨?_,?_⟩ (Array.getElem?_eq_some_iff.1 (M7 r hr).2).1).trans (M7 r hr).2⟩
       ·rintro rfl
        have:=(M7 _ hr).2
        rw [show W7.heap[w.heap.size+1+1]?=_ from T7] at this
        cases this
       ·rintro rfl
        rcases R7.2 with ⟨hv,_⟩|⟨g9,c9,cur,hv,_,hgg9,_⟩
        ·cases hv
        ·simp only [Value.slice.injEq,Option.some.injEq,Addr.mk.injEq] at hv
         obtain ⟨⟨rfl,-,-⟩,-,-⟩:=hv
         rw [(M7 _ hr).2] at hgg9
         cases hgg9
     ·repeat apply Exists.intro
      rfl
    case stop =>
     rintro D c pre W _ _ h _
     exact h.elim
end Go.Proofs.YtbodlpoomfefcaaGreatDoor
