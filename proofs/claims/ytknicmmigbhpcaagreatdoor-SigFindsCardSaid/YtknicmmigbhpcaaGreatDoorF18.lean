/- Walks and plain laws: LeavesW2, TreeW2. -/
import Derived.Maps.OwnIn
import Derived.Sort.CutIn
import Derived.Test.YtknicmmigbhpcaaGreatDoorF17
set_option maxHeartbeats 16000000
set_option maxRecDepth 100000
set_option linter.unusedVariables false
set_option linter.unusedSimpArgs false
namespace Go.Proofs.YtknicmmigbhpcaaGreatDoor
open Go.RowKit Go.Shelf
attribute [local go_sem] Oper.semAt_some
def aaV (l:List Int)(w:World)(e:Ending)(w':World):Prop:=∃ v,e=.returned v∧Ints w'.heap.size w' v l∧Below w.heap.size w w'
theorem tC {nodes:List Nd}:∀ (g:Nat) (st out l:List Int),eG nodes g st out=some l→out.length≤l.length
 | 0,st,out,l,h=>by rw[eG] at h;cases h
 | g+1,[],out,l,h=>by rw[eG] at h;injection h with h;subst h;exact Nat.le_refl _
 | g+1,i :: rest,out,l,h=>by
  rw[eG] at h
  split at h
  ·cases h
  ·split at h
   ·cases h
   ·split at h
    ·have:=tC g _ _ _ h
     simp only[bP,dX,List.length_nil] at this;omega
    ·split at h
     ·cases h
     ·exact tC g _ _ _ h
def Vf (r:Nat):Deferred:={ target:=.collected r,args:=#[] }
def shutAll:World→List Nat→World
 | w,[]=>w
 | w,r :: rs=>shutAll (w.putObj r (.deferred none)) rs
theorem uS {B:Nat}{w0:World}:∀ (rs:List Nat) (w:World),(∀ r∈rs,B≤r)→B≤w.heap.size→Below B w0 w→Below B w0 (shutAll w rs)
 | [],w,_,_,hb=>hb
 | r :: rs,w,h,hB,hb=>by
  rw[shutAll];refine uS rs _ (fun x hx=>h x (List.mem_cons_of_mem _ hx)) (by simpa using hB) (hb.grown (grownBy_putObj' w r (.deferred none)) hB (fun k e=>?_));cases e;exact h r List.mem_cons_self
theorem zW {F:Fence}{n:Nat}{P:Program}{fn:Func}{tmps:Array Value}{R:Ending→World→Prop}:∀ (rs:List Nat) (w:World),rs.Nodup→(∀ r∈rs,w.heap[r]?=some (.deferred (some []))) →
  LeavesIn F n P fn tmps R [] .returning (shutAll w rs)→LeavesInM F n P fn tmps R (rs.map Vf) .returning w
 | [],w,_,_,h=>h
 | r :: rs,w,hnd,hm,h=>by
  rw[List.nodup_cons] at hnd;refine⟨by simp,.inl ⟨r,_,rfl,run_takeDeferred (hm r List.mem_cons_self),zW rs _ hnd.2 (fun x hx=>?_) h⟩⟩;rw[World.putObj_heap_other (fun q=>hnd.1 (by rw[← q];exact hx))];exact hm x (List.mem_cons_of_mem _ hx)
theorem Kt {B e sz n:Nat}{v:Value}{xs:List Value}:∀ (rs:List Nat) (w:World),rs.Nodup→(∀ r∈rs,w.heap[r]?=some (.deferred (some [])))→w.ownsRow B e sz v n xs→(shutAll w rs).ownsRow B e sz v n xs
 | [],w,_,_,h=>h
 | r :: rs,w,hnd,hm,h=>by
  rw[List.nodup_cons] at hnd;refine Kt rs _ hnd.2 (fun x hx=>?_) (ownsRow_putObj h _ (hm r List.mem_cons_self) rfl);rw[World.putObj_heap_other (fun q=>hnd.1 (by rw[← q];exact hx))];exact hm x (List.mem_cons_of_mem _ hx)
theorem YK {w:World}{B e m cap:Nat}{ao:Option Addr}{xs:List Value}{x:Value}(h:w.ownsRow B e 1 (.slice ao (m+1) cap) (m+1) (xs++[x])):w.ownsRow B e 1 (.slice ao m cap) m xs:=by
 obtain⟨hl,h⟩:=h
 rcases h with ⟨_,h0⟩|⟨g,c,cur,hv,hg,hh,hn,hm,hs,hx⟩
 ·omega
 ·simp only[Value.slice.injEq] at hv
  obtain⟨rfl,-,rfl⟩:=hv
  have hlx:xs.length=m * 1:=by simp at hl;omega
  refine⟨hlx,.inr ⟨g,cap,cur,rfl,hg,hh,by omega,hm,hs,?_⟩⟩;have h2:=congrArg (List.take (m * 1)) hx;rw[List.take_take,Nat.min_eq_left (by omega),List.take_left' hlx] at h2;exact h2
theorem Vg {w w':World}{B e sz n:Nat}{v:Value}{xs:List Value}(h:w.ownsRow B e sz v n xs)(hs:∀ q,v.ownBlock=some q→w'.heap[q]?=w.heap[q]?):w'.ownsRow B e sz v n xs:=by
 refine⟨h.1,?_⟩
 rcases h.2 with hn|⟨g,cap,cur,hv,hg,hh,hr⟩
 ·exact .inl hn
 ·exact .inr ⟨g,cap,cur,hv,hg,(hs g (by rw[hv];rfl)).trans hh,hr⟩
theorem YL {w:World}{B e n cap:Nat}{ao:Option Addr}{xs:List Value}(h:w.ownsRow B e 1 (.slice ao n cap) n xs):n≤cap:=by
 rcases h.2 with ⟨hv,h0⟩|⟨g,c,cur,hv,hg,hh,hn,_⟩
 ·omega
 ·simp only[Value.slice.injEq] at hv
  omega
theorem Vh {w:World}{B e n cap:Nat}{g off:Nat}{xs:List Value}(h:w.ownsRow B e 1 (.slice (some ⟨g,off,none⟩) n cap) n xs){j:Nat}{u:Value}(hj:xs[j]?=some u):w.cell? ⟨g,off+j,none⟩=some u:=by
 obtain⟨ao,c,hv,_,hl,hc⟩:=Sl.fF h;obtain⟨h1,h2⟩:=mR hj;obtain⟨b,o,ha,_,hcell⟩:=hc (by omega);simp only[Value.slice.injEq] at hv;rw[ha] at hv;obtain⟨hv,_⟩:=hv;simp only[Option.some.injEq,Addr.mk.injEq] at hv;obtain⟨rfl,rfl,_⟩:=hv;rw[hcell j h1,h2]
theorem Ku {β:Type}{P:Nat→Prop}{w₀:World}{B:Nat}(hB:w₀.heap.size≤B):OwnFrom B (fun (_:β) W=>aQ P w₀ W):=fun _ _ _ _ hs hg hr =>
 ⟨Nat.le_trans hs.1 hg.size,fun b hb hl=>by
  rw[hg.block b (Nat.lt_of_lt_of_le hl hs.1) (fun e=>by have:=(hr b e.symm).1;omega)]
  exact hs.2 b hb hl⟩
structure adK (B b0:Nat) (w:World) (tcs:Array Value) (st out:List Int) (ov ze:Value) (rs:List Nat) (wr:World):Prop where
 box:Boxed wr (b0+1+1) 51 ov
 row:wr.ownsRow b0 3 1 ov st.length (st.reverse.map (Value.int .i64))
 form:∃ g cap,ov=.slice (some ⟨g,0,none⟩) st.length cap∧ze.ownBlock≠some g
 out:wr.ownsRow b0 3 1 ze out.length (out.map (Value.int .i64))
 tree:wr.heap[b0]?=some (.cells tcs 89 (0,0))
 below:Below b0 w wr
 nd:rs.Nodup
 few:st.length≤549755813888
 marks:∀ r∈rs,b0≤r∧wr.heap[r]?=some (.deferred (some []))
def acj (at_ an:Option Addr)(toks:List Tok)(nodes:List Nd)(ct cn:Nat)(n:Int)(b0:Nat)(ze:Value)(rs:List Nat)(a:Act):Prop :=
 ∃ u7 u8 u10 u13 u14 u15 u16 u17 u18 u19 u20 u21 u22 u23 u24 u25 u26 u27 u28 u29 u30 u31 u32 u33 u34 u35 u36 u37 u38 u39 u40 u41 u42 u43 u44 u45 u46 u47 u48:Value,a={ tmps:=#[.agg #[.slice at_ toks.length ct,.slice an nodes.length cn],.int .i64 n,.pointer (some ⟨b0,0,none⟩),undef,.slice none 0 0,ze,.pointer (some ⟨b0+1+1,0,none⟩),u7,u8,undef,u10,.int .i64 n,.slice (some ⟨b0+1,0,none⟩) 1 1,u13,u14,u15,u16,u17,u18,u19,u20,u21,u22,u23,u24,u25,u26,u27,u28,u29,u30,u31,u32,u33,u34,u35,u36,u37,u38,u39,u40,u41,u42,u43,u44,u45,u46,u47,u48,undef],defers:=rs.map Vf }
def adL (at_ an:Option Addr)(toks:List Tok)(nodes:List Nd)(ct cn:Nat)(n:Int)(l:List Int)(B:Nat)(w:World)(gk:Nat)(a:Act)(wr:World):Prop :=
 ∃ (st out:List Int) (ov ze:Value) (rs:List Nat),eG nodes gk st out=some l∧adK B w.heap.size w #[.slice at_ toks.length ct,.slice an nodes.length cn] st out ov ze rs wr∧acj at_ an toks nodes ct cn n w.heap.size ze rs a
def acn (b0 ob g m _cap:Nat)(xs:List Int)(W0:World)(pre:List (Int × Int))(W:World):Prop :=
 (∃ v,Boxed W ob 51 v∧W.ownsRow b0 3 1 v (m+pre.length) ((xs++pre.map Prod.snd).map (Value.int .i64))∧∃ gg cp,v=.slice (some ⟨gg,0,none⟩) (m+pre.length) cp∧(gg=g∨W0.heap.size≤gg))
theorem Ns (B:Nat)(tv nv:Value)(toks:List Tok)(nodes:List Nd)(n:Int)(l:List Int)(g:Nat)(w:World)(h:aP B w (.agg #[tv,nv]) toks nodes)(hB:B≤w.heap.size)(_hn:nodes.length≤1099511627776)(hl:eG nodes g [n] []=some l)(hlen:l.length≤549755813888) :
  Calls Tryz.prog 281 #[.agg #[tv,nv],.int .i64 n] w (aaV l w):=by
 obtain⟨i0,hi,hz0,hz1,hz2⟩:=info_parts Tryz.kP;obtain⟨at_,ct,an,cn,hv⟩:=h.slices;simp only[Value.agg.injEq,Array.mk.injEq,List.cons.injEq,and_true] at hv;obtain⟨rfl,rfl⟩:=hv;have HT:=ah h;have HL:=ah hl;clear h hl;refine(callsIn_wide (n:=8)).1 ?_;refine callsIn_of_wp_marks Tryz.func281 rfl trivial ?_ rfl;simp only[Tryz.ntmps281,List.size_toArray,dX,List.length_nil,Nat.reduceAdd,Nat.reduceSub,Array.replicate_succ,Array.replicate_zero,List.push_toArray,List.append_toArray,List.nil_append,List.cons_append]
 gi_wp2
 refine wpIn_loop_ghost (fun gk a wr=>adL at_ an toks nodes ct cn n l B w gk a wr) g ?start ?round
 case start =>
  have e1:=heap_alloc_new w (.cells #[.slice at_ toks.length ct,.slice an nodes.length cn] 89);have e2:=heap_alloc_new (w.alloc (.cells #[.slice at_ toks.length ct,.slice an nodes.length cn] 89)) (.cells #[.int .i64 n] 3);have hb:Below w.heap.size w (((w.alloc (.cells #[.slice at_ toks.length ct,.slice an nodes.length cn] 89)).alloc (.cells #[.int .i64 n] 3)).alloc (.cells #[.slice (some ⟨w.heap.size+1,0,none⟩) 1 1] 51)):=(((Below.refl _ w).alloc (Nat.le_refl _) _).alloc (by simp) _).alloc (by simp;omega) _;refine⟨[n],[],.slice (some ⟨w.heap.size+1,0,none⟩) 1 1,.slice none 0 0,[],HL.out,⟨?_,?_,⟨_,_,rfl,by simp[Value.ownBlock]⟩,World.ownsRow_nil _ _ _ _,?_,hb,List.nodup_nil,by simp,fun r hr=>by cases hr⟩,?_⟩
  ·have:=heap_alloc_new ((w.alloc (.cells #[.slice at_ toks.length ct,.slice an nodes.length cn] 89)).alloc (.cells #[.int .i64 n] 3)) (.cells #[.slice (some ⟨w.heap.size+1,0,none⟩) 1 1] 51)
   simp only[World.size_alloc] at this;exact this
  ·simp only[World.size_alloc] at e2
   exact⟨rfl,.inr ⟨_,1,#[.int .i64 n],rfl,by omega,(Lib.alloc_old _ _ _ (by simp)).trans e2,Nat.le_refl _,by decide,rfl,rfl⟩⟩
  ·exact(Lib.alloc_old _ _ _ (by simp;omega)).trans ((Lib.alloc_old _ _ _ (by simp)).trans e1)
  ·repeat apply Exists.intro
   rfl
 case round =>
  rintro gk a wr ⟨st,out,ov,ze,rs,hm,hI,hA⟩;obtain⟨u7,u8,u10,u13,u14,u15,u16,u17,u18,u19,u20,u21,u22,u23,u24,u25,u26,u27,u28,u29,u30,u31,u32,u33,u34,u35,u36,u37,u38,u39,u40,u41,u42,u43,u44,u45,u46,u47,u48,rfl⟩:=hA;dsimp only
  cases gk with
  | zero=>rw[eG] at hm;cases hm
  | succ gk =>
  obtain⟨Ey,hrow,⟨gb,cap,rfl,hout⟩,hor,htr,hbl,hnd,Ev,hmk⟩:=hI;have hf0:=Ey.frozen
  cases st with
  | nil =>
   have hc0:wr.cell? ⟨w.heap.size+1+1,0,none⟩=some (.slice (some ⟨gb,0,none⟩) 0 cap):=Ey.cell;rw[eG] at hm
   injection hm with hm
   subst hm;clear Ey hrow
   gi_wp2
   have hsz:=hbl.size;refine zW rs wr hnd (fun r hr=>(hmk r hr).2) ⟨ze,by simp[results,Tryz.results281,go_sem],ze,rfl,Sl.fF (Kt rs wr hnd (fun r hr=>(hmk r hr).2) hor),uS rs wr (fun r hr=>(hmk r hr).1) hsz hbl⟩
  | cons i rest =>
   rw[eG] at hm
   by_cases hi0:i<0
   ·rw[if_pos hi0] at hm;cases hm
   rw[if_neg hi0] at hm
   obtain⟨k,rfl⟩:∃ k:Nat,i=(k:Int):=⟨i.toNat,by omega⟩
   rw[Int.toNat_natCast] at hm
   by_cases hk':nodes.length≤k
   ·rw[List.getElem?_eq_none (by omega)] at hm;cases hm
   have hk:k<nodes.length:=by omega
   rw[List.getElem?_eq_getElem hk] at hm;simp only at hm;obtain⟨b,off,cap2,kv,Z5,ZY,hx0,hx1,hx2,hkv⟩:=HT.out.node hk;simp only[Value.slice.injEq] at Z5;obtain⟨rfl,-,rfl⟩:=Z5
   have aco:rest.reverse.length=rest.length:=by simp
   have hrow':wr.ownsRow w.heap.size 3 1 (.slice (some ⟨gb,0,none⟩) (rest.length+1) cap) (rest.length+1) (rest.reverse.map (Value.int .i64)++[.int .i64 k]):=by
    have:=hrow;rw[List.reverse_cons,List.map_append] at this;exact this
   have aaW:=YK hrow'
   have hxi:wr.cell? ⟨gb,rest.length,none⟩=some (.int .i64 k):=by
    have:=Vh hrow' (j:=rest.length) (u:=.int .i64 k) (by rw[List.getElem?_append_right (by simp)];simp);rw[Nat.zero_add] at this;exact this
   have hc0:wr.cell? ⟨w.heap.size+1+1,0,none⟩=some (.slice (some ⟨gb,0,none⟩) (rest.length+1) cap):=Ey.cell;have T:=Boxed.set (.slice (some ⟨gb,0,none⟩) rest.length cap) Ey;have hne0:some (w.heap.size+1+1)≠(Value.slice (some ⟨gb,0,none⟩) rest.length cap).ownBlock:=Ey.not_row (e:=3) (by decide) aaW
   have nJ:(k:Int)<(nodes.length:Int):=by omega
   have hrl:rest.length≤549755813888:=by simp only[dX] at Ev;omega
   have hcap:=YL hrow';have hob:=Ey.lt;have R5:=iD (a:=⟨w.heap.size+1+1,0,none⟩) aaW hne0 (.slice (some ⟨gb,0,none⟩) rest.length cap);have O5:=iD (a:=⟨w.heap.size+1+1,0,none⟩) hor (Ey.not_row (by decide) hor) (.slice (some ⟨gb,0,none⟩) rest.length cap);have E5:(wr.setCell ⟨w.heap.size+1+1,0,none⟩ (.slice (some ⟨gb,0,none⟩) rest.length cap)).heap[w.heap.size]?=_:=(heap_setCell_other _ _ _ _ (by show w.heap.size≠w.heap.size+1+1;omega)).trans htr;have B5:=hbl.setCell (p:=⟨w.heap.size+1+1,0,none⟩) (by show w.heap.size≤w.heap.size+1+1;omega) (.slice (some ⟨gb,0,none⟩) rest.length cap)
   have M5:∀ r∈rs,w.heap.size≤r∧(wr.setCell ⟨w.heap.size+1+1,0,none⟩ (.slice (some ⟨gb,0,none⟩) rest.length cap)).heap[r]?=some (.deferred (some [])):=fun r hr=>⟨(hmk r hr).1,(heap_setCell_other _ _ _ _ (by
    show r≠w.heap.size+1+1;rintro rfl;have:=(hmk _ hr).2;rw[show wr.heap[w.heap.size+1+1]?=_ from Ey] at this
    cases this)).trans (hmk r hr).2⟩
   have X0:=(B5.cell (p:=⟨b,off+k * 3,none⟩) (by show b<_;omega)).trans hx0;have X1:=(B5.cell (p:=⟨b,off+k * 3+1,none⟩) (by show b<_;omega)).trans hx1;have X2:=(B5.cell (p:=⟨b,off+k * 3+2,none⟩) (by show b<_;omega)).trans hx2;have K5:=(hkv.mono hB).below B5;clear hkv hx0 hx1 hx2 hrow hrow' htr hbl hor hmk Ev aaW aco
   gi_upto_region 6 with (fail)
   clear hc0 hf0 hxi hcap;generalize wr.setCell ⟨w.heap.size+1+1,0,none⟩ _=W5 at T R5 O5 E5 B5 M5 X0 X1 X2 K5 ⊢
   have q0:W5.cell? ⟨w.heap.size,1,none⟩=some (.slice (some ⟨b,off,none⟩) nodes.length cn):=by rw[Lib.cell_of_heap E5];rfl
   clear Ey;obtain⟨rO,rP,rfl,_,_⟩:=K5.form
   gi_upto_region 7 with (fail)
   have hs5:=B5.size;have E6:=(Lib.alloc_old W5 (.cells #[.int .i64 nodes[k].kind,.int .i64 nodes[k].tok,.slice rO nodes[k].kids.length rP] 134) w.heap.size (bG E5).1).trans E5;have R6:=R5.alloc (.cells #[.int .i64 nodes[k].kind,.int .i64 nodes[k].tok,.slice rO nodes[k].kids.length rP] 134);have O6:=O5.alloc (.cells #[.int .i64 nodes[k].kind,.int .i64 nodes[k].tok,.slice rO nodes[k].kids.length rP] 134);have T6:=T.alloc (.cells #[.int .i64 nodes[k].kind,.int .i64 nodes[k].tok,.slice rO nodes[k].kids.length rP] 134);have B6:=B5.alloc hs5 (.cells #[.int .i64 nodes[k].kind,.int .i64 nodes[k].tok,.slice rO nodes[k].kids.length rP] 134)
   have M6:∀ r∈rs,w.heap.size≤r∧(W5.alloc (.cells #[.int .i64 nodes[k].kind,.int .i64 nodes[k].tok,.slice rO nodes[k].kids.length rP] 134)).heap[r]?=some (.deferred (some [])):=fun r hr=>⟨(M5 r hr).1,(Lib.alloc_old W5 _ r (bG (M5 r hr).2).1).trans (M5 r hr).2⟩
   have N6:=heap_alloc_new W5 (.cells #[.int .i64 nodes[k].kind,.int .i64 nodes[k].tok,.slice rO nodes[k].kids.length rP] 134);have K6:=K5.below ((Below.refl w.heap.size W5).alloc hs5 (.cells #[.int .i64 nodes[k].kind,.int .i64 nodes[k].tok,.slice rO nodes[k].kids.length rP] 134));clear E5 R5 O5 T B5 M5 K5 X0 X1 X2 q0;generalize W5.heap.size=xb at N6 ⊢;generalize W5.alloc _=W6 at N6 E6 R6 O6 T6 B6 M6 K6 ⊢
   have x0:W6.cell? ⟨xb,0,none⟩=some (.int .i64 nodes[k].kind):=by rw[Lib.cell_of_heap N6];rfl
   have x1:W6.cell? ⟨xb,1,none⟩=some (.int .i64 nodes[k].tok):=by rw[Lib.cell_of_heap N6];rfl
   have x2:W6.cell? ⟨xb,2,none⟩=some (.slice rO nodes[k].kids.length rP):=by rw[Lib.cell_of_heap N6];rfl
   have hs6:=B6.size;clear hs5 N6
   by_cases zX:nodes[k].kind=19
   ·rw[if_pos zX] at hm
    rw[zX] at x0;have hol:=tC _ _ _ _ hm;simp only[bP,dX,List.length_nil] at hol;have HM:=ah hm;clear hm K6 x2;generalize nodes[k].tok=tk at x1 HM
    gi_wp2_with (gi_at_builtin;refine wpListIn_append_own_at _ rfl _ _ 51 rfl w.heap.size 3 i0 (.int .i64 0) 1 8 Tryz.underlying51 hi hz0 hz1 hz2 rfl (by decide) ze _ _ rfl (O6.alloc _) ⟨W6.heap.size,0,none⟩ 1 1 [.int .i64 tk] rfl rfl (cell_one_new _ _ _) (by simp[Value.oneCell']) (by unfold maxLen;omega) (by omega) (by simp;omega) ?_;intro v' w1 hown' hgrow _ adM;obtain⟨g',cap',rfl⟩:=ownsRow_succ hown')
    have Uo:gb≠W6.heap.size:=by
     rcases R6.2 with ⟨hv,_⟩|⟨gg,c9,cur,hv,_,hgg,_⟩
     ·cases hv
     ·simp only[Value.slice.injEq,Option.some.injEq,Addr.mk.injEq] at hv
      have:=(bG hgg).1;omega
    have hg':g'≠gb:=by
     rintro rfl
     rcases adM with q|q
     ·exact hout q.symm
     ·simp only[Value.ownBlock,World.size_alloc,Option.some.injEq] at q
      have:=(R6.lt g' rfl).2;omega
    have adN:∀ q,ze.ownBlock=some q→w.heap.size≤q:=fun q hq=>(O6.lt q hq).1
    refine⟨gk,by omega,rest,out++[tk],.slice (some ⟨gb,0,none⟩) rest.length cap,.slice (some ⟨g',0,none⟩) (out.length+1) cap',rs,HM.out,⟨?_,?_,⟨gb,cap,rfl,fun q=>hg' (Option.some.inj q)⟩,?_,?_,?_,hnd,by omega,?_⟩,?_⟩
    ·exact(T6.alloc (.cells #[.int .i64 tk] 3)).kept hgrow ((T6.alloc (.cells #[.int .i64 tk] 3)).not_row (by decide) (O6.alloc (.cells #[.int .i64 tk] 3)))
    ·have:=(R6.alloc (.cells #[.int .i64 tk] 3)).kept hgrow (.inr fun q=>hout q.symm)
     simpa using this
    ·simpa using hown'
    ·exact fU (O6.alloc _) hgrow ((Lib.alloc_old W6 (.cells #[.int .i64 tk] 3) w.heap.size (bG E6).1).trans E6) (by decide)
    ·exact(B6.alloc hs6 _).grown hgrow (by simp;omega) adN
    ·intro r hr
     refine⟨(M6 r hr).1,?_⟩;have hrl:=(bG (M6 r hr).2).1;rw[hgrow.block r (by simp;omega) (fun q=>?_)]
     ·exact(Lib.alloc_old W6 _ r hrl).trans (M6 r hr).2
     ·rcases O6.2 with ⟨hv,_⟩|⟨gg,c9,cur,hv,_,hgg,_⟩
      ·rw[hv] at q;cases q
      ·rw[hv] at q
       simp only[Value.ownBlock,Option.some.injEq] at q;subst q;rw[(M6 r hr).2] at hgg;cases hgg
    ·repeat apply Exists.intro
     rfl
   ·rw[if_neg zX] at hm
    by_cases hbig:549755813888<(nodes[k].kids++rest).length
    ·rw[if_pos hbig] at hm;cases hm
    rw[if_neg hbig] at hm;rw[bP] at hbig
    have hkd:(nodes[k].kind == 19)=false:=by simpa using zX
    have HM:=ah hm;have HB:=ah hbig;clear hm x1 zX hbig
    gi_wp2_with (refine⟨trivial,?_⟩;gi_at_call 302;refine(YJ Fence.wide _ trivial rfl _ _ _ _).mono ?_;rintro e w' ⟨rfl,rfl⟩)
    have aaX:W6.heap.size<(W6.alloc (.cells #[.slice rO nodes[k].kids.length rP] 51)).heap.size:=by simp
    have Bk:=Boxed.new W6 51 (.slice rO nodes[k].kids.length rP);have T7:=T6.alloc (.cells #[.slice rO nodes[k].kids.length rP] 51);have R7:=R6.alloc (.cells #[.slice rO nodes[k].kids.length rP] 51);have O7:=O6.alloc (.cells #[.slice rO nodes[k].kids.length rP] 51);have E7:=(Lib.alloc_old W6 (.cells #[.slice rO nodes[k].kids.length rP] 51) w.heap.size (bG E6).1).trans E6;have B7:=B6.alloc hs6 (.cells #[.slice rO nodes[k].kids.length rP] 51);have K7:=K6.below ((Below.refl w.heap.size W6).alloc hs6 (.cells #[.slice rO nodes[k].kids.length rP] 51))
    have M7:∀ r∈rs,w.heap.size≤r∧(W6.alloc (.cells #[.slice rO nodes[k].kids.length rP] 51)).heap[r]?=some (.deferred (some [])):=fun r hr=>⟨(M6 r hr).1,(Lib.alloc_old W6 _ r (bG (M6 r hr).2).1).trans (M6 r hr).2⟩
    have adO:=T6.lt;clear T6 R6 O6 E6 B6 K6 M6 x0 x2;generalize W6.heap.size=bs at Bk aaX hs6 adO ⊢;generalize W6.alloc _=W7 at Bk T7 R7 O7 E7 B7 K7 M7 aaX ⊢;generalize nodes[k].kids=ks at Bk HM HB K7 ⊢;have hgb:w.heap.size≤gb∧gb<W7.heap.size:=R7.lt gb rfl
    have aeY:bs≠gb:=by
     have:=Bk.not_row (e:=3) (by decide) R7;rintro rfl;exact this rfl
    refine wpIn_rangeFunc_ownG rfl (by decide) (gf:=312) (lb:=#[.pointer (some ⟨bs,0,none⟩)]) rfl trivial (enters_of Tryz.func312 (by kernel_rfl) rfl)
     (Nr Fence.wide 7 trivial rfl (by decide) bs w.heap.size _ ks (by have:=HB.out;omega) W7 aaX (by omega) Bk.cell K7) (fun {_ _ _} h1 h2=>og.trans h1 h2) ?kb (Below.refl _ _) (fun _=>rfl)
     (fun pre W=>acn w.heap.size (w.heap.size+1+1) gb rest.length cap rest.reverse W7 pre W∧(aQ (fun q=>q≠w.heap.size+1+1∧q≠gb) W7 W∧Below w.heap.size w W))
     (fun _ _ _=>False)
     (OwnFrom.and (Own.from (holdsRow_own w.heap.size (w.heap.size+1+1) 51 3 1 (fun pre:List (Int × Int)=>rest.length+pre.length) (fun pre=>(rest.reverse++pre.map Prod.snd).map (Value.int .i64)) (fun pre v=>∃ gg cp,v=.slice (some ⟨gg,0,none⟩) (rest.length+pre.length) cp∧(gg=gb∨W7.heap.size≤gg))) _) (OwnFrom.and (Ku (Nat.le_refl _)) (ownFrom_below (Nat.le_refl _) (by omega))))
     (fun _ _ _ _ _ hs _ _=>hs)
     ⟨⟨_,T7,by simpa using R7,gb,cap,rfl,.inl rfl⟩,aQ.refl _ _,B7⟩
     ?a1 ?assign ?body ?done ?stop
    case kb =>
     intro W lq o o' hl ho hc hw
     have hbl:bs<lq:=by omega
     exact⟨belowK_b (w:=W7) (by omega) W lq o o' hl ho hc hw,World.cell?_of_block (a:=⟨bs,0,none⟩) (World.putObj_heap_other (Nat.ne_of_lt hbl))⟩
    case assign =>
     intro l x W K hK
     gi_wp2
     exact hK
    case body =>
     rintro lp pre x W ⟨⟨v,hbx,hrow,gg,cp,rfl,hgg⟩,dW,hBW⟩ hlt;have hc:=hbx.cell;have hWs:=hBW.size;have hB2:=HB.out
     gi_wp2_with (gi_at_builtin;refine wpListIn_append_own_at _ rfl _ _ 51 rfl w.heap.size 3 i0 (.int .i64 0) 1 8 Tryz.underlying51 hi hz0 hz1 hz2 rfl (by decide) (.slice (some ⟨gg,0,none⟩) (rest.length+pre.length) cp) _ _ rfl (hrow.alloc _) ⟨W.heap.size,0,none⟩ 1 1 [.int .i64 x.2] rfl rfl (cell_one_new _ _ _) (by simp[Value.oneCell']) (by unfold maxLen;omega) (by omega) (by simp;omega) ?_;intro v' w1 hown' hgrow _ adP;obtain⟨g',cap',rfl⟩:=ownsRow_succ hown';obtain⟨hv1,hv2,hr2,hk2,hb2⟩:=hbx.appended (by decide) hrow hWs (by omega) hown' hgrow;have hc1:=hv1.cell;have hf1:=hv1.frozen)
     have hfr:∀ q,q<W.heap.size→q≠w.heap.size+1+1→q≠gg→(w1.setCell ⟨w.heap.size+1+1,0,none⟩ (.slice (some ⟨g',0,none⟩) (rest.length+pre.length+1) cap')).heap[q]?=W.heap[q]?:=fun q h1 h2 h3 =>
      (heap_setCell_other _ _ _ _ h2).trans ((hgrow.block q (by simp;omega) (fun e=>h3 (Option.some.inj e))).trans (Lib.alloc_old W _ q h1))
     have ab0:=dW.1;refine⟨hk2.from _,⟨hb2,World.cell?_of_block (a:=⟨bs,0,none⟩) (hfr bs (by omega) (by omega) (by omega))⟩,⟨_,hv2,?_,g',cap',?_,?_⟩,⟨Nat.le_trans dW.1 hk2.size,fun q hq hl=>(hfr q (by omega) hq.1 (by omega)).trans (dW.2 q hq hl)⟩,hBW.trans hb2⟩
     ·simpa [Nat.add_assoc] using hr2
     ·simp[Nat.add_assoc]
     ·simp only[Value.ownBlock,World.size_alloc,Option.some.injEq] at adP
      omega
    case done =>
     rintro D ys W hD rfl ⟨⟨v,hbx,hrow,gg,cp,rfl,hgg⟩,dW,hBW⟩ hK;rw[uJ,Rn _ _ (Nat.le_refl _),List.take_of_length_le (by simp)] at hrow;rw[uJ] at hbx;have hB2:=HB.out
     have acp:w.heap.size≠gb:=fun q=>by
      have:=own_ne R7 E7 (by decide);exact this (by rw[q];rfl)
     gi_wp2
     refine⟨gk,by omega,ks++rest,out,.slice (some ⟨gg,0,none⟩) (rest.length+ks.length) cp,ze,D :: rs,HM.out,⟨hbx,?_,⟨gg,cp,?_,?_⟩,?_,?_,hBW,?_,by simp;omega,?_⟩,?_⟩
     ·rw[List.reverse_append,bP,Nat.add_comm ks.length]
      exact hrow
     ·rw[bP,Nat.add_comm ks.length]
     ·intro q
      rcases hgg with rfl|hgg
      ·exact hout q
      ·have:=(O7.lt gg q).2
       omega
     ·refine Vg O7 fun q hq=>dW.2 q ⟨?_,?_⟩ (O7.lt q hq).2
      ·rintro rfl
       exact T7.not_row (by decide) O7 hq.symm
      ·rintro rfl
       exact hout hq
     ·exact(dW.2 w.heap.size ⟨by omega,acp⟩ (bG E7).1).trans E7
     ·rw[List.nodup_cons]
      refine⟨fun q=>?_,hnd⟩;have:=(bG (M7 D q).2).1;omega
     ·intro r hr
      rcases List.mem_cons.1 hr with rfl|hr
      ·exact⟨by omega,hK⟩
      ·refine⟨(M7 r hr).1,(dW.2 r ⟨?_,?_⟩ (bG (M7 r hr).2).1).trans (M7 r hr).2⟩
       ·rintro rfl
        have:=(M7 _ hr).2;rw[show W7.heap[w.heap.size+1+1]?=_ from T7] at this;cases this
       ·rintro rfl
        rcases R7.2 with ⟨hv,_⟩|⟨g9,c9,cur,hv,_,acr,_⟩
        ·cases hv
        ·simp only[Value.slice.injEq,Option.some.injEq,Addr.mk.injEq] at hv
         obtain⟨⟨rfl,-,-⟩,-,-⟩:=hv;rw[(M7 _ hr).2] at acr;cases acr
     ·repeat apply Exists.intro
      rfl
    case stop =>
     rintro D c pre W _ _ h _;exact h.elim
end Go.Proofs.YtknicmmigbhpcaaGreatDoor

namespace Go.Proofs.YtknicmmigbhpcaaGreatDoor
open Go.RowKit Go
def iE (w:World)(kb:Nat)(kid:List Bool):Prop:=w.heap[kb]?=some (.cells (kid.map Value.bool).toArray 4 (0,0))
theorem iE.cell {w:World}{kb:Nat}{kid:List Bool}(h:iE w kb kid){j:Nat}(hj:j<kid.length):w.cell? ⟨kb,j,none⟩=some (.bool kid[j]):=by
 rw[Lib.cell_of_heap h];simp[hj]
theorem iE.free {w:World}{kb:Nat}{kid:List Bool}(h:iE w kb kid)(j:Nat):w.frozen? ⟨kb,j,none⟩=false:=by simp[World.frozen?,show w.heap[kb]?=_ from h]
theorem iE.set {w:World}{kb:Nat}{kid:List Bool}(h:iE w kb kid)(j:Nat)(b:Bool):iE (w.setCell ⟨kb,j,none⟩ (.bool b)) kb (kid.set j b):=by
 have:=heap_setCell_same w kb j _ _ (.bool b) h;rw[iE,this];simp[List.map_set]
theorem Ez (kb m cap:Nat)(kid:List Bool)(p:Bool)(w:World)(h:iE w kb kid)(hm:m≤kid.length)(hn:kid.length≤1099511627776)(hp:p=(kid.take m).contains false) :
  Calls Tryz.prog 301 #[.slice (some ⟨kb,0,none⟩) m cap,.bool false] w (abW p w):=by
 have HM:=ah (fun (j:Nat) (hj:j<kid.length)=>h.cell hj);have HP:=ah hp;clear h hp;go_enter Tryz.func301,Tryz.ntmps301;go_wp2
 go_loop [8] (fun q=>∃ k:Nat,k≤m∧q=.int .i64 k∧∀ j,(hj:j<kid.length)→j<k→kid[j]=true) (fun q=>m - (intOf q).toNat)
 case atStart=>exact⟨0,Nat.zero_le _,rfl,fun j _ h=>absurd h (by omega)⟩
 case round =>
  obtain⟨k,hk,rfl,hj⟩:=hrel
  by_cases hlt:k<m
  ·have hx:=HM.out k (by omega)
   have hI:(k:Int)<(m:Int):=by omega
   cases hv:kid[k] with
   | false =>
    rw[hv] at hx
    have hc:(kid.take m).contains false=true:=by
     rw[List.contains_iff_mem,← hv];exact List.mem_take_iff_getElem.2 ⟨k,by omega,rfl⟩
    have HC:=ah hc;clear hj hv hc;go_wp2;go_ret;exact⟨⟨k,rfl,⟨fun _=>HP.out.trans HC.out,fun _=>by omega⟩,by omega⟩,rfl⟩
   | true =>
    rw[hv] at hx
    have HJ:Hid (∀ j,(hj:j<kid.length)→j<k+1→kid[j]=true):=ah (fun j hjl hjk=>by
     by_cases hkj:j=k
     ·subst hkj;exact hv
     ·exact hj j hjl (by omega))
    clear hj hv;go_wp2
    go_round
    case rel=>exact⟨k+1,by omega,by go_num,HJ.out⟩
    case measure=>simp[intOf];omega
  ·obtain rfl:k=m:=by omega
   have hc:(kid.take k).contains false=false:=by
    rw[← Bool.not_eq_true,List.contains_iff_mem];intro q;obtain⟨j,hj1,hj2⟩:=List.mem_take_iff_getElem.1 q;rw[hj j (by omega) (by omega)] at hj2;cases hj2
   have HC:=ah hc;have hI:decide ((k:Int)<(k:Int))=false:=decide_eq_false (by omega);clear hj hc;go_wp2;go_ret;exact⟨⟨-1,rfl,⟨fun h=>by omega,fun h=>by rw[HP.out,HC.out] at h;cases h⟩,by omega⟩,rfl⟩
theorem qB (kb m cap:Nat)(kid:List Bool)(w:World)(h:iE w kb kid)(hm:m≤kid.length)(hn:kid.length≤1099511627776) :
  Calls Tryz.prog 280 #[.slice (some ⟨kb,0,none⟩) m cap,.bool false] w fun e w'=>e=.returned (.bool ((kid.take m).contains false))∧w'=w:=by
 have H:=ah (Ez kb m cap kid _ w h hm hn rfl);clear h;go_enter Tryz.func280,Tryz.ntmps280;go_wp2_with (go_at_call 301;refine H.out.mono ?_);rintro e w1 ⟨⟨r,rfl,hr,_⟩,rfl⟩
 have hq:((kid.take m).contains false)=decide (0≤r):=by
  by_cases h:0≤r
  ·rw[decide_eq_true h];exact hr.1 h
  ·rw[decide_eq_false h,← Bool.not_eq_true];exact fun q=>h (hr.2 q)
 have HQ:=ah hq;clear hq hr;go_wp2;go_ret;exact⟨aX HQ.out.symm,rfl⟩
theorem Tryz.Vi:(Tryz.prog.info? 4).map (fun i=>(i.zero,i.size,i.bytes))=some (some (.bool false),1,1):=by kernel_rfl
theorem CO (n:Nat):(madeCells (Value.bool false).cells (n * 1))=((List.replicate n false).map Value.bool).toArray:=by
 apply Array.toList_inj.1
 have:=toList_madeCells_one (.bool false) n;rw[Nat.mul_one];show (madeCells #[Value.bool false] n).toList=_;rw[this]
 simp
theorem Ro (B:Nat)(tv nv:Value)(toks:List Tok)(nodes:List Nd)(l:List Int)(g:Nat)(w:World)(h:aP B w (.agg #[tv,nv]) toks nodes)(hB:B≤w.heap.size)(hn:nodes.length≤1000000)(hkl:∀ n∈nodes,n.kids.length≤1000000)
  (hlv:∀ kid,p9 toks.length nodes=some kid→kid.length≠0→(kid.take (nodes.length - 1)).contains false=false→eG nodes g [((nodes.length:Nat):Int) - 1] []=some l) (hll:l.length≤549755813888) (afh:toks.length≤1099511627776) :
  Calls Tryz.prog 237 #[.agg #[tv,nv]] w fun e w'=>e=.returned (.bool (kL toks.length nodes l))∧Below w.heap.size w w':=by
 obtain⟨i0,hi,hz0,hz1,hz2⟩:=info_parts Tryz.Vi;obtain⟨at_,ct,an,cn,hv⟩:=h.slices;simp only[Value.agg.injEq,Array.mk.injEq,List.cons.injEq,and_true] at hv;obtain⟨rfl,rfl⟩:=hv;have hmk:=run_make (P:=Tryz.prog) (w.alloc (.cells #[.slice at_ toks.length ct,.slice an nodes.length cn] 89)) 330 4 i0 (.bool false) Tryz.underlying330 hi hz0 .i64 .i64 nodes.length nodes.length (by omega) (by omega) (by rw[hz2];omega) (by omega);rw[hz1,Int.toNat_natCast,CO] at hmk;have HT:=ah h;have HLV:=ah hlv;have XF:=ah hkl;clear h hlv hkl;go_enter Tryz.func237,Tryz.ntmps237;go_wp2;have T2:=(Lib.alloc_old (w.alloc (.cells #[.slice at_ toks.length ct,.slice an nodes.length cn] 89)) (.cells (Array.replicate nodes.length (Value.bool false)) 4) w.heap.size (by simp)).trans (heap_alloc_new w (.cells #[.slice at_ toks.length ct,.slice an nodes.length cn] 89))
 have G2:iE ((w.alloc (.cells #[.slice at_ toks.length ct,.slice an nodes.length cn] 89)).alloc (.cells (Array.replicate nodes.length (Value.bool false)) 4)) (w.heap.size+1) (List.replicate nodes.length false):=by
  have:=heap_alloc_new (w.alloc (.cells #[.slice at_ toks.length ct,.slice an nodes.length cn] 89)) (.cells (Array.replicate nodes.length (Value.bool false)) 4);rw[World.size_alloc] at this;rw[iE,this]
  simp
 have hb2:Below w.heap.size w ((w.alloc (.cells #[.slice at_ toks.length ct,.slice an nodes.length cn] 89)).alloc (.cells (Array.replicate nodes.length (Value.bool false)) 4)):=((Below.refl _ w).alloc (Nat.le_refl _) _).alloc (by simp) _;clear hmk;generalize (w.alloc _).alloc _=W2 at T2 G2 hb2 ⊢
 go_loopw [18] (fun q wr=>∃ (i:Nat) (kid:List Bool),i≤nodes.length∧q=.int .i64 i∧kid.length=nodes.length∧lK toks.length i (nodes.drop i) kid=p9 toks.length nodes∧iE wr (w.heap.size+1) kid∧wr.heap[w.heap.size]?=some (.cells #[.slice at_ toks.length ct,.slice an nodes.length cn] 89 (0,0))∧Below w.heap.size w wr) (fun q _=>nodes.length - (intOf q).toNat)
 case atStart=>exact⟨0,List.replicate nodes.length false,Nat.zero_le _,rfl,by simp,rfl,G2,T2,hb2⟩
 case round =>
  obtain⟨i,kid,hi',rfl,hkl,hmk,hG,hT,hbl⟩:=hrel;have hz:=hbl.size
  have c0:wr.cell? ⟨w.heap.size,0,none⟩=some (.slice at_ toks.length ct):=by rw[Lib.cell_of_heap hT];rfl
  have c1:wr.cell? ⟨w.heap.size,1,none⟩=some (.slice an nodes.length cn):=by rw[Lib.cell_of_heap hT];rfl
  clear T2 G2 hb2
  by_cases hlt:i<nodes.length
  ·obtain⟨b,off,cap2,kv,Z5,ZY,hx0,hx1,hx2,hkv⟩:=HT.out.node hlt
   simp only[Value.slice.injEq] at Z5;obtain⟨rfl,-,rfl⟩:=Z5;have hdr:nodes.drop i=nodes[i] :: nodes.drop (i+1):=List.drop_eq_getElem_cons hlt;have hkn:=XF.out nodes[i] (List.getElem_mem hlt);rw[hdr,lK] at hmk;obtain⟨rO,rP,rfl,_,_⟩:=hkv.form;have x0:=(hbl.cell (p:=⟨b,off+i * 3,none⟩) (by show b<_;omega)).trans hx0;have x1:=(hbl.cell (p:=⟨b,off+i * 3+1,none⟩) (by show b<_;omega)).trans hx1;have x2:=(hbl.cell (p:=⟨b,off+i * 3+2,none⟩) (by show b<_;omega)).trans hx2;have K:=(hkv.mono hB).below hbl
   have hiI:(i:Int)<(nodes.length:Int):=by omega
   have HMK:=ah hmk;clear hmk hx0 hx1 hx2 hkv hdr;generalize hnd:nodes[i]=nd at x0 x1 x2 K hkn HMK;obtain⟨kind,tok,ks⟩:=nd;simp only at x0 x1 x2 K hkn;have N1:=heap_alloc_new wr (.cells #[.int .i64 kind,.int .i64 tok,.slice rO ks.length rP] 134);have hbn:=aj wr (.cells #[.int .i64 kind,.int .i64 tok,.slice rO ks.length rP] 134);have T1:=(hbn.block w.heap.size (bG hT).1).trans hT;have G1:iE (wr.alloc (.cells #[.int .i64 kind,.int .i64 tok,.slice rO ks.length rP] 134)) (w.heap.size+1) kid:=(hbn.block _ (bG hG).1).trans hG;have K1:=K.below (hbn.mono hz);have hb1:=hbl.trans (hbn.mono hz)
   go_upto_region 5 with (fail)
   clear c0 c1 x0 x1 x2 K hbn hT hG hbl;generalize wr.heap.size=xb at N1 hz ⊢;generalize wr.alloc _=W1 at N1 T1 G1 K1 hb1 ⊢;have hz1:=hb1.size
   have c0:W1.cell? ⟨w.heap.size,0,none⟩=some (.slice at_ toks.length ct):=by rw[Lib.cell_of_heap T1];rfl
   have c1:W1.cell? ⟨w.heap.size,1,none⟩=some (.slice (some ⟨b,off,none⟩) nodes.length cn):=by rw[Lib.cell_of_heap T1];rfl
   have y0:W1.cell? ⟨xb,0,none⟩=some (.int .i64 kind):=by rw[Lib.cell_of_heap N1];rfl
   have y1:W1.cell? ⟨xb,1,none⟩=some (.int .i64 tok):=by rw[Lib.cell_of_heap N1];rfl
   have y2:W1.cell? ⟨xb,2,none⟩=some (.slice rO ks.length rP):=by rw[Lib.cell_of_heap N1];rfl
   have HF:=ah (Mt at_ (some ⟨b,off,none⟩) toks.length ct nodes.length cn i w.heap.size ⟨kind,tok,ks⟩ (.slice rO ks.length rP) W1 K1 hz1 (by simp only;omega))
   by_cases hfm:iB toks.length i ⟨kind,tok,ks⟩=true
   ·have hq:=HMK.out
    rw[if_pos hfm] at hq;rw[hfm] at HF;have HQ:=ah hq;clear hq HMK;have hlx:=(bG N1).1;go_wp2_with (go_at_call 279;refine HF.out.mono ?_;rintro e w3 ⟨rfl,hb3⟩;have z2:w3.cell? ⟨xb,2,none⟩=some (.slice rO ks.length rP):=(hb3.cell (p:=⟨xb,2,none⟩) hlx).trans y2);have T3:=(hb3.block w.heap.size (bG T1).1).trans T1;have G3:iE w3 (w.heap.size+1) kid:=(hb3.block _ (bG G1).1).trans G1;have K3:=K1.below (hb3.mono hz1);have CP:=hb1.trans (hb3.mono hz1)
    have hfk:∀ k∈ks,0≤k∧k<(i:Int):=by
     unfold iB at hfm
     by_cases h1:kind<1∨19<kind
     ·rw[if_pos h1] at hfm;cases hfm
     rw[if_neg h1] at hfm
     by_cases h2:kind=19
     ·rw[if_pos h2] at hfm
      simp only[Bool.and_eq_true,decide_eq_true_eq] at hfm;have:=List.length_eq_zero_iff.1 hfm.1;subst this
      exact fun k hk=>by cases hk
     ·rw[if_neg h2,Bool.and_eq_true] at hfm
      have h3:=hfm.2;rw[Bool.not_eq_true',← Bool.not_eq_true,List.any_eq_true] at h3;intro k hk
      by_cases h4:0≤k∧k<(i:Int)
      ·exact h4
      ·exact absurd ⟨k,hk,by simp only[Bool.or_eq_true,decide_eq_true_eq];omega⟩ h3
    have HFK:=ah hfk;clear hb3 T1 G1 K1 hb1 hz1 c0 c1 y0 y1 y2 N1 HF hfm hfk;obtain⟨afi,afj,hvk,_,uT⟩:=K3.form;simp only[Value.slice.injEq] at hvk;obtain⟨rfl,-,rfl⟩:=hvk;have HKF:=ah uT;clear uT z2
    go_loopw [31] (fun q wi=>∃ (j:Nat) (Rp:List Bool),j≤ks.length∧q=.int .i64 j∧Rp.length=nodes.length∧(wO Rp (ks.drop j)).bind (lK toks.length (i+1) (nodes.drop (i+1)))=p9 toks.length nodes∧iE wi (w.heap.size+1) Rp∧(∀ q,q≠w.heap.size+1→wi.heap[q]?=w3.heap[q]?)∧Below w.heap.size w wi) (fun q _=>ks.length - (intOf q).toNat)
    case atStart=>exact⟨0,kid,Nat.zero_le _,rfl,hkl,HQ.out,G3,fun _ _=>rfl,CP⟩
    case round =>
     obtain⟨j,Rp,hj,rfl,hkl',hq,hG,hoth,hbl⟩:=hrel
     by_cases hjl:j<ks.length
     ·obtain⟨bk,YM,rfl,hbk,hcell⟩:=HKF.out (by omega)
      have hx:wr.cell? ⟨bk,YM+j,none⟩=some (.int .i64 ks[j]):=(World.cell?_of_block (a:=⟨bk,YM+j,none⟩) (hoth bk (by omega))).trans (hcell j hjl);have hdr:ks.drop j=ks[j] :: ks.drop (j+1):=List.drop_eq_getElem_cons hjl;have hkr:=HFK.out ks[j] (List.getElem_mem hjl);rw[hdr,wO] at hq;generalize ks[j]=k at hx hkr hq
      obtain⟨k,rfl⟩:∃ kk:Nat,k=(kk:Int):=⟨k.toNat,by omega⟩
      rw[Int.toNat_natCast,List.getD_eq_getElem?_getD,List.getElem?_eq_getElem (by omega),Option.getD_some] at hq;have hm:=hG.cell (j:=k) (by omega)
      have JC:(j:Int)<(ks.length:Int):=by omega
      have nJ:(k:Int)<(nodes.length:Int):=by omega
      clear hcell hdr
      cases hv:Rp[k]'(by omega) with
      | true =>
       rw[hv] at hm hq;rw[if_pos rfl,Option.bind_none] at hq;have Pq:Hid (kL toks.length nodes l=false):=ah (by rw[kL,← hq]);clear hq hv;go_wp2;go_ret;exact⟨aX Pq.out.symm,hbl⟩
      | false =>
       rw[hv] at hm hq;rw[if_neg (by decide)] at hq;have hset:=hG.set k true;have hfz:=hG.free k;have L8:=ah hq
       have acs:∀ q,q≠w.heap.size+1→(wr.setCell ⟨w.heap.size+1,k,none⟩ (.bool true)).heap[q]?=w3.heap[q]?:=fun q hqn=>(heap_setCell_other _ _ _ _ hqn).trans (hoth q hqn)
       clear hq hv;go_wp2
       go_roundw
       case rel=>exact⟨j+1,_,by omega,by go_num,by rw[List.length_set];exact hkl',L8.out,hset,acs,hbl.setCell (by show w.heap.size≤w.heap.size+1;omega) _⟩
       case measure=>simp[intOf];omega
     ·obtain rfl:j=ks.length:=by omega
      rw[List.drop_length,wO,Option.bind_some] at hq;have hTi:=(hoth w.heap.size (by omega)).trans T3;have L8:=ah hq;have JC:decide ((ks.length:Int)<(ks.length:Int))=false:=decide_eq_false (by omega);clear hq;go_wp2;exact⟨⟨i+1,Rp,by omega,by go_num,hkl',L8.out,hG,hTi,hbl⟩,by simp[intOf];omega⟩
   ·have hq:=HMK.out
    rw[if_neg hfm] at hq;have Pq:Hid (kL toks.length nodes l=false):=ah (by rw[kL,← hq]);rw[Bool.not_eq_true] at hfm;rw[hfm] at HF;clear hq HMK;go_wp2_with (go_at_call 279;refine HF.out.mono ?_;rintro e w3 ⟨rfl,hb3⟩);go_ret;exact⟨aX Pq.out.symm,hb1.trans (hb3.mono hz1)⟩
  ·obtain rfl:i=nodes.length:=by omega
   rw[List.drop_length,lK] at hmk;have Vj:decide ((nodes.length:Int)<(nodes.length:Int))=false:=decide_eq_false (by omega)
   by_cases h0:nodes.length=0
   ·have Pq:Hid (kL toks.length nodes l=false):=ah (by rw[kL,← hmk];simp only[hkl,h0];rfl)
    have h0I:((nodes.length:Int) == 0)=true:=by simp[h0]
    clear hmk hG;go_wp2;go_ret;exact⟨aX Pq.out.symm,hbl⟩
   ·have h0I:((nodes.length:Int) == 0)=false:=by simp[h0]
    have hR:=fun (W:World)=>Jv (.slice at_ toks.length ct) an nodes.length cn W (by omega)
    have HR:=ah hR;have HG:=ah hG;clear hR
    obtain⟨p,hp⟩:∃ p,p=(kid.take (nodes.length - 1)).contains false:=⟨_,rfl⟩
    have HP:=ah hp
    have Vk:((nodes.length:Int) - 1)=((nodes.length - 1:Nat):Int):=by omega
    clear hp hG
    cases p with
    | true =>
     have Pq:Hid (kL toks.length nodes l=false):=ah (by rw[kL,← hmk];simp only;rw[← HP.out];simp);clear hmk;go_wp2_with (first|(go_at_call 66;refine(HR.out _).mono ?_;rintro e w3 ⟨rfl,hb3⟩;rw[Vk])|(go_at_call 280;refine(qB (w.heap.size+1) (nodes.length - 1) nodes.length kid _ ((hb3.block _ (bG HG.out).1).trans HG.out) (by omega) (by omega)).mono ?_;rintro e w4 ⟨rfl,rfl⟩;rw[← HP.out]));go_ret;exact⟨aX Pq.out.symm,hbl.trans (hb3.mono hz)⟩
    | false =>
     have hlq:=HLV.out kid hmk.symm (by omega) HP.out.symm
     have Pq:Hid (kL toks.length nodes l=(mh 0 l && decide (l.length=toks.length))):=ah (by
      rw[kL,← hmk];simp only;rw[← HP.out,decide_eq_false (by omega:¬ kid.length=0)]
      simp)
     have HL:=ah (fun (W:World) (hW:Below w.heap.size w W)=>Ns w.heap.size (.slice at_ toks.length ct) (.slice an nodes.length cn) toks nodes (((nodes.length:Nat):Int) - 1) l g W ((HT.out.mono hB).below hW) hW.size (by omega) hlq hll);rw[Vk] at HL;clear hmk hlq;go_wp2_with (first|(go_at_call 66;refine(HR.out _).mono ?_;rintro e w3 ⟨rfl,hb3⟩;rw[Vk])|(go_at_call 280;refine(qB (w.heap.size+1) (nodes.length - 1) nodes.length kid _ ((hb3.block _ (bG HG.out).1).trans HG.out) (by omega) (by omega)).mono ?_;rintro e w4 ⟨rfl,rfl⟩;rw[← HP.out]));have hb4:=hbl.trans (hb3.mono hz);have T4:=(hb3.block w.heap.size (bG hT).1).trans hT;clear hb3 hbl hT c0 c1 HG HP hkl hz;have Kv:=hb4.size
     have c0:w4.cell? ⟨w.heap.size,0,none⟩=some (.slice at_ toks.length ct):=by rw[Lib.cell_of_heap T4];rfl
     have c1:w4.cell? ⟨w.heap.size,1,none⟩=some (.slice an nodes.length cn):=by rw[Lib.cell_of_heap T4];rfl
     go_cut [8] (fun v wx=>∃ ao cap,v=.slice ao l.length cap∧Ints wx.heap.size wx (.slice ao l.length cap) l∧wx.heap[w.heap.size]?=some (.cells #[.slice at_ toks.length ct,.slice an nodes.length cn] 89 (0,0))∧Below w.heap.size w wx)
     case first =>
      have acu:=(bG T4).1
      go_region_with (first|(go_at_call 66;refine(HR.out _).mono ?_;rintro e w5 ⟨rfl,hb5⟩;rw[Vk];have d0:=(hb5.cell (p:=⟨w.heap.size,0,none⟩) acu).trans c0;have d1:=(hb5.cell (p:=⟨w.heap.size,1,none⟩) acu).trans c1)|(go_at_call 281;refine(HL.out _ (hb4.drew.trans (hb5.mono Kv))).mono ?_;rintro e w6 ⟨v6,rfl,hv6,hb6⟩;obtain⟨al,cl,rfl,_,_⟩:=hv6.form))
      all_goals
       have Kw:=(hb4.drew.trans (hb5.mono Kv))
       have T6:=(hb6.block w.heap.size (Nat.lt_of_lt_of_le (bG T4).1 hb5.size)).trans ((hb5.block w.heap.size (bG T4).1).trans T4);clear c0 c1 d0 d1 T4;go_wp2_with fail
       go_meet
       exact⟨al,cl,rfl,hv6,T6,Kw.trans (hb6.mono Kw.size)⟩
     case rest =>
      obtain⟨al,cl,rfl,hv,hT,hbc⟩:=hcut;clear hb4 T4 c0 c1 HR HT HLV XF
      obtain⟨wo,rfl⟩:∃ wo:World,wo=wc:=⟨_,rfl⟩
      have c0:wo.cell? ⟨w.heap.size,0,none⟩=some (.slice at_ toks.length ct):=by rw[Lib.cell_of_heap hT];rfl
      obtain⟨ao,cp,hvv,_,hvf⟩:=hv.form;simp only[Value.slice.injEq] at hvv;obtain⟨rfl,-,rfl⟩:=hvv;have HV:=ah hvf;clear hvf hv hT HL;go_wp2
      go_loopw [60] (fun q wr=>∃ j:Nat,j≤l.length∧q=.int .i64 j∧mh 0 l=mh j (l.drop j)∧wr=wo) (fun q _=>l.length - (intOf q).toNat)
      case atStart=>exact⟨0,Nat.zero_le _,rfl,rfl,rfl⟩
      case round =>
       obtain⟨j,hj,rfl,hcn,hwr⟩:=hrel;subst hwr
       by_cases hjl:j<l.length
       ·obtain⟨b,off,rfl,hb,hc⟩:=HV.out (by omega)
        have hx:=hc j hjl;rw[List.drop_eq_getElem_cons hjl,mh] at hcn
        have JC:(j:Int)<(l.length:Int):=by omega
        generalize l[j]=x at hx hcn;clear hc
        by_cases hxe:(j:Int)=x
        ·subst hxe
         rw[decide_eq_true rfl,Bool.true_and] at hcn;have HC:=ah hcn;clear hcn;go_wp2;exact⟨⟨j+1,by omega,by go_num,HC.out,(by first|trivial|rfl)⟩,by simp[intOf];omega⟩
        ·rw[decide_eq_false hxe,Bool.false_and] at hcn
         have HC:=ah hcn
         have hne:((j:Int) == x)=false:=by simp[hxe]
         clear hcn;go_wp2;go_ret;exact⟨aX (by rw[Pq.out,HC.out];rfl),hbc⟩
       ·obtain rfl:j=l.length:=by omega
        have JC:decide ((l.length:Int)<(l.length:Int))=false:=decide_eq_false (by omega);rw[List.drop_length,mh] at hcn;have HC:=ah hcn;clear hcn;go_wp2;go_ret;refine⟨aX ?_,hbc⟩;rw[Pq.out,HC.out,Bool.true_and];exact decide_eq_decide.2 (by omega)
end Go.Proofs.YtknicmmigbhpcaaGreatDoor
