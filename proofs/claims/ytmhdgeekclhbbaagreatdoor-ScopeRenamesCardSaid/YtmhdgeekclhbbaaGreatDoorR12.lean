/- Walks and plain laws: LeavesW2, TreeW2, TdumpW, ShowE, ShowF, ShowG. -/
import Derived.Maps.OwnIn
import Derived.Sort.CutIn
import Derived.Test.YtmhdgeekclhbbaaGreatDoorR11
import Derived.Deep.CutBlock
set_option maxHeartbeats 16000000
set_option maxRecDepth 100000
set_option linter.unusedVariables false
set_option linter.unusedSimpArgs false
namespace Go.Proofs.YtmhdgeekclhbbaaGreatDoor
open Go.RowKit Go.Shelf
attribute [local go_sem] Oper.semAt_some
def adg (l:List Int)(w:World)(e:Ending)(w':World):Prop:=∃ v,e=.returned v∧Ints w'.heap.size w' v l∧Below w.heap.size w w'
theorem wC {aj:List Nd}:∀ (g:Nat) (st out l:List Int),fQ aj g st out=some l→out.length≤l.length
 | 0,st,out,l,h=>by rw[fQ] at h;cases h
 | g+1,[],out,l,h=>by rw[fQ] at h;injection h with h;subst h;exact bD _
 | g+1,i :: rest,out,l,h=>by
  rw[fQ] at h
  split at h
  ·cases h
  ·split at h
   ·cases h
   ·split at h
    ·have:=wC g _ _ _ h
     simp only[bN,dR,gX] at this;omega
    ·split at h
     ·cases h
     ·exact wC g _ _ _ h
def YH (r:Nat):Deferred:={ target:=.collected r,args:=#[] }
def shutAll:World→List Nat→World
 | w,[]=>w
 | w,r :: rs=>shutAll (w.putObj r (.deferred none)) rs
theorem xR {B:Nat}{w0:World}:∀ (rs:List Nat) (w:World),(∀ r∈rs,B≤r)→B≤w.heap.size→Below B w0 w→Below B w0 (shutAll w rs)
 | [],w,_,_,hb=>hb
 | r :: rs,w,h,hB,hb=>by
  rw[shutAll];refine xR rs _ (fun x hx=>h x (wM _ hx)) (by simpa using hB) (hb.grown (grownBy_putObj' w r (.deferred none)) hB (fun k e=>?_));cases e;exact h r vB
theorem Cu {F:Fence}{n:Nat}{P:Program}{fn:Func}{tmps:Array Value}{R:Ending→World→Prop}:∀ (rs:List Nat) (w:World),rs.Nodup→(∀ r∈rs,w.heap[r]?=some (.deferred (some []))) →
  LeavesIn F n P fn tmps R [] .returning (shutAll w rs)→LeavesInM F n P fn tmps R (rs.map YH) .returning w
 | [],w,_,_,h=>h
 | r :: rs,w,hnd,hm,h=>by
  rw[List.nodup_cons] at hnd;refine⟨by simp,.inl ⟨r,_,rfl,run_takeDeferred (hm r vB),Cu rs _ hnd.2 (fun x hx=>?_) h⟩⟩;rw[World.putObj_heap_other (fun q=>hnd.1 (by rw[← q];exact hx))];exact hm x (wM _ hx)
theorem Og {B e sz n:Nat}{v:Value}{xs:List Value}:∀ (rs:List Nat) (w:World),rs.Nodup→(∀ r∈rs,w.heap[r]?=some (.deferred (some [])))→w.ownsRow B e sz v n xs→(shutAll w rs).ownsRow B e sz v n xs
 | [],w,_,_,h=>h
 | r :: rs,w,hnd,hm,h=>by
  rw[List.nodup_cons] at hnd;refine Og rs _ hnd.2 (fun x hx=>?_) (ownsRow_putObj h _ (hm r vB) rfl);rw[World.putObj_heap_other (fun q=>hnd.1 (by rw[← q];exact hx))];exact hm x (wM _ hx)
theorem abH {w:World}{B e m cap:Nat}{ao:Option Addr}{xs:List Value}{x:Value}(h:w.ownsRow B e 1 (.slice ao (m+1) cap) (m+1) (xs++[x])):w.ownsRow B e 1 (.slice ao m cap) m xs:=by
 obtain⟨hl,h⟩:=h
 rcases h with ⟨_,h0⟩|⟨g,c,cur,hv,hg,hh,hn,hm,hs,hx⟩
 ·omega
 ·simp only[Value.slice.injEq] at hv
  obtain⟨rfl,-,rfl⟩:=hv
  have hlx:xs.length=m * 1:=by simp at hl;omega
  refine⟨hlx,.inr ⟨g,cap,cur,rfl,hg,hh,by omega,hm,hs,?_⟩⟩;have h2:=congrArg (List.take (m * 1)) hx;rw[List.take_take,Nat.min_eq_left (by omega),List.take_left' hlx] at h2;exact h2
theorem YI {w w':World}{B e sz n:Nat}{v:Value}{xs:List Value}(h:w.ownsRow B e sz v n xs)(hs:∀ q,v.ownBlock=some q→w'.heap[q]?=w.heap[q]?):w'.ownsRow B e sz v n xs:=by
 refine⟨h.1,?_⟩
 rcases h.2 with hn|⟨g,cap,cur,hv,hg,hh,hr⟩
 ·exact .inl hn
 ·exact .inr ⟨g,cap,cur,hv,hg,(hs g (by rw[hv];rfl)).trans hh,hr⟩
theorem abI {w:World}{B e n cap:Nat}{ao:Option Addr}{xs:List Value}(h:w.ownsRow B e 1 (.slice ao n cap) n xs):n≤cap:=by
 rcases h.2 with ⟨hv,h0⟩|⟨g,c,cur,hv,hg,hh,hn,_⟩
 ·omega
 ·simp only[Value.slice.injEq] at hv
  omega
theorem YJ {w:World}{B e n cap:Nat}{g off:Nat}{xs:List Value}(h:w.ownsRow B e 1 (.slice (some ⟨g,off,none⟩) n cap) n xs){j:Nat}{u:Value}(hj:xs[j]?=some u):w.cell? ⟨g,off+j,none⟩=some u:=by
 obtain⟨ao,c,hv,_,hl,hc⟩:=Sl.fZ h;obtain⟨h1,h2⟩:=pJ hj;obtain⟨b,o,ha,_,hcell⟩:=hc (by omega);simp only[Value.slice.injEq] at hv;rw[ha] at hv;obtain⟨hv,_⟩:=hv;simp only[Option.some.injEq,Addr.mk.injEq] at hv;obtain⟨rfl,rfl,_⟩:=hv;rw[hcell j h1,h2]
theorem Oh {β:Type}{P:Nat→Prop}{w₀:World}{B:Nat}(hB:w₀.heap.size≤B):OwnFrom B (fun (_:β) W=>aW P w₀ W):=fun _ _ _ _ hs hg hr =>
 ⟨jc hs.1 hg.size,fun b hb hl=>by
  rw[hg.block b (Nat.lt_of_lt_of_le hl hs.1) (fun e=>by have:=(hr b e.symm).1;omega)]
  exact hs.2 b hb hl⟩
structure af7 (B b0:Nat) (w:World) (tcs:Array Value) (st out:List Int) (ov Bn:Value) (rs:List Nat) (wr:World):Prop where
 box:Boxed wr (b0+1+1) 127 ov
 row:wr.ownsRow b0 3 1 ov st.length (st.reverse.map (Value.int .i64))
 form:∃ g cap,ov=.slice (some ⟨g,0,none⟩) st.length cap∧Bn.ownBlock≠some g
 out:wr.ownsRow b0 3 1 Bn out.length (out.map (Value.int .i64))
 tree:wr.heap[b0]?=some (.cells tcs 81 (0,0))
 below:Below b0 w wr
 nd:rs.Nodup
 few:st.length≤549755813888
 marks:∀ r∈rs,b0≤r∧wr.heap[r]?=some (.deferred (some []))
def aeG (at_ an:Option Addr)(ah:List Tok)(aj:List Nd)(ct cn:Nat)(n:Int)(b0:Nat)(Bn:Value)(rs:List Nat)(a:Act):Prop :=
 ∃ u7 u8 u10 u13 u14 u15 u16 u17 u18 u19 u20 u21 u22 u23 u24 u25 u26 u27 u28 u29 u30 u31 u32 u33 u34 u35 u36 u37 u38 u39 u40 u41 u42 u43 u44 u45 u46 u47 u48:Value,a={ tmps:=#[.agg #[.slice at_ ah.length ct,.slice an aj.length cn],.int .i64 n,.pointer (some ⟨b0,0,none⟩),undef,.slice none 0 0,Bn,.pointer (some ⟨b0+1+1,0,none⟩),u7,u8,undef,u10,.int .i64 n,.slice (some ⟨b0+1,0,none⟩) 1 1,u13,u14,u15,u16,u17,u18,u19,u20,u21,u22,u23,u24,u25,u26,u27,u28,u29,u30,u31,u32,u33,u34,u35,u36,u37,u38,u39,u40,u41,u42,u43,u44,u45,u46,u47,u48,undef],defers:=rs.map YH }
def af8 (at_ an:Option Addr)(ah:List Tok)(aj:List Nd)(ct cn:Nat)(n:Int)(l:List Int)(B:Nat)(w:World)(gk:Nat)(a:Act)(wr:World):Prop :=
 ∃ (st out:List Int) (ov Bn:Value) (rs:List Nat),fQ aj gk st out=some l∧af7 B w.heap.size w #[.slice at_ ah.length ct,.slice an aj.length cn] st out ov Bn rs wr∧aeG at_ an ah aj ct cn n w.heap.size Bn rs a
def aeH (b0 ob g m _cap:Nat)(xs:List Int)(W0:World)(pre:List (Int × Int))(W:World):Prop :=
 (∃ v,Boxed W ob 127 v∧W.ownsRow b0 3 1 v (m+pre.length) ((xs++pre.map Prod.snd).map (Value.int .i64))∧∃ gg cp,v=.slice (some ⟨gg,0,none⟩) (m+pre.length) cp∧(gg=g∨W0.heap.size≤gg))
theorem Rf (B:Nat)(tv nv:Value)(ah:List Tok)(aj:List Nd)(n:Int)(l:List Int)(g:Nat)(w:World)(h:aZ B w (.agg #[tv,nv]) ah aj)(hB:B≤w.heap.size)(_hn:aj.length≤1099511627776)(hl:fQ aj g [n] []=some l)(hlen:l.length≤549755813888) :
  Calls Tryz.prog 277 #[.agg #[tv,nv],.int .i64 n] w (adg l w):=by
 obtain⟨i0,hi,hz0,hz1,hz2⟩:=info_parts Tryz.nG;obtain⟨at_,ct,an,cn,hv⟩:=h.slices;simp only[Value.agg.injEq,Array.mk.injEq,List.cons.injEq,and_true] at hv;obtain⟨rfl,rfl⟩:=hv;have HT:=ay h;have HL:=ay hl;clear h hl;refine(callsIn_wide (n:=8)).1 ?_;refine callsIn_of_wp_marks Tryz.func277 rfl trivial ?_ rfl;simp only[Tryz.ntmps277,List.size_toArray,dR,gX,Nat.reduceAdd,Nat.reduceSub,Array.replicate_succ,Array.replicate_zero,List.push_toArray,List.append_toArray,qc,jN]
 gi_wp2
 refine wpIn_loop_ghost (fun gk a wr=>af8 at_ an ah aj ct cn n l B w gk a wr) g ?start ?round
 case start =>
  have e1:=aY w (.cells #[.slice at_ ah.length ct,.slice an aj.length cn] 81);have e2:=aY (w.alloc (.cells #[.slice at_ ah.length ct,.slice an aj.length cn] 81)) (.cells #[.int .i64 n] 3);have hb:Below w.heap.size w (((w.alloc (.cells #[.slice at_ ah.length ct,.slice an aj.length cn] 81)).alloc (.cells #[.int .i64 n] 3)).alloc (.cells #[.slice (some ⟨w.heap.size+1,0,none⟩) 1 1] 127)):=(((bI _ w).alloc (bD _) _).alloc (by simp) _).alloc (by simp;omega) _;refine⟨[n],[],.slice (some ⟨w.heap.size+1,0,none⟩) 1 1,.slice none 0 0,[],HL.out,⟨?_,?_,⟨_,_,rfl,by simp[Value.ownBlock]⟩,World.ownsRow_nil _ _ _ _,?_,hb,List.nodup_nil,by simp,fun r hr=>by cases hr⟩,?_⟩
  ·have:=aY ((w.alloc (.cells #[.slice at_ ah.length ct,.slice an aj.length cn] 81)).alloc (.cells #[.int .i64 n] 3)) (.cells #[.slice (some ⟨w.heap.size+1,0,none⟩) 1 1] 127)
   simp only[oP] at this;exact this
  ·simp only[oP] at e2
   exact⟨rfl,.inr ⟨_,1,#[.int .i64 n],rfl,by omega,(gY _ _ _ (by simp)).trans e2,bD _,by decide,rfl,rfl⟩⟩
  ·exact(gY _ _ _ (by simp;omega)).trans ((gY _ _ _ (by simp)).trans e1)
  ·repeat apply Exists.intro
   rfl
 case round =>
  rintro gk a wr ⟨st,out,ov,Bn,rs,hm,hI,hA⟩;obtain⟨u7,u8,u10,u13,u14,u15,u16,u17,u18,u19,u20,u21,u22,u23,u24,u25,u26,u27,u28,u29,u30,u31,u32,u33,u34,u35,u36,u37,u38,u39,u40,u41,u42,u43,u44,u45,u46,u47,u48,rfl⟩:=hA;dsimp only
  cases gk with
  | zero=>rw[fQ] at hm;cases hm
  | succ gk =>
  obtain⟨Hf,hrow,⟨gb,cap,rfl,hout⟩,hor,htr,hbl,hnd,Kq,hmk⟩:=hI;have hf0:=Hf.frozen
  cases st with
  | nil =>
   have hc0:wr.cell? ⟨w.heap.size+1+1,0,none⟩=some (.slice (some ⟨gb,0,none⟩) 0 cap):=Hf.cell;rw[fQ] at hm
   injection hm with hm
   subst hm;clear Hf hrow
   gi_wp2
   have hsz:=hbl.size;refine Cu rs wr hnd (fun r hr=>(hmk r hr).2) ⟨Bn,by simp[results,Tryz.results277,go_sem],Bn,rfl,Sl.fZ (Og rs wr hnd (fun r hr=>(hmk r hr).2) hor),xR rs wr (fun r hr=>(hmk r hr).1) hsz hbl⟩
  | cons i rest =>
   rw[fQ] at hm
   by_cases hi0:i<0
   ·rw[if_pos hi0] at hm;cases hm
   rw[if_neg hi0] at hm
   obtain⟨k,rfl⟩:∃ k:Nat,i=(k:Int):=⟨i.toNat,by omega⟩
   rw[Int.toNat_natCast] at hm
   by_cases hk':aj.length≤k
   ·rw[List.getElem?_eq_none (by omega)] at hm;cases hm
   have hk:k<aj.length:=by omega
   rw[yV hk] at hm;simp only at hm;obtain⟨b,off,cap2,kv,hnv,YD,hx0,hx1,hx2,hkv⟩:=HT.out.node hk;simp only[Value.slice.injEq] at hnv;obtain⟨rfl,-,rfl⟩:=hnv
   have aeI:rest.reverse.length=rest.length:=by simp
   have hrow':wr.ownsRow w.heap.size 3 1 (.slice (some ⟨gb,0,none⟩) (rest.length+1) cap) (rest.length+1) (rest.reverse.map (Value.int .i64)++[.int .i64 k]):=by
    have:=hrow;rw[List.reverse_cons,List.map_append] at this;exact this
   have adh:=abH hrow'
   have hxi:wr.cell? ⟨gb,rest.length,none⟩=some (.int .i64 k):=by
    have:=YJ hrow' (j:=rest.length) (u:=.int .i64 k) (by rw[List.getElem?_append_right (by simp)];simp);rw[Nat.zero_add] at this;exact this
   have hc0:wr.cell? ⟨w.heap.size+1+1,0,none⟩=some (.slice (some ⟨gb,0,none⟩) (rest.length+1) cap):=Hf.cell;have T:=Boxed.set (.slice (some ⟨gb,0,none⟩) rest.length cap) Hf;have hne0:some (w.heap.size+1+1)≠(Value.slice (some ⟨gb,0,none⟩) rest.length cap).ownBlock:=Hf.not_row (e:=3) (by decide) adh
   have pR:(k:Int)<(aj.length:Int):=by omega
   have hrl:rest.length≤549755813888:=by simp only[dR] at Kq;omega
   have hcap:=abI hrow';have hob:=Hf.lt;have R5:=iP (a:=⟨w.heap.size+1+1,0,none⟩) adh hne0 (.slice (some ⟨gb,0,none⟩) rest.length cap);have O5:=iP (a:=⟨w.heap.size+1+1,0,none⟩) hor (Hf.not_row (by decide) hor) (.slice (some ⟨gb,0,none⟩) rest.length cap);have E5:(wr.setCell ⟨w.heap.size+1+1,0,none⟩ (.slice (some ⟨gb,0,none⟩) rest.length cap)).heap[w.heap.size]?=_:=(heap_setCell_other _ _ _ _ (by show w.heap.size≠w.heap.size+1+1;omega)).trans htr;have B5:=hbl.setCell (p:=⟨w.heap.size+1+1,0,none⟩) (by show w.heap.size≤w.heap.size+1+1;omega) (.slice (some ⟨gb,0,none⟩) rest.length cap)
   have M5:∀ r∈rs,w.heap.size≤r∧(wr.setCell ⟨w.heap.size+1+1,0,none⟩ (.slice (some ⟨gb,0,none⟩) rest.length cap)).heap[r]?=some (.deferred (some [])):=fun r hr=>⟨(hmk r hr).1,(heap_setCell_other _ _ _ _ (by
    show r≠w.heap.size+1+1;rintro rfl;have:=(hmk _ hr).2;rw[show wr.heap[w.heap.size+1+1]?=_ from Hf] at this
    cases this)).trans (hmk r hr).2⟩
   have X0:=(B5.cell (p:=⟨b,off+k * 3,none⟩) (by show b<_;omega)).trans hx0;have X1:=(B5.cell (p:=⟨b,off+k * 3+1,none⟩) (by show b<_;omega)).trans hx1;have X2:=(B5.cell (p:=⟨b,off+k * 3+2,none⟩) (by show b<_;omega)).trans hx2;have K5:=(hkv.mono hB).below B5;clear hkv hx0 hx1 hx2 hrow hrow' htr hbl hor hmk Kq adh aeI
   gi_upto_region 6 with (fail)
   clear hc0 hf0 hxi hcap;generalize wr.setCell ⟨w.heap.size+1+1,0,none⟩ _=W5 at T R5 O5 E5 B5 M5 X0 X1 X2 K5 ⊢
   have q0:W5.cell? ⟨w.heap.size,1,none⟩=some (.slice (some ⟨b,off,none⟩) aj.length cn):=by rw[aV E5];rfl
   clear Hf;obtain⟨uU,uV,rfl,_,_⟩:=K5.form
   gi_upto_region 7 with (fail)
   have hs5:=B5.size;have E6:=(gY W5 (.cells #[.int .i64 aj[k].kind,.int .i64 aj[k].tok,.slice uU aj[k].aA.length uV] 129) w.heap.size (bS E5).1).trans E5;have R6:=R5.alloc (.cells #[.int .i64 aj[k].kind,.int .i64 aj[k].tok,.slice uU aj[k].aA.length uV] 129);have O6:=O5.alloc (.cells #[.int .i64 aj[k].kind,.int .i64 aj[k].tok,.slice uU aj[k].aA.length uV] 129);have T6:=T.alloc (.cells #[.int .i64 aj[k].kind,.int .i64 aj[k].tok,.slice uU aj[k].aA.length uV] 129);have B6:=B5.alloc hs5 (.cells #[.int .i64 aj[k].kind,.int .i64 aj[k].tok,.slice uU aj[k].aA.length uV] 129)
   have M6:∀ r∈rs,w.heap.size≤r∧(W5.alloc (.cells #[.int .i64 aj[k].kind,.int .i64 aj[k].tok,.slice uU aj[k].aA.length uV] 129)).heap[r]?=some (.deferred (some [])):=fun r hr=>⟨(M5 r hr).1,(gY W5 _ r (bS (M5 r hr).2).1).trans (M5 r hr).2⟩
   have N6:=aY W5 (.cells #[.int .i64 aj[k].kind,.int .i64 aj[k].tok,.slice uU aj[k].aA.length uV] 129);have K6:=K5.below ((bI w.heap.size W5).alloc hs5 (.cells #[.int .i64 aj[k].kind,.int .i64 aj[k].tok,.slice uU aj[k].aA.length uV] 129));clear E5 R5 O5 T B5 M5 K5 X0 X1 X2 q0;generalize W5.heap.size=xb at N6 ⊢;generalize W5.alloc _=W6 at N6 E6 R6 O6 T6 B6 M6 K6 ⊢
   have x0:W6.cell? ⟨xb,0,none⟩=some (.int .i64 aj[k].kind):=by rw[aV N6];rfl
   have x1:W6.cell? ⟨xb,1,none⟩=some (.int .i64 aj[k].tok):=by rw[aV N6];rfl
   have x2:W6.cell? ⟨xb,2,none⟩=some (.slice uU aj[k].aA.length uV):=by rw[aV N6];rfl
   have hs6:=B6.size;clear hs5 N6
   by_cases Cv:aj[k].kind=19
   ·rw[if_pos Cv] at hm
    rw[Cv] at x0;have hol:=wC _ _ _ _ hm;simp only[bN,dR,gX] at hol;have HM:=ay hm;clear hm K6 x2;generalize aj[k].tok=tk at x1 HM
    gi_wp2_with (gi_at_builtin;refine wpListIn_append_own_at _ rfl _ _ 127 rfl w.heap.size 3 i0 (.int .i64 0) 1 8 Tryz.underlying127 hi hz0 hz1 hz2 rfl (by decide) Bn _ _ rfl (O6.alloc _) ⟨W6.heap.size,0,none⟩ 1 1 [.int .i64 tk] rfl rfl (cell_one_new _ _ _) (by simp[Value.oneCell']) (by unfold maxLen;omega) (by omega) (by simp;omega) ?_;intro v' w1 hown' hgrow _ af9;obtain⟨g',jE,rfl⟩:=ownsRow_succ hown')
    have X4:gb≠W6.heap.size:=by
     rcases R6.2 with ⟨hv,_⟩|⟨gg,c9,cur,hv,_,hgg,_⟩
     ·cases hv
     ·simp only[Value.slice.injEq,Option.some.injEq,Addr.mk.injEq] at hv
      have:=(bS hgg).1;omega
    have hg':g'≠gb:=by
     rintro rfl
     rcases af9 with q|q
     ·exact hout q.symm
     ·simp only[Value.ownBlock,oP,Option.some.injEq] at q
      have:=(R6.lt g' rfl).2;omega
    have aga:∀ q,Bn.ownBlock=some q→w.heap.size≤q:=fun q hq=>(O6.lt q hq).1
    refine⟨gk,by omega,rest,out++[tk],.slice (some ⟨gb,0,none⟩) rest.length cap,.slice (some ⟨g',0,none⟩) (out.length+1) jE,rs,HM.out,⟨?_,?_,⟨gb,cap,rfl,fun q=>hg' (kR q)⟩,?_,?_,?_,hnd,by omega,?_⟩,?_⟩
    ·exact(T6.alloc (.cells #[.int .i64 tk] 3)).kept hgrow ((T6.alloc (.cells #[.int .i64 tk] 3)).not_row (by decide) (O6.alloc (.cells #[.int .i64 tk] 3)))
    ·have:=(R6.alloc (.cells #[.int .i64 tk] 3)).kept hgrow (.inr fun q=>hout q.symm)
     simpa using this
    ·simpa using hown'
    ·exact iI (O6.alloc _) hgrow ((gY W6 (.cells #[.int .i64 tk] 3) w.heap.size (bS E6).1).trans E6) (by decide)
    ·exact(B6.alloc hs6 _).grown hgrow (by simp;omega) aga
    ·intro r hr
     refine⟨(M6 r hr).1,?_⟩;have hrl:=(bS (M6 r hr).2).1;rw[hgrow.block r (by simp;omega) (fun q=>?_)]
     ·exact(gY W6 _ r hrl).trans (M6 r hr).2
     ·rcases O6.2 with ⟨hv,_⟩|⟨gg,c9,cur,hv,_,hgg,_⟩
      ·rw[hv] at q;cases q
      ·rw[hv] at q
       simp only[Value.ownBlock,Option.some.injEq] at q;subst q;rw[(M6 r hr).2] at hgg;cases hgg
    ·repeat apply Exists.intro
     rfl
   ·rw[if_neg Cv] at hm
    by_cases hbig:549755813888<(aj[k].aA++rest).length
    ·rw[if_pos hbig] at hm;cases hm
    rw[if_neg hbig] at hm;rw[bN] at hbig
    have hkd:(aj[k].kind == 19)=false:=by simpa using Cv
    have HM:=ay hm;have HB:=ay hbig;clear hm x1 Cv hbig
    gi_wp2_with (refine⟨trivial,?_⟩;gi_at_call 298;refine(abG Fence.wide _ trivial rfl _ _ _ _).mono ?_;rintro e w' ⟨rfl,rfl⟩)
    have adi:W6.heap.size<(W6.alloc (.cells #[.slice uU aj[k].aA.length uV] 127)).heap.size:=by simp
    have Bk:=Boxed.new W6 127 (.slice uU aj[k].aA.length uV);have T7:=T6.alloc (.cells #[.slice uU aj[k].aA.length uV] 127);have R7:=R6.alloc (.cells #[.slice uU aj[k].aA.length uV] 127);have O7:=O6.alloc (.cells #[.slice uU aj[k].aA.length uV] 127);have E7:=(gY W6 (.cells #[.slice uU aj[k].aA.length uV] 127) w.heap.size (bS E6).1).trans E6;have B7:=B6.alloc hs6 (.cells #[.slice uU aj[k].aA.length uV] 127);have K7:=K6.below ((bI w.heap.size W6).alloc hs6 (.cells #[.slice uU aj[k].aA.length uV] 127))
    have M7:∀ r∈rs,w.heap.size≤r∧(W6.alloc (.cells #[.slice uU aj[k].aA.length uV] 127)).heap[r]?=some (.deferred (some [])):=fun r hr=>⟨(M6 r hr).1,(gY W6 _ r (bS (M6 r hr).2).1).trans (M6 r hr).2⟩
    have agb:=T6.lt;clear T6 R6 O6 E6 B6 K6 M6 x0 x2;generalize W6.heap.size=bs at Bk adi hs6 agb ⊢;generalize W6.alloc _=W7 at Bk T7 R7 O7 E7 B7 K7 M7 adi ⊢;generalize aj[k].aA=ks at Bk HM HB K7 ⊢;have hgb:w.heap.size≤gb∧gb<W7.heap.size:=R7.lt gb rfl
    have ahe:bs≠gb:=by
     have:=Bk.not_row (e:=3) (by decide) R7;rintro rfl;exact this rfl
    refine wpIn_rangeFunc_ownG rfl (by decide) (gf:=308) (lb:=#[.pointer (some ⟨bs,0,none⟩)]) rfl trivial (enters_of Tryz.func308 (by kernel_rfl) rfl)
     (Rc Fence.wide 7 trivial rfl (by decide) bs w.heap.size _ ks (by have:=HB.out;omega) W7 adi (by omega) Bk.cell K7) (fun {_ _ _} h1 h2=>qN.trans h1 h2) ?kb (bI _ _) (fun _=>rfl)
     (fun pre W=>aeH w.heap.size (w.heap.size+1+1) gb rest.length cap rest.reverse W7 pre W∧(aW (fun q=>q≠w.heap.size+1+1∧q≠gb) W7 W∧Below w.heap.size w W))
     (fun _ _ _=>False)
     (OwnFrom.and (Own.from (holdsRow_own w.heap.size (w.heap.size+1+1) 127 3 1 (fun pre:List (Int × Int)=>rest.length+pre.length) (fun pre=>(rest.reverse++pre.map Prod.snd).map (Value.int .i64)) (fun pre v=>∃ gg cp,v=.slice (some ⟨gg,0,none⟩) (rest.length+pre.length) cp∧(gg=gb∨W7.heap.size≤gg))) _) (OwnFrom.and (Oh (bD _)) (ownFrom_below (bD _) (by omega))))
     (fun _ _ _ _ _ hs _ _=>hs)
     ⟨⟨_,T7,by simpa using R7,gb,cap,rfl,.inl rfl⟩,aW.refl _ _,B7⟩
     ?a1 ?assign ?body ?done ?stop
    case kb =>
     intro W lq o o' hl ho hc hw
     have hbl:bs<lq:=by omega
     exact⟨belowK_b (w:=W7) (by omega) W lq o o' hl ho hc hw,World.cell?_of_block (a:=⟨bs,0,none⟩) (World.putObj_heap_other (Nat.ne_of_lt hbl))⟩
    case assign =>
     intro l x W K hK
     gi_wp2
     exact hK
    case body =>
     rintro lp pre x W ⟨⟨v,hbx,hrow,gg,cp,rfl,hgg⟩,fF,hBW⟩ hlt;have hc:=hbx.cell;have hWs:=hBW.size;have hB2:=HB.out
     gi_wp2_with (gi_at_builtin;refine wpListIn_append_own_at _ rfl _ _ 127 rfl w.heap.size 3 i0 (.int .i64 0) 1 8 Tryz.underlying127 hi hz0 hz1 hz2 rfl (by decide) (.slice (some ⟨gg,0,none⟩) (rest.length+pre.length) cp) _ _ rfl (hrow.alloc _) ⟨W.heap.size,0,none⟩ 1 1 [.int .i64 x.2] rfl rfl (cell_one_new _ _ _) (by simp[Value.oneCell']) (by unfold maxLen;omega) (by omega) (by simp;omega) ?_;intro v' w1 hown' hgrow _ agc;obtain⟨g',jE,rfl⟩:=ownsRow_succ hown';obtain⟨hv1,hv2,hr2,hk2,hb2⟩:=hbx.appended (by decide) hrow hWs (by omega) hown' hgrow;have hc1:=hv1.cell;have hf1:=hv1.frozen)
     have hfr:∀ q,q<W.heap.size→q≠w.heap.size+1+1→q≠gg→(w1.setCell ⟨w.heap.size+1+1,0,none⟩ (.slice (some ⟨g',0,none⟩) (rest.length+pre.length+1) jE)).heap[q]?=W.heap[q]?:=fun q h1 h2 h3 =>
      (heap_setCell_other _ _ _ _ h2).trans ((hgrow.block q (by simp;omega) (fun e=>h3 (kR e))).trans (gY W _ q h1))
     have aeo:=fF.1;refine⟨hk2.from _,⟨hb2,World.cell?_of_block (a:=⟨bs,0,none⟩) (hfr bs (by omega) (by omega) (by omega))⟩,⟨_,hv2,?_,g',jE,?_,?_⟩,⟨jc fF.1 hk2.size,fun q hq hl=>(hfr q (by omega) hq.1 (by omega)).trans (fF.2 q hq hl)⟩,hBW.trans hb2⟩
     ·simpa [Nat.add_assoc] using hr2
     ·simp[Nat.add_assoc]
     ·simp only[Value.ownBlock,oP,Option.some.injEq] at agc
      omega
    case done =>
     rintro D ys W hD rfl ⟨⟨v,hbx,hrow,gg,cp,rfl,hgg⟩,fF,hBW⟩ hK;rw[wZ,Vp _ _ (bD _),Au (by simp)] at hrow;rw[wZ] at hbx;have hB2:=HB.out
     have aeJ:w.heap.size≠gb:=fun q=>by
      have:=own_ne R7 E7 (by decide);exact this (by rw[q];rfl)
     gi_wp2
     refine⟨gk,by omega,ks++rest,out,.slice (some ⟨gg,0,none⟩) (rest.length+ks.length) cp,Bn,D :: rs,HM.out,⟨hbx,?_,⟨gg,cp,?_,?_⟩,?_,?_,hBW,?_,by simp;omega,?_⟩,?_⟩
     ·rw[List.reverse_append,bN,Nat.add_comm ks.length]
      exact hrow
     ·rw[bN,Nat.add_comm ks.length]
     ·intro q
      rcases hgg with rfl|hgg
      ·exact hout q
      ·have:=(O7.lt gg q).2
       omega
     ·refine YI O7 fun q hq=>fF.2 q ⟨?_,?_⟩ (O7.lt q hq).2
      ·rintro rfl
       exact T7.not_row (by decide) O7 hq.symm
      ·rintro rfl
       exact hout hq
     ·exact(fF.2 w.heap.size ⟨by omega,aeJ⟩ (bS E7).1).trans E7
     ·rw[List.nodup_cons]
      refine⟨fun q=>?_,hnd⟩;have:=(bS (M7 D q).2).1;omega
     ·intro r hr
      rcases List.mem_cons.1 hr with rfl|hr
      ·exact⟨by omega,hK⟩
      ·refine⟨(M7 r hr).1,(fF.2 r ⟨?_,?_⟩ (bS (M7 r hr).2).1).trans (M7 r hr).2⟩
       ·rintro rfl
        have:=(M7 _ hr).2;rw[show W7.heap[w.heap.size+1+1]?=_ from T7] at this;cases this
       ·rintro rfl
        rcases R7.2 with ⟨hv,_⟩|⟨g9,c9,cur,hv,_,aeK,_⟩
        ·cases hv
        ·simp only[Value.slice.injEq,Option.some.injEq,Addr.mk.injEq] at hv
         obtain⟨⟨rfl,-,-⟩,-,-⟩:=hv;rw[(M7 _ hr).2] at aeK;cases aeK
     ·repeat apply Exists.intro
      rfl
    case stop =>
     rintro D c pre W _ _ h _;exact h.elim
end Go.Proofs.YtmhdgeekclhbbaaGreatDoor

namespace Go.Proofs.YtmhdgeekclhbbaaGreatDoor
open Go.RowKit Go
def jk (w:World)(kb:Nat)(mV:List Bool):Prop:=w.heap[kb]?=some (.cells (mV.map Value.bool).toArray 4 (0,0))
theorem jk.cell {w:World}{kb:Nat}{mV:List Bool}(h:jk w kb mV){j:Nat}(hj:j<mV.length):w.cell? ⟨kb,j,none⟩=some (.bool mV[j]):=by
 rw[aV h];simp[hj]
theorem jk.free {w:World}{kb:Nat}{mV:List Bool}(h:jk w kb mV)(j:Nat):w.frozen? ⟨kb,j,none⟩=false:=by simp[World.frozen?,show w.heap[kb]?=_ from h]
theorem jk.set {w:World}{kb:Nat}{mV:List Bool}(h:jk w kb mV)(j:Nat)(b:Bool):jk (w.setCell ⟨kb,j,none⟩ (.bool b)) kb (mV.set j b):=by
 have:=heap_setCell_same w kb j _ _ (.bool b) h;rw[jk,this];simp[List.map_set]
theorem Hg (kb m cap:Nat)(mV:List Bool)(p:Bool)(w:World)(h:jk w kb mV)(hm:m≤mV.length)(hn:mV.length≤1099511627776)(hp:p=(mV.take m).contains false) :
  Calls Tryz.prog 297 #[.slice (some ⟨kb,0,none⟩) m cap,.bool false] w (aea p w):=by
 have HM:=ay (fun (j:Nat) (hj:j<mV.length)=>h.cell hj);have HP:=ay hp;clear h hp;go_enter Tryz.func297,Tryz.ntmps297;go_wp2
 go_loop [8] (fun q=>∃ k:Nat,k≤m∧q=.int .i64 k∧∀ j,(hj:j<mV.length)→j<k→mV[j]=true) (fun q=>m - (intOf q).toNat)
 case atStart=>exact⟨0,lI _,rfl,fun j _ h=>absurd h (by omega)⟩
 case round =>
  obtain⟨k,hk,rfl,hj⟩:=hrel
  by_cases hlt:k<m
  ·have hx:=HM.out k (by omega)
   have hI:(k:Int)<(m:Int):=by omega
   cases hv:mV[k] with
   | false =>
    rw[hv] at hx
    have hc:(mV.take m).contains false=true:=by
     rw[List.contains_iff_mem,← hv];exact List.mem_take_iff_getElem.2 ⟨k,by omega,rfl⟩
    have HC:=ay hc;clear hj hv hc;go_wp2;go_ret;exact⟨⟨k,rfl,⟨fun _=>HP.out.trans HC.out,fun _=>by omega⟩,by omega⟩,rfl⟩
   | true =>
    rw[hv] at hx
    have HJ:Hid (∀ j,(hj:j<mV.length)→j<k+1→mV[j]=true):=ay (fun j hjl hjk=>by
     by_cases hkj:j=k
     ·subst hkj;exact hv
     ·exact hj j hjl (by omega))
    clear hj hv;go_wp2
    go_round
    case rel=>exact⟨k+1,by omega,by go_num,HJ.out⟩
    case measure=>simp[intOf];omega
  ·obtain rfl:k=m:=by omega
   have hc:(mV.take k).contains false=false:=by
    rw[← Bool.not_eq_true,List.contains_iff_mem];intro q;obtain⟨j,hj1,hj2⟩:=List.mem_take_iff_getElem.1 q;rw[hj j (by omega) (by omega)] at hj2;cases hj2
   have HC:=ay hc;have hI:decide ((k:Int)<(k:Int))=false:=dA (by omega);clear hj hc;go_wp2;go_ret;exact⟨⟨-1,rfl,⟨fun h=>by omega,fun h=>by rw[HP.out,HC.out] at h;cases h⟩,by omega⟩,rfl⟩
theorem tL (kb m cap:Nat)(mV:List Bool)(w:World)(h:jk w kb mV)(hm:m≤mV.length)(hn:mV.length≤1099511627776) :
  Calls Tryz.prog 276 #[.slice (some ⟨kb,0,none⟩) m cap,.bool false] w fun e w'=>e=.returned (.bool ((mV.take m).contains false))∧w'=w:=by
 have H:=ay (Hg kb m cap mV _ w h hm hn rfl);clear h;go_enter Tryz.func276,Tryz.ntmps276;go_wp2_with (go_at_call 297;refine H.out.mono ?_);rintro e w1 ⟨⟨r,rfl,hr,_⟩,rfl⟩
 have hq:((mV.take m).contains false)=decide (0≤r):=by
  by_cases h:0≤r
  ·rw[iX h];exact hr.1 h
  ·rw[dA h,← Bool.not_eq_true];exact fun q=>h (hr.2 q)
 have HQ:=ay hq;clear hq hr;go_wp2;go_ret;exact⟨aT HQ.out.symm,rfl⟩
theorem Tryz.YK:(Tryz.prog.info? 4).map (fun i=>(i.zero,i.size,i.bytes))=some (some (.bool false),1,1):=by kernel_rfl
theorem Fg (n:Nat):(madeCells (Value.bool false).cells (n * 1))=((List.replicate n false).map Value.bool).toArray:=by
 apply Array.toList_inj.1
 have:=toList_madeCells_one (.bool false) n;rw[Nat.mul_one];show (madeCells #[Value.bool false] n).toList=_;rw[this]
 simp
theorem Jd (B:Nat)(tv nv:Value)(ah:List Tok)(aj:List Nd)(l:List Int)(g:Nat)(w:World)(h:aZ B w (.agg #[tv,nv]) ah aj)(hB:B≤w.heap.size)(hn:aj.length≤1000000)(hkl:∀ n∈aj,n.aA.length≤1000000)
  (hlv:∀ mV,qE ah.length aj=some mV→mV.length≠0→(mV.take (aj.length - 1)).contains false=false→fQ aj g [((aj.length:Nat):Int) - 1] []=some l) (hll:l.length≤549755813888) (ahv:ah.length≤1099511627776) :
  Calls Tryz.prog 233 #[.agg #[tv,nv]] w fun e w'=>e=.returned (.bool (lU ah.length aj l))∧Below w.heap.size w w':=by
 obtain⟨i0,hi,hz0,hz1,hz2⟩:=info_parts Tryz.YK;obtain⟨at_,ct,an,cn,hv⟩:=h.slices;simp only[Value.agg.injEq,Array.mk.injEq,List.cons.injEq,and_true] at hv;obtain⟨rfl,rfl⟩:=hv;have hmk:=run_make (P:=Tryz.prog) (w.alloc (.cells #[.slice at_ ah.length ct,.slice an aj.length cn] 81)) 327 4 i0 (.bool false) Tryz.underlying327 hi hz0 .i64 .i64 aj.length aj.length (by omega) (by omega) (by rw[hz2];omega) (by omega);rw[hz1,Int.toNat_natCast,Fg] at hmk;have HT:=ay h;have HLV:=ay hlv;have HKL:=ay hkl;clear h hlv hkl;go_enter Tryz.func233,Tryz.ntmps233;go_wp2;have T2:=(gY (w.alloc (.cells #[.slice at_ ah.length ct,.slice an aj.length cn] 81)) (.cells (Array.replicate aj.length (Value.bool false)) 4) w.heap.size (by simp)).trans (aY w (.cells #[.slice at_ ah.length ct,.slice an aj.length cn] 81))
 have G2:jk ((w.alloc (.cells #[.slice at_ ah.length ct,.slice an aj.length cn] 81)).alloc (.cells (Array.replicate aj.length (Value.bool false)) 4)) (w.heap.size+1) (List.replicate aj.length false):=by
  have:=aY (w.alloc (.cells #[.slice at_ ah.length ct,.slice an aj.length cn] 81)) (.cells (Array.replicate aj.length (Value.bool false)) 4);rw[oP] at this;rw[jk,this]
  simp
 have hb2:Below w.heap.size w ((w.alloc (.cells #[.slice at_ ah.length ct,.slice an aj.length cn] 81)).alloc (.cells (Array.replicate aj.length (Value.bool false)) 4)):=((bI _ w).alloc (bD _) _).alloc (by simp) _;clear hmk;generalize (w.alloc _).alloc _=W2 at T2 G2 hb2 ⊢
 go_loopw [18] (fun q wr=>∃ (i:Nat) (mV:List Bool),i≤aj.length∧q=.int .i64 i∧mV.length=aj.length∧nA ah.length i (aj.drop i) mV=qE ah.length aj∧jk wr (w.heap.size+1) mV∧wr.heap[w.heap.size]?=some (.cells #[.slice at_ ah.length ct,.slice an aj.length cn] 81 (0,0))∧Below w.heap.size w wr) (fun q _=>aj.length - (intOf q).toNat)
 case atStart=>exact⟨0,List.replicate aj.length false,lI _,rfl,by simp,rfl,G2,T2,hb2⟩
 case round =>
  obtain⟨i,mV,hi',rfl,hkl,hmk,hG,hT,hbl⟩:=hrel;have hz:=hbl.size
  have c0:wr.cell? ⟨w.heap.size,0,none⟩=some (.slice at_ ah.length ct):=by rw[aV hT];rfl
  have c1:wr.cell? ⟨w.heap.size,1,none⟩=some (.slice an aj.length cn):=by rw[aV hT];rfl
  clear T2 G2 hb2
  by_cases hlt:i<aj.length
  ·obtain⟨b,off,cap2,kv,hnv,YD,hx0,hx1,hx2,hkv⟩:=HT.out.node hlt
   simp only[Value.slice.injEq] at hnv;obtain⟨rfl,-,rfl⟩:=hnv;have hdr:aj.drop i=aj[i] :: aj.drop (i+1):=List.drop_eq_getElem_cons hlt;have hkn:=HKL.out aj[i] (mX hlt);rw[hdr,nA] at hmk;obtain⟨uU,uV,rfl,_,_⟩:=hkv.form;have x0:=(hbl.cell (p:=⟨b,off+i * 3,none⟩) (by show b<_;omega)).trans hx0;have x1:=(hbl.cell (p:=⟨b,off+i * 3+1,none⟩) (by show b<_;omega)).trans hx1;have x2:=(hbl.cell (p:=⟨b,off+i * 3+2,none⟩) (by show b<_;omega)).trans hx2;have K:=(hkv.mono hB).below hbl
   have hiI:(i:Int)<(aj.length:Int):=by omega
   have HMK:=ay hmk;clear hmk hx0 hx1 hx2 hkv hdr;generalize hnd:aj[i]=nd at x0 x1 x2 K hkn HMK;obtain⟨kind,tok,ks⟩:=nd;simp only at x0 x1 x2 K hkn;have N1:=aY wr (.cells #[.int .i64 kind,.int .i64 tok,.slice uU ks.length uV] 129);have hbn:=aB wr (.cells #[.int .i64 kind,.int .i64 tok,.slice uU ks.length uV] 129);have T1:=(hbn.block w.heap.size (bS hT).1).trans hT;have G1:jk (wr.alloc (.cells #[.int .i64 kind,.int .i64 tok,.slice uU ks.length uV] 129)) (w.heap.size+1) mV:=(hbn.block _ (bS hG).1).trans hG;have K1:=K.below (hbn.mono hz);have hb1:=hbl.trans (hbn.mono hz)
   go_upto_region 5 with (fail)
   clear c0 c1 x0 x1 x2 K hbn hT hG hbl;generalize wr.heap.size=xb at N1 hz ⊢;generalize wr.alloc _=W1 at N1 T1 G1 K1 hb1 ⊢;have hz1:=hb1.size
   have c0:W1.cell? ⟨w.heap.size,0,none⟩=some (.slice at_ ah.length ct):=by rw[aV T1];rfl
   have c1:W1.cell? ⟨w.heap.size,1,none⟩=some (.slice (some ⟨b,off,none⟩) aj.length cn):=by rw[aV T1];rfl
   have y0:W1.cell? ⟨xb,0,none⟩=some (.int .i64 kind):=by rw[aV N1];rfl
   have y1:W1.cell? ⟨xb,1,none⟩=some (.int .i64 tok):=by rw[aV N1];rfl
   have y2:W1.cell? ⟨xb,2,none⟩=some (.slice uU ks.length uV):=by rw[aV N1];rfl
   have HF:=ay (PY at_ (some ⟨b,off,none⟩) ah.length ct aj.length cn i w.heap.size ⟨kind,tok,ks⟩ (.slice uU ks.length uV) W1 K1 hz1 (by simp only;omega))
   by_cases hfm:jh ah.length i ⟨kind,tok,ks⟩=true
   ·have hq:=HMK.out
    rw[if_pos hfm] at hq;rw[hfm] at HF;have HQ:=ay hq;clear hq HMK;have hlx:=(bS N1).1;go_wp2_with (go_at_call 275;refine HF.out.mono ?_;rintro e w3 ⟨rfl,hb3⟩;have z2:w3.cell? ⟨xb,2,none⟩=some (.slice uU ks.length uV):=(hb3.cell (p:=⟨xb,2,none⟩) hlx).trans y2);have T3:=(hb3.block w.heap.size (bS T1).1).trans T1;have G3:jk w3 (w.heap.size+1) mV:=(hb3.block _ (bS G1).1).trans G1;have K3:=K1.below (hb3.mono hz1);have zD:=hb1.trans (hb3.mono hz1)
    have Rh:∀ k∈ks,0≤k∧k<(i:Int):=by
     unfold jh at hfm
     by_cases h1:kind<1∨19<kind
     ·rw[if_pos h1] at hfm;cases hfm
     rw[if_neg h1] at hfm
     by_cases h2:kind=19
     ·rw[if_pos h2] at hfm
      simp only[Bool.and_eq_true,decide_eq_true_eq] at hfm;have:=List.length_eq_zero_iff.1 hfm.1;subst this
      exact fun k hk=>by cases hk
     ·rw[if_neg h2,Bool.and_eq_true] at hfm
      have h3:=hfm.2;rw[Bool.not_eq_true',← Bool.not_eq_true,List.any_eq_true] at h3;intro k hk
      by_cases h4:0≤k∧k<(i:Int)
      ·exact h4
      ·exact absurd ⟨k,hk,by simp only[Bool.or_eq_true,decide_eq_true_eq];omega⟩ h3
    have HFK:=ay Rh;clear hb3 T1 G1 K1 hb1 hz1 c0 c1 y0 y1 y2 N1 HF hfm Rh;obtain⟨ahw,ahx,hvk,_,xS⟩:=K3.form;simp only[Value.slice.injEq] at hvk;obtain⟨rfl,-,rfl⟩:=hvk;have HKF:=ay xS;clear xS z2
    go_loopw [31] (fun q wi=>∃ (j:Nat) (Vq:List Bool),j≤ks.length∧q=.int .i64 j∧Vq.length=aj.length∧(zf Vq (ks.drop j)).bind (nA ah.length (i+1) (aj.drop (i+1)))=qE ah.length aj∧jk wi (w.heap.size+1) Vq∧(∀ q,q≠w.heap.size+1→wi.heap[q]?=w3.heap[q]?)∧Below w.heap.size w wi) (fun q _=>ks.length - (intOf q).toNat)
    case atStart=>exact⟨0,mV,lI _,rfl,hkl,HQ.out,G3,fun _ _=>rfl,zD⟩
    case round =>
     obtain⟨j,Vq,hj,rfl,hkl',hq,hG,hoth,hbl⟩:=hrel
     by_cases hjl:j<ks.length
     ·obtain⟨bk,abJ,rfl,hbk,hcell⟩:=HKF.out (by omega)
      have hx:wr.cell? ⟨bk,abJ+j,none⟩=some (.int .i64 ks[j]):=(World.cell?_of_block (a:=⟨bk,abJ+j,none⟩) (hoth bk (by omega))).trans (hcell j hjl);have hdr:ks.drop j=ks[j] :: ks.drop (j+1):=List.drop_eq_getElem_cons hjl;have hkr:=HFK.out ks[j] (mX hjl);rw[hdr,zf] at hq;generalize ks[j]=k at hx hkr hq
      obtain⟨k,rfl⟩:∃ kk:Nat,k=(kk:Int):=⟨k.toNat,by omega⟩
      rw[Int.toNat_natCast,List.getD_eq_getElem?_getD,yV (by omega),Option.getD_some] at hq;have hm:=hG.cell (j:=k) (by omega)
      have JZ:(j:Int)<(ks.length:Int):=by omega
      have pR:(k:Int)<(aj.length:Int):=by omega
      clear hcell hdr
      cases hv:Vq[k]'(by omega) with
      | true =>
       rw[hv] at hm hq;rw[if_pos rfl,Option.bind_none] at hq;have HRB:Hid (lU ah.length aj l=false):=ay (by rw[lU,← hq]);clear hq hv;go_wp2;go_ret;exact⟨aT HRB.out.symm,hbl⟩
      | false =>
       rw[hv] at hm hq;rw[if_neg (by decide)] at hq;have hset:=hG.set k true;have hfz:=hG.free k;have GL:=ay hq
       have aeL:∀ q,q≠w.heap.size+1→(wr.setCell ⟨w.heap.size+1,k,none⟩ (.bool true)).heap[q]?=w3.heap[q]?:=fun q hqn=>(heap_setCell_other _ _ _ _ hqn).trans (hoth q hqn)
       clear hq hv;go_wp2
       go_roundw
       case rel=>exact⟨j+1,_,by omega,by go_num,by rw[List.length_set];exact hkl',GL.out,hset,aeL,hbl.setCell (by show w.heap.size≤w.heap.size+1;omega) _⟩
       case measure=>simp[intOf];omega
     ·obtain rfl:j=ks.length:=by omega
      rw[List.drop_length,zf,Option.bind_some] at hq;have hTi:=(hoth w.heap.size (by omega)).trans T3;have GL:=ay hq;have JZ:decide ((ks.length:Int)<(ks.length:Int))=false:=dA (by omega);clear hq;go_wp2;exact⟨⟨i+1,Vq,by omega,by go_num,hkl',GL.out,hG,hTi,hbl⟩,by simp[intOf];omega⟩
   ·have hq:=HMK.out
    rw[if_neg hfm] at hq;have HRB:Hid (lU ah.length aj l=false):=ay (by rw[lU,← hq]);rw[Bool.not_eq_true] at hfm;rw[hfm] at HF;clear hq HMK;go_wp2_with (go_at_call 275;refine HF.out.mono ?_;rintro e w3 ⟨rfl,hb3⟩);go_ret;exact⟨aT HRB.out.symm,hb1.trans (hb3.mono hz1)⟩
  ·obtain rfl:i=aj.length:=by omega
   rw[List.drop_length,nA] at hmk;have hqI:decide ((aj.length:Int)<(aj.length:Int))=false:=dA (by omega)
   by_cases h0:aj.length=0
   ·have HRB:Hid (lU ah.length aj l=false):=ay (by rw[lU,← hmk];simp only[hkl,h0];rfl)
    have h0I:((aj.length:Int) == 0)=true:=by simp[h0]
    clear hmk hG;go_wp2;go_ret;exact⟨aT HRB.out.symm,hbl⟩
   ·have h0I:((aj.length:Int) == 0)=false:=by simp[h0]
    have hR:=fun (W:World)=>Mw (.slice at_ ah.length ct) an aj.length cn W (by omega)
    have HR:=ay hR;have HG:=ay hG;clear hR
    obtain⟨p,hp⟩:∃ p,p=(mV.take (aj.length - 1)).contains false:=⟨_,rfl⟩
    have HP:=ay hp
    have hnI:((aj.length:Int) - 1)=((aj.length - 1:Nat):Int):=by omega
    clear hp hG
    cases p with
    | true =>
     have HRB:Hid (lU ah.length aj l=false):=ay (by rw[lU,← hmk];simp only;rw[← HP.out];simp);clear hmk;go_wp2_with (first|(go_at_call 60;refine(HR.out _).mono ?_;rintro e w3 ⟨rfl,hb3⟩;rw[hnI])|(go_at_call 276;refine(tL (w.heap.size+1) (aj.length - 1) aj.length mV _ ((hb3.block _ (bS HG.out).1).trans HG.out) (by omega) (by omega)).mono ?_;rintro e w4 ⟨rfl,rfl⟩;rw[← HP.out]));go_ret;exact⟨aT HRB.out.symm,hbl.trans (hb3.mono hz)⟩
    | false =>
     have hlq:=HLV.out mV hmk.symm (by omega) HP.out.symm
     have HRB:Hid (lU ah.length aj l=(oL 0 l && decide (l.length=ah.length))):=ay (by
      rw[lU,← hmk];simp only;rw[← HP.out,dA (by omega:¬ mV.length=0)]
      simp)
     have HL:=ay (fun (W:World) (hW:Below w.heap.size w W)=>Rf w.heap.size (.slice at_ ah.length ct) (.slice an aj.length cn) ah aj (((aj.length:Nat):Int) - 1) l g W ((HT.out.mono hB).below hW) hW.size (by omega) hlq hll);rw[hnI] at HL;clear hmk hlq;go_wp2_with (first|(go_at_call 60;refine(HR.out _).mono ?_;rintro e w3 ⟨rfl,hb3⟩;rw[hnI])|(go_at_call 276;refine(tL (w.heap.size+1) (aj.length - 1) aj.length mV _ ((hb3.block _ (bS HG.out).1).trans HG.out) (by omega) (by omega)).mono ?_;rintro e w4 ⟨rfl,rfl⟩;rw[← HP.out]));have hb4:=hbl.trans (hb3.mono hz);have T4:=(hb3.block w.heap.size (bS hT).1).trans hT;clear hb3 hbl hT c0 c1 HG HP hkl hz;have zF:=hb4.size
     have c0:w4.cell? ⟨w.heap.size,0,none⟩=some (.slice at_ ah.length ct):=by rw[aV T4];rfl
     have c1:w4.cell? ⟨w.heap.size,1,none⟩=some (.slice an aj.length cn):=by rw[aV T4];rfl
     go_cut [8] (fun v wx=>∃ ao cap,v=.slice ao l.length cap∧Ints wx.heap.size wx (.slice ao l.length cap) l∧wx.heap[w.heap.size]?=some (.cells #[.slice at_ ah.length ct,.slice an aj.length cn] 81 (0,0))∧Below w.heap.size w wx)
     case first =>
      have aeM:=(bS T4).1
      go_region_with (first|(go_at_call 60;refine(HR.out _).mono ?_;rintro e w5 ⟨rfl,hb5⟩;rw[hnI];have d0:=(hb5.cell (p:=⟨w.heap.size,0,none⟩) aeM).trans c0;have d1:=(hb5.cell (p:=⟨w.heap.size,1,none⟩) aeM).trans c1)|(go_at_call 277;refine(HL.out _ (hb4.drew.trans (hb5.mono zF))).mono ?_;rintro e w6 ⟨v6,rfl,hv6,hb6⟩;obtain⟨al,cl,rfl,_,_⟩:=hv6.form))
      all_goals
       have sD:=(hb4.drew.trans (hb5.mono zF))
       have T6:=(hb6.block w.heap.size (Nat.lt_of_lt_of_le (bS T4).1 hb5.size)).trans ((hb5.block w.heap.size (bS T4).1).trans T4);clear c0 c1 d0 d1 T4;go_wp2_with fail
       go_meet
       exact⟨al,cl,rfl,hv6,T6,sD.trans (hb6.mono sD.size)⟩
     case rest =>
      obtain⟨al,cl,rfl,hv,hT,hbc⟩:=hcut;clear hb4 T4 c0 c1 HR HT HLV HKL
      obtain⟨wo,rfl⟩:∃ wo:World,wo=wc:=⟨_,rfl⟩
      have c0:wo.cell? ⟨w.heap.size,0,none⟩=some (.slice at_ ah.length ct):=by rw[aV hT];rfl
      obtain⟨ao,cp,hvv,_,hvf⟩:=hv.form;simp only[Value.slice.injEq] at hvv;obtain⟨rfl,-,rfl⟩:=hvv;have HV:=ay hvf;clear hvf hv hT HL;go_wp2
      go_loopw [60] (fun q wr=>∃ j:Nat,j≤l.length∧q=.int .i64 j∧oL 0 l=oL j (l.drop j)∧wr=wo) (fun q _=>l.length - (intOf q).toNat)
      case atStart=>exact⟨0,lI _,rfl,rfl,rfl⟩
      case round =>
       obtain⟨j,hj,rfl,hcn,hwr⟩:=hrel;subst hwr
       by_cases hjl:j<l.length
       ·obtain⟨b,off,rfl,hb,hc⟩:=HV.out (by omega)
        have hx:=hc j hjl;rw[List.drop_eq_getElem_cons hjl,oL] at hcn
        have JZ:(j:Int)<(l.length:Int):=by omega
        generalize l[j]=x at hx hcn;clear hc
        by_cases hxe:(j:Int)=x
        ·subst hxe
         rw[iX rfl,Bool.true_and] at hcn;have HC:=ay hcn;clear hcn;go_wp2;exact⟨⟨j+1,by omega,by go_num,HC.out,(by first|trivial|rfl)⟩,by simp[intOf];omega⟩
        ·rw[dA hxe,Bool.false_and] at hcn
         have HC:=ay hcn
         have hne:((j:Int) == x)=false:=by simp[hxe]
         clear hcn;go_wp2;go_ret;exact⟨aT (by rw[HRB.out,HC.out];rfl),hbc⟩
       ·obtain rfl:j=l.length:=by omega
        have JZ:decide ((l.length:Int)<(l.length:Int))=false:=dA (by omega);rw[List.drop_length,oL] at hcn;have HC:=ay hcn;clear hcn;go_wp2;go_ret;refine⟨aT ?_,hbc⟩;rw[HRB.out,HC.out,Bool.true_and];exact decide_eq_decide.2 (by omega)
def KA (B' b:Nat)(acc:List UInt8)(w:World)(e:Ending)(w':World):Prop:=e=.returned (.tuple #[])∧jY B' b acc w'∧Below B' w w'∧Lib.OthersKept 5 (some b) w w'
def YL (B B' b:Nat)(tv nv:Value)(ah:List Tok)(aj:List Nd)(g:Nat):Prop:=∀ (n:Int) (s acc:List UInt8) (w:World),aZ B w (.agg #[tv,nv]) ah aj→B≤B'→jY B' b acc w→B'≤w.heap.size→uP ah aj g n=some s→acc.length+s.length≤1099511627776 →
 Calls Tryz.prog 171 #[.agg #[tv,nv],.pointer (some ⟨b,0,none⟩),.int .i64 n] w (KA B' b (acc++s) w)
theorem YM (i:Nat)(h:i<100)(w:World):Calls Tryz.prog 234 #[.int .i64 i] w fun e w'=>e=.returned (.string ⟨(gN i).toArray⟩)∧w'=w:=by
 rw[← QY];exact Tryz.strconv_Itoa_small i h w
theorem bW {w:World}{b:Nat}{x y:Value}(h:w.heap[b]?=some (.cells #[x,y] 81 (0,0))):w.cell? ⟨b,0,none⟩=some x∧w.cell? ⟨b,1,none⟩=some y:=by
 constructor<;>(rw[aV h];rfl)
theorem Ri (B B' b:Nat)(tv nv:Value)(ah:List Tok)(aj:List Nd)(k u:Nat)(ks:List Int)(acc:List UInt8)(w:World)(h:aZ B w (.agg #[tv,nv]) ah aj)(mM:B≤B')(hbd:jY B' b acc w)(hB:B'≤w.heap.size)
  (hn:aj[k]?=some ⟨19,(u:Nat),ks⟩) (hu:u<ah.length) (hlen:acc.length+(oW ah[u]).length≤1099511627776) :
  Calls Tryz.prog 171 #[.agg #[tv,nv],.pointer (some ⟨b,0,none⟩),.int .i64 k] w (KA B' b (acc++oW ah[u]) w):=by
 obtain⟨hi,hni⟩:=pJ hn;obtain⟨bn,off,cap,kv,rfl,hbn,x0,x1,x2,hkv⟩:=h.node hi;obtain⟨b2,off2,cap2,rfl,hb2,t0,t1,t2,t3⟩:=h.tok hu;obtain⟨uU,uV,rfl,-,-⟩:=hkv.form;rw[hni] at x0 x1 x2;simp only at x0 x1 x2;generalize hkl:ks.length=kl at x2;generalize ah[u]=t at t0 t1 t2 t3 hlen;obtain⟨c,x,y,q⟩:=t;simp only[dJ] at t0 t1 t2 t3;obtain⟨X,rfl,eX⟩:=jq x;obtain⟨Y,rfl,eY⟩:=jq y;rw[eX] at t1;rw[eY] at t2;have hal:=(bI w.heap.size w).alloc (bD _) (.cells #[.slice (some ⟨b2,off2,none⟩) ah.length cap2,.slice (some ⟨bn,off,none⟩) aj.length cap] 81);have cB:=hal.alloc (by simp) (.cells #[.int .i64 19,.int .i64 (u:Nat),.slice uU kl uV] 129);have gW:=cB.alloc (by simp;omega) (.cells #[.int .i64 c,.string X,.string Y,.int .i64 q] 131);have hb3:=((hbd.alloc (.cells #[.slice (some ⟨b2,off2,none⟩) ah.length cap2,.slice (some ⟨bn,off,none⟩) aj.length cap] 81)).alloc (.cells #[.int .i64 19,.int .i64 (u:Nat),.slice uU kl uV] 129)).alloc (.cells #[.int .i64 c,.string X,.string Y,.int .i64 q] 131);have gM:=(((Lib.OthersKept.refl 5 (some b) w).alloc (.cells #[.slice (some ⟨b2,off2,none⟩) ah.length cap2,.slice (some ⟨bn,off,none⟩) aj.length cap] 81)).alloc (.cells #[.int .i64 19,.int .i64 (u:Nat),.slice uU kl uV] 129)).alloc (.cells #[.int .i64 c,.string X,.string Y,.int .i64 q] 131);have x0':=(hal.cell (p:=⟨bn,off+k * 3,none⟩) (by show bn<_;omega)).trans x0;have x1':=(hal.cell (p:=⟨bn,off+k * 3+1,none⟩) (by show bn<_;omega)).trans x1;have x2':=(hal.cell (p:=⟨bn,off+k * 3+2,none⟩) (by show bn<_;omega)).trans x2;have y0:=(cB.cell (p:=⟨b2,off2+u * 4,none⟩) (by show b2<_;omega)).trans t0;have y1:=(cB.cell (p:=⟨b2,off2+u * 4+1,none⟩) (by show b2<_;omega)).trans t1;have y2:=(cB.cell (p:=⟨b2,off2+u * 4+2,none⟩) (by show b2<_;omega)).trans t2;have y3:=(cB.cell (p:=⟨b2,off2+u * 4+3,none⟩) (by show b2<_;omega)).trans t3
 have i1:(k:Int)<(aj.length:Int):=by omega
 have i2:(u:Int)<(ah.length:Int):=by omega
 simp only[oW,bN,aR] at hlen;clear t0 t1 t2 t3 x0 x1 x2 hn hni h hkv hal cB hi eX eY
 have hk4:((((w.alloc (.cells #[.slice (some ⟨b2,off2,none⟩) ah.length cap2,.slice (some ⟨bn,off,none⟩) aj.length cap] 81)).alloc (.cells #[.int .i64 19,.int .i64 (u:Nat),.slice uU kl uV] 129)).alloc (.cells #[.int .i64 c,.string X,.string Y,.int .i64 q] 131))).heap[w.heap.size+1+1]?=some (.cells #[.int .i64 c,.string X,.string Y,.int .i64 q] 131 (0,0)):=by
  have:=aY ((w.alloc (.cells #[.slice (some ⟨b2,off2,none⟩) ah.length cap2,.slice (some ⟨bn,off,none⟩) aj.length cap] 81)).alloc (.cells #[.int .i64 19,.int .i64 (u:Nat),.slice uU kl uV] 129)) (.cells #[.int .i64 c,.string X,.string Y,.int .i64 q] 131);rw[oP,oP] at this;exact this
 by_cases h5:c=5
 ·have h5I:((c:Int) == 5)=true:=by simp;omega
  rw[if_pos h5] at hlen;have H5:=ay h5;clear h5;simp only[dR,gX] at hlen;go_enter Tryz.func171,Tryz.ntmps171
  go_upto_region 6 with (go_at_call 74;refine(mG B' b acc ⟨#[36]⟩ _ hb3 (by show acc.length+1≤140737488355328;omega) (by simp;omega)).mono ?_;rintro e w4 ⟨rfl,hb4,hl4,MR⟩)
  have z4:=hb3.block MR hk4 (by decide) (by decide)
  have z2:w4.cell? ⟨w.heap.size+1+1,2,none⟩=some (.string Y):=by rw[aV z4];rfl
  have zF:=hl4.size;simp only[oP] at zF;clear z4 hb3 hk4;go_wp2_with (go_at_call 74;refine(mG B' b _ Y _ hb4 (by have e:(ByteArray.mk #[36]).data.toList.length=1:=rfl;rw[bN,e];omega) (by omega)).mono ?_;rintro e w5 ⟨rfl,hb5,hl5,ho5⟩)
  go_end0
  refine⟨rfl,?_,(gW.mono hB).trans (hl4.trans hl5),gM.trans (MR.trans ho5)⟩;rw[oW,if_pos H5.out,← nQ];exact hb5
 ·have h5I:((c:Int) == 5)=false:=by simp;omega
  rw[if_neg h5] at hlen;simp only[gX] at hlen;go_enter Tryz.func171,Tryz.ntmps171;go_wp2_with (go_at_call 74;(refine(mG B' b acc Y _ hb3 (by omega) (by simp;omega)).mono ?_;rintro e w4 ⟨rfl,hb4,hl4,MR⟩))
  go_end0
  refine⟨rfl,?_,(gW.mono hB).trans hl4,gM.trans MR⟩;rw[oW,if_neg h5,qc];exact hb4
theorem Rj (B B' b:Nat)(tv nv:Value)(ah:List Tok)(aj:List Nd)(g k kd:Nat)(tk:Int)(ks:List Int)(s acc:List UInt8)(w:World)(h:aZ B w (.agg #[tv,nv]) ah aj)(mM:B≤B')(hbd:jY B' b acc w)(hB:B'≤w.heap.size)
  (IH:YL B B' b tv nv ah aj g) (hn:aj[k]?=some ⟨kd,tk,ks⟩) (hkd:kd<100) (aeN:kd≠19) (hks:ks.length≤1000000) (hs:nC (uP ah aj g) ks=some s) (hlen:acc.length+([40]++gN kd++s++[41]).length≤1099511627776) :
  Calls Tryz.prog 171 #[.agg #[tv,nv],.pointer (some ⟨b,0,none⟩),.int .i64 k] w (KA B' b (acc++([40]++gN kd++s++[41])) w):=by
 obtain⟨hi,hni⟩:=pJ hn;obtain⟨at_,ct,an,cn,hv⟩:=h.slices;obtain⟨bn,off,cap,kv,rfl,hbn,x0,x1,x2,hkv⟩:=h.node hi;simp only[Value.agg.injEq,Array.mk.injEq,List.cons.injEq,and_true] at hv;obtain⟨rfl,-⟩:=hv;obtain⟨uU,uV,rfl,-,xS⟩:=hkv.form;rw[hni] at x0 x1 x2 xS;simp only at x0 x1 x2 xS;have hal:=(bI w.heap.size w).alloc (bD _) (.cells #[.slice at_ ah.length ct,.slice (some ⟨bn,off,none⟩) aj.length cap] 81);have cB:=hal.alloc (by simp) (.cells #[.int .i64 kd,.int .i64 tk,.slice uU ks.length uV] 129);have hb2:=(hbd.alloc (.cells #[.slice at_ ah.length ct,.slice (some ⟨bn,off,none⟩) aj.length cap] 81)).alloc (.cells #[.int .i64 kd,.int .i64 tk,.slice uU ks.length uV] 129);have hk2:=((Lib.OthersKept.refl 5 (some b) w).alloc (.cells #[.slice at_ ah.length ct,.slice (some ⟨bn,off,none⟩) aj.length cap] 81)).alloc (.cells #[.int .i64 kd,.int .i64 tk,.slice uU ks.length uV] 129);have x0':=(hal.cell (p:=⟨bn,off+k * 3,none⟩) (by show bn<_;omega)).trans x0;have x1':=(hal.cell (p:=⟨bn,off+k * 3+1,none⟩) (by show bn<_;omega)).trans x1;have x2':=(hal.cell (p:=⟨bn,off+k * 3+2,none⟩) (by show bn<_;omega)).trans x2
 have i1:(k:Int)<(aj.length:Int):=by omega
 have pR:((kd:Int) == 19)=false:=by simp;omega
 have e2:=aY (w.alloc (.cells #[.slice at_ ah.length ct,.slice (some ⟨bn,off,none⟩) aj.length cap] 81)) (.cells #[.int .i64 kd,.int .i64 tk,.slice uU ks.length uV] 129);rw[oP] at e2;have e1:=(gY (w.alloc (.cells #[.slice at_ ah.length ct,.slice (some ⟨bn,off,none⟩) aj.length cap] 81)) (.cells #[.int .i64 kd,.int .i64 tk,.slice uU ks.length uV] 129) w.heap.size (by simp)).trans (aY w (.cells #[.slice at_ ah.length ct,.slice (some ⟨bn,off,none⟩) aj.length cap] 81));obtain⟨DG,hDG,eDG⟩:=jq (gN kd)
 have HIT:Hid (∀ W,Calls Tryz.prog 234 #[.int .i64 kd] W fun e w'=>e=.returned (.string DG)∧w'=W):=ay fun W=>(YM kd hkd W).mono fun e w' h=>⟨by rw[h.1,← hDG,← eDG,← hDG],h.2⟩
 rw[← hDG] at hlen ⊢;simp only[bN,aR,dR,gX] at hlen;have HT:=ay h;have HKF:=ay xS;have HS:=ay hs
 have hD0:(ByteArray.mk #[40]++DG).data.toList=[40]++DG.data.toList:=by simp
 clear x0 x1 x2 hn hni h hkv hal hi xS aeN hkd hDG eDG hs hbd;go_enter Tryz.func171,Tryz.ntmps171
 go_upto_region 8 with (first|(go_at_call 234;refine(HIT.out _).mono ?_;rintro e w3 ⟨rfl,rfl⟩)|(go_at_call 74;refine(mG B' b acc (ByteArray.mk #[40]++DG) _ hb2 (by rw[← aR,hD0];simp;omega) (by simp;omega)).mono ?_;rintro e w4 ⟨rfl,hb4,hl4,MR⟩))
 have YD:Below B' w w4:=(cB.mono hB).trans hl4;have hk4:=hk2.trans MR;have T4:=hb2.block MR e1 (by decide) (by decide);have N4:=hb2.block MR e2 (by decide) (by decide)
 have q2:w4.cell? ⟨w.heap.size+1,2,none⟩=some (.slice uU ks.length uV):=by rw[aV N4];rfl
 rw[hD0] at hb4;clear hb2 hl4 MR e1 e2 N4 hk2 cB HIT hD0 x0' x1' x2' i1 pR;have hab:(acc++([40]++DG.data.toList))++s=acc++([40]++DG.data.toList)++s:=rfl;generalize hA:acc++([40]++DG.data.toList)=A at hb4 hab
 have hAl:A.length+s.length+1≤1099511627776:=by
  rw[← hA];simp only[bN,aR,dR,gX];omega
 have HA:Hid (acc++([40]++DG.data.toList++s++[41])=A++s++[41]):=ay (by rw[← hA];simp);clear hA hlen hab;go_wp2
 go_loopw [42] (fun q wr=>∃ (j:Nat) (a r:List UInt8),j≤ks.length∧q=.int .i64 j∧nC (uP ah aj g) (ks.drop j)=some r∧a++r=A++s∧jY B' b a wr∧wr.heap[w.heap.size]?=some (.cells #[.slice at_ ah.length ct,.slice (some ⟨bn,off,none⟩) aj.length cap] 81 (0,0))∧Below B' w wr∧Lib.OthersKept 5 (some b) w wr) (fun q _=>ks.length - (intOf q).toNat)
 case atStart=>exact⟨0,A,s,lI _,rfl,HS.out,rfl,hb4,T4,YD,hk4⟩
 case round =>
  obtain⟨j,a,r,hj,rfl,hr,har,hbd,hT,hbl,hok⟩:=hrel;have hz:=hbl.size;have ahy:=(bS hT).1;have hal:=congrArg List.length har;rw[bN,bN] at hal;obtain⟨c0,c1⟩:=bW hT
  by_cases hjl:j<ks.length
  ·obtain⟨bk,abJ,rfl,hbk,hcell⟩:=HKF.out (by omega)
   have hx:=(hbl.cell (p:=⟨bk,abJ+j,none⟩) (by show bk<_;omega)).trans (hcell j hjl);rw[List.drop_eq_getElem_cons hjl,nC] at hr;generalize ks[j]=k1 at hx hr;obtain⟨s1,h1,hr⟩:=cK hr;obtain⟨s2,h2,hr⟩:=cK hr
   injection hr with hr
   rw[← hr] at har hal;simp only[bN,dR,gX] at hal
   have JZ:(j:Int)<(ks.length:Int):=by omega
   have H2:=ay h2;have HR:Hid (a++[32]++s1++s2=A++s):=ay (by rw[← har];simp);have HT1:=ay (fun W (hW:Below B' w W)=>(HT.out.below (hW.mono mM)));have H1:=ay h1;have Tm:=ay hT;clear hcell hr har h1 h2 hT
   go_upto_region 12 with (go_at_call 74;refine(mG B' b a ⟨#[32]⟩ _ hbd (by show a.length+1≤140737488355328;omega) (by omega)).mono ?_;rintro e w5 ⟨rfl,hb5,hl5,ho5⟩)
   have T5:=hbd.block ho5 Tm.out (by decide) (by decide);obtain⟨d0,d1⟩:=bW T5;have SH:=hl5.size;have aeO:=hbl.trans hl5
   have hC:=IH k1 s1 _ w5 (HT1.out w5 aeO) mM hb5 (by omega) H1.out (by
    rw[bN];have e:(ByteArray.mk #[32]).data.toList.length=1:=rfl;rw[e]
    omega)
   have HC:=ay hC;have agd:=hok.trans ho5;have HB5:=ay hb5;clear hC c0 c1 hbd hl5 ho5 hok hb5;go_wp2_with (go_at_call 171;refine HC.out.mono ?_;rintro e w6 ⟨rfl,hb6,hl6,ho6⟩);refine⟨⟨j+1,_,s2,by omega,by go_num,H2.out,HR.out,hb6,?_,aeO.trans hl6,agd.trans ho6⟩,by simp[intOf];omega⟩;exact HB5.out.block ho6 T5 (by decide) (by decide)
  ·obtain rfl:j=ks.length:=by omega
   have JZ:decide ((ks.length:Int)<(ks.length:Int))=false:=dA (by omega);rw[List.drop_length,nC] at hr
   injection hr with hr
   rw[← hr,List.append_nil] at har;have HR:=ay har;clear hr har HS;go_wp2_with (go_at_call 74;refine(mG B' b a ⟨#[41]⟩ _ hbd (by show a.length+1≤140737488355328;omega) (by omega)).mono ?_;rintro e w5 ⟨rfl,hb5,hl5,ho5⟩)
   go_end0
   refine⟨rfl,?_,hbl.trans hl5,hok.trans ho5⟩;show jY B' b (acc++([40]++DG.data.toList++s++[41])) w5;rw[HA.out,← HR.out];exact hb5
structure Cw (ah:List Tok) (aj:List Nd) (D:List UInt8):Prop where
 pos:0<aj.length
 few:aj.length≤1000000
 aA:∀ n∈aj,n.aA.length≤1000000
 Vr:ah.length≤1000000
 right:lU ah.length aj (vG 0 ah.length)=true
 leaves:fQ aj (aj.length+1) [((aj.length:Nat):Int) - 1] []=some (vG 0 ah.length)
 dump:uP ah aj aj.length ((aj.length:Int) - 1)=some D
 agf:D.length≤1099511627776
 kinds:∀ n∈aj,0≤n.kind∧n.kind<100
 leafs:∀ n∈aj,n.kind=19→0≤n.tok∧n.tok<(ah.length:Int)
theorem Je {ah:List Tok}{aj:List Nd}{D:List UInt8}(G:Cw ah aj D)(B B' b:Nat)(tv nv:Value):∀ g,YL B B' b tv nv ah aj g
 | 0=>fun n s acc w h mM hbd hB hs hlen=>by rw[uP] at hs;cases hs
 | g+1=>fun n s acc w h mM hbd hB hs hlen=>by
  rw[uP] at hs
  by_cases h0:n<0
  ·rw[if_pos h0] at hs;cases hs
  rw[if_neg h0] at hs
  obtain⟨k,rfl⟩:∃ k:Nat,n=(k:Int):=⟨n.toNat,by omega⟩
  rw[Int.toNat_natCast] at hs
  cases hn:aj[k]? with
  | none=>rw[hn] at hs;cases hs
  | some x =>
   rw[hn] at hs;simp only at hs;have hm:=List.mem_of_getElem? hn;obtain⟨kind,tok,ks⟩:=x;have hkd:=G.kinds _ hm;simp only at hkd hs
   by_cases h19:kind=19
   ·rw[if_pos h19] at hs
    subst h19;have hl:=G.leafs _ hm rfl;simp only at hl;rw[if_neg (by omega)] at hs
    obtain⟨u,rfl⟩:∃ u:Nat,tok=(u:Int):=⟨tok.toNat,by omega⟩
    have hul:u<ah.length:=by omega
    rw[Int.toNat_natCast,yV hul,Option.map_some] at hs
    injection hs with hs
    subst hs;exact Ri B B' b tv nv ah aj k u ks acc w h mM hbd hB hn hul hlen
   ·rw[if_neg h19] at hs
    obtain⟨kd,rfl⟩:∃ kd:Nat,kind=(kd:Int):=⟨kind.toNat,by omega⟩
    rw[Int.toNat_natCast] at hs;obtain⟨r,hr,rfl⟩:=Option.map_eq_some_iff.1 hs;exact Rj B B' b tv nv ah aj g k kd tok ks r acc w h mM hbd hB (Je G B B' b tv nv g) hn (by omega) (by omega) (G.aA _ hm) hr hlen
def aeP:Array Value:=#[.int .i64 6,.int .i64 6,.int .i64 7,.string ⟨#[43]⟩,.int .i64 6,.int .i64 6,.int .i64 7,.string ⟨#[45]⟩,.int .i64 7,.int .i64 7,.int .i64 8,.string ⟨#[42]⟩,.int .i64 7,.int .i64 7,.int .i64 8,.string ⟨#[47]⟩,.int .i64 7,.int .i64 7,.int .i64 8,.string ⟨#[37]⟩,.int .i64 5,.int .i64 6,.int .i64 6,.string ⟨#[61]⟩,.int .i64 5,.int .i64 6,.int .i64 6,.string ⟨#[60,62]⟩,.int .i64 5,.int .i64 6,.int .i64 6,.string ⟨#[60]⟩,.int .i64 5,.int .i64 6,.int .i64 6,.string ⟨#[60,61]⟩,.int .i64 5,.int .i64 6,.int .i64 6,.string ⟨#[62]⟩,.int .i64 5,.int .i64 6,.int .i64 6,.string ⟨#[62,61]⟩,.int .i64 3,.int .i64 3,.int .i64 4,.string ⟨#[38,38]⟩,.int .i64 2,.int .i64 2,.int .i64 3,.string ⟨#[124,124]⟩,.int .i64 1,.int .i64 2,.int .i64 1,.string ⟨#[61,62]⟩]
theorem Vs:∀ k:Nat,k<14→∀ w:World,(Instr.index 309 (.agg aeP) (.int .i64 k)).run Tryz.prog w=.ok (.agg #[.int .i64 (Ip ((k+7:Nat):Int)),.int .i64 (vP ((k+7:Nat):Int)),.int .i64 (zG ((k+7:Nat):Int)),.string ⟨(sZ ((k+7:Nat):Int)).toArray⟩]) w
 | 0,_=>fun _=>by kernel_rfl
 | 1,_=>fun _=>by kernel_rfl
 | 2,_=>fun _=>by kernel_rfl
 | 3,_=>fun _=>by kernel_rfl
 | 4,_=>fun _=>by kernel_rfl
 | 5,_=>fun _=>by kernel_rfl
 | 6,_=>fun _=>by kernel_rfl
 | 7,_=>fun _=>by kernel_rfl
 | 8,_=>fun _=>by kernel_rfl
 | 9,_=>fun _=>by kernel_rfl
 | 10,_=>fun _=>by kernel_rfl
 | 11,_=>fun _=>by kernel_rfl
 | 12,_=>fun _=>by kernel_rfl
 | 13,_=>fun _=>by kernel_rfl
 | k+14,h=>absurd h (by omega)
theorem Tn (op:Int)(h1:7≤op)(h2:op≤20)(w:World):Calls Tryz.prog 204 #[.int .i64 op] w fun r w'=>r=.returned (.agg #[.int .i64 (Ip op),.int .i64 (vP op),.int .i64 (zG op),.string ⟨(sZ op).toArray⟩])∧Below w.heap.size w w':=by
 have hx:=Vs (op - 7).toNat (by omega);rw[show (((op - 7).toNat:Nat):Int)=op - 7 by omega,show ((((op - 7).toNat+7:Nat)):Int)=op by omega] at hx;unfold aeP at hx;generalize Ip op=a at *;generalize vP op=b at *;generalize zG op=c at *;generalize ByteArray.mk (sZ op).toArray=d at *;go_enter Tryz.func204,Tryz.ntmps204;go_wp2;refine bodyPost_ret (v:=.agg #[.int .i64 a,.int .i64 b,.int .i64 c,.string d]) (by simp[results,Tryz.results204,go_sem]) rfl ⟨rfl,?_⟩;exact aB w _
theorem Rk (a b c d:Value)(w:World):(Instr.field 271 (.agg #[a,b,c,d]) 0).run Tryz.prog w=.ok a w:=by kernel_rfl
theorem Vt (op:Int)(NM MD:ByteArray)(ng:Bool)(am:Option Addr)(wn cm:Nat)(ys:Bool)(ae:Option Addr)(wk ce:Nat)(a_:Int)(w:World) :
  Calls Tryz.prog 254 #[.agg #[.int .i64 op,.string NM,.string MD,.bool ng,.slice am wn cm,.bool ys,.slice ae wk ce,.int .i64 a_]] w fun r w'=>r=.returned (.int .i64 (Ip op))∧Below w.heap.size w w':=by
 have aeQ:∀ W,Calls Tryz.prog 287 #[.int .i64 op] W fun r w'=>r=.returned (.bool (decide (7≤op) && decide (op≤20)))∧W=w':=fun W=>by
  by_cases h7:7≤op
  ·rw[iX h7,Bool.true_and]
   go_enter Tryz.func287,Tryz.ntmps287;go_wp2;go_ret;exact⟨rfl,rfl⟩
  ·rw[dA h7,Bool.false_and]
   have h7':op<7:=by omega
   go_enter Tryz.func287,Tryz.ntmps287;go_wp2;go_ret;exact⟨rfl,rfl⟩
 have HBn:=ay aeQ;clear aeQ;have hb0:=aB w (.cells (aQ op NM MD ng (.slice am wn cm) ys (.slice ae wk ce) a_) 64)
 by_cases h:7≤op∧op≤20
 ·have HT:=ay (fun W=>Tn op h.1 h.2 W)
  have HB:Hid (∀ W,Calls Tryz.prog 287 #[.int .i64 op] W fun r w'=>r=.returned (.bool true)∧W=w'):=ay fun W=>(HBn.out W).mono fun r w' q=>⟨by rw[q.1,iX h.1,iX h.2];rfl,q.2⟩
  clear HBn h;have tf:=Rk;generalize Ip op=l at *;go_enter Tryz.func254,Tryz.ntmps254;go_wp2_with (first|(go_at_call 287;refine(HB.out _).mono ?_;rintro r w' ⟨rfl,rfl⟩)|(go_at_call 204;refine(HT.out _).mono ?_;rintro r w1 ⟨rfl,hb1⟩));go_ret;exact⟨rfl,hb0.trans (hb1.mono hb0.size)⟩
 ·have HB:Hid (∀ W,Calls Tryz.prog 287 #[.int .i64 op] W fun r w'=>r=.returned (.bool false)∧W=w'):=ay fun W=>(HBn.out W).mono fun r w' q=>⟨by
   rw[q.1]
   by_cases h7:7≤op
   ·rw[dA (by omega:¬ op≤20),Bool.and_false]
   ·rw[dA h7,Bool.false_and],q.2⟩
  clear HBn
  have hl:Ip op=if op=5 then 8 else if op=6 then 4 else if 21≤op∧op≤23 then 0 else 9:=by
   unfold Ip
   repeat' (first|omega|split)
  rw[hl];clear hl
  by_cases h5:op=5
  ·subst h5
   clear h;go_enter Tryz.func254,Tryz.ntmps254;go_wp2_with (go_at_call 287;refine(HB.out _).mono ?_;rintro r w' ⟨rfl,rfl⟩);go_ret;exact⟨rfl,hb0⟩
  by_cases h6:op=6
  ·subst h6
   clear h h5;go_enter Tryz.func254,Tryz.ntmps254;go_wp2_with (go_at_call 287;refine(HB.out _).mono ?_;rintro r w' ⟨rfl,rfl⟩);go_ret;exact⟨rfl,hb0⟩
  rw[if_neg h5,if_neg h6];have t5:(op == 5)=false:=BU.2 h5;have t6:(op == 6)=false:=BU.2 h6
  by_cases h21:21≤op∧op≤23
  ·rw[if_pos h21]
   obtain⟨u1,u2⟩:=h21;clear h h5 h6;go_enter Tryz.func254,Tryz.ntmps254;go_wp2_with (go_at_call 287;refine(HB.out _).mono ?_;rintro r w' ⟨rfl,rfl⟩);go_ret;exact⟨rfl,hb0⟩
  ·rw[if_neg h21]
   by_cases u1:21≤op
   ·have u2:23<op:=by omega
    clear h h5 h6 h21;go_enter Tryz.func254,Tryz.ntmps254;go_wp2_with (go_at_call 287;refine(HB.out _).mono ?_;rintro r w' ⟨rfl,rfl⟩);go_ret;exact⟨rfl,hb0⟩
   ·have u2:op<21:=by omega
    clear h h5 h6 h21 u1;go_enter Tryz.func254,Tryz.ntmps254;go_wp2_with (go_at_call 287;refine(HB.out _).mono ?_;rintro r w' ⟨rfl,rfl⟩);go_ret;exact⟨rfl,hb0⟩
def bQ (B' b:Nat)(acc:List UInt8)(w:World)(r:Ending)(w':World):Prop:=r=.returned (.tuple #[])∧jY B' b acc w' 151∧Below B' w w'∧Lib.OthersKept 5 (some b) w w'
def tN (l:List ByteArray):List UInt8:=l.flatMap fun s=>s.data.toList
theorem Vu {l:List ByteArray}{k:Nat}(h:k<l.length):tN (l.take (k+1))=tN (l.take k)++l[k].data.toList:=by
 unfold tN;rw[Dg h,List.flatMap_append,List.flatMap_singleton]
theorem abK (l:List ByteArray)(k:Nat):(tN (l.take k)).length≤(tN l).length:=by
 unfold tN
 conv=>rhs;rw[← List.take_append_drop k l,List.flatMap_append,bN]
 omega
theorem Bo (ss:List ByteArray)(B' b sb cap:Nat)(fr:Nat × Nat)(acc:List UInt8)(w:World)(hb:jY B' b acc w 151)(hs:w.heap[sb]?=some (.cells (ss.map Value.string).toArray 9 fr))(hB:B'≤w.heap.size)(hn:acc.length+(tN ss).length≤1099511627776)(hl:ss.length≤1000) :
  Calls Tryz.prog 123 #[.pointer (some ⟨b,0,none⟩),.slice (some ⟨sb,0,none⟩) ss.length cap] w (bQ B' b (acc++tN ss) w):=by
 have H0:Hid (jY B' b acc w 151):=ay hb;have HS:=ay hs;clear hb hs;go_enter Tryz.func123,Tryz.ntmps123;go_wp2
 go_loopw [8] (fun q wr=>∃ k:Nat,k≤ss.length∧q=.int .i64 k∧jY B' b (acc++tN (ss.take k)) wr 151∧Below B' w wr∧Lib.OthersKept 5 (some b) w wr) (fun q _=>ss.length - (intOf q).toNat)
 case atStart=>exact⟨0,lI _,rfl,by simpa [tN] using H0.out,bI _ _,Lib.OthersKept.refl _ _ _⟩
 case round =>
  obtain⟨k,hk,rfl,hbd,hbl,hok⟩:=hrel;have hz:=hbl.size
  by_cases hlt:k<ss.length
  ·have hS2:=H0.out.block hok HS.out (by decide) (by decide)
   have hx:wr.cell? ⟨sb,k,none⟩=some (.string ss[k]):=by
    rw[aV hS2];simp[hlt]
   have hts:=Vu hlt;have hle:=abK ss (k+1);rw[hts,bN,aR] at hle;have Lv:=ay hbd;have HTS:=ay hts;generalize ss[k]=S at hx hle HTS;generalize tN (ss.take k)=c at hle HTS Lv
   have hlen:(acc++c).length+S.size≤140737488355328:=by rw[bN];omega
   have hnc:(⟨b,0,none⟩:Addr).block<wr.heap.size:=Lv.out.lt
   have pR:(k:Int)<(ss.length:Int):=by omega
   clear hbd hts hS2 hle;go_wp2_with (go_at_call 74;refine(mG B' b (acc++c) S _ Lv.out hlen (by omega)).mono ?_;rintro r w2 ⟨rfl,hb2,hl2,ho2⟩);exact⟨⟨k+1,by omega,by go_num,by rw[HTS.out,← nQ];exact hb2,hbl.trans hl2,hok.trans ho2⟩,by simp[intOf];omega⟩
  ·obtain rfl:k=ss.length:=by omega
   have pR:decide ((ss.length:Int)<(ss.length:Int))=false:=dA (by omega);rw[List.take_length] at hbd;have Lv:=ay hbd;clear hbd;go_wp2
   go_end0
   exact⟨rfl,Lv.out,hbl,hok⟩
theorem qO {r:Option Nat}{w w':World}(hb:Below w.heap.size w w'):Lib.OthersKept 5 r w w':=fun k o hk _ _=>(hb.block k (bS hk).1).trans hk
structure iD (w:World) (B' b:Nat) (acc:List UInt8) (W:World):Prop where
 lu:jY B' b acc W 151
 kM:Below B' w W
 kept:Lib.OthersKept 5 (some b) w W
theorem jY.l7 {T:TypeId}{B b:Nat}{acc:List UInt8}{w w':World}(h:jY B b acc w T)(hb:Below w.heap.size w w'):jY B b acc w' T:=by
 have key:∀ p,Lib.BuilderAtF T 5 B b p (Lib.byteCells acc) w→Lib.BuilderAtF T 5 B b p (Lib.byteCells acc) w':=by
  rintro p ⟨h1,v,h2,⟨h3,h4⟩,h5⟩;refine⟨h1,v,(hb.block b h.lt).trans h2,⟨h3,?_⟩,h5⟩
  rcases h4 with h4|⟨g,cap,cur,fz,q1,q2,q3,q4⟩
  ·exact Or.inl h4
  ·exact Or.inr ⟨g,cap,cur,fz,q1,q2,(hb.block g (bS q3).1).trans q3,q4⟩
 rcases h with h|h
 ·exact Or.inl (key _ h)
 ·exact Or.inr (key _ h)
theorem iD.start {w:World}{B' b:Nat}{acc:List UInt8}(h:jY B' b acc w 151):iD w B' b acc w:=⟨h,bI _ _,Lib.OthersKept.refl _ _ _⟩
theorem iD.below {w W W':World}{B' b:Nat}{acc:List UInt8}(h:iD w B' b acc W)(hb:Below W.heap.size W W')(hB:B'≤w.heap.size):iD w B' b acc W' :=
 ⟨h.lu.l7 hb,h.kM.trans (hb.mono (jc hB h.kM.size)),h.kept.trans (qO hb)⟩
theorem iD.write {w W W':World}{B' b:Nat}{acc acc':List UInt8}{r:Ending}(h:iD w B' b acc W)(hw:bQ B' b acc' W r W'):iD w B' b acc' W':=⟨hw.2.1,h.kM.trans hw.2.2.1,h.kept.trans hw.2.2.2⟩
theorem iD.box {w W:World}{B' b k:Nat}{acc acc0:List UInt8}(h:iD w B' b acc W)(h0:jY B' b acc0 w 151){cs:Array Value}{T:TypeId}{fr:Nat × Nat}(hk:w.heap[k]?=some (.cells cs T fr))(hT:T≠151)(he:T≠5):W.heap[k]?=some (.cells cs T fr):=h0.block h.kept hk hT he
theorem bQ.from {w w1 W:World}{B' b:Nat}{acc:List UInt8}(hb:Below w.heap.size w w1)(hB:B'≤w.heap.size)(h:iD w1 B' b acc W):bQ B' b acc w (.returned (.tuple #[])) W :=
 ⟨rfl,h.lu,(hb.mono hB).trans h.kM,(qO hb).trans h.kept⟩
theorem bQ.eq {B' b:Nat}{acc:List UInt8}{w W:World}{r:Ending}(h:bQ B' b acc w r W):r=.returned (.tuple #[]):=h.1
theorem dO (S:ByteArray)(B' b:Nat)(acc:List UInt8)(w:World)(hb:jY B' b acc w 151)(hB:B'≤w.heap.size)(hn:acc.length+S.size≤1099511627776) :
  Calls Tryz.prog 123 #[.pointer (some ⟨b,0,none⟩),.slice (some ⟨w.heap.size,0,none⟩) 1 1] (w.alloc (.cells #[.string S] 9)) (bQ B' b (acc++S.data.toList) w):=by
 have hal:=aB w (.cells #[.string S] 9);have h:=Bo [S] B' b w.heap.size 1 (0,0) acc (w.alloc (.cells #[.string S] 9)) (hb.alloc _) (aY w _) (by simp;omega) (by simp[tN,aR];omega) (by simp);rw[show tN [S]=S.data.toList by simp[tN]] at h
 exact h.mono fun r w' q=>⟨q.1,q.2.1,(hal.mono hB).trans q.2.2.1,(qO hal).trans q.2.2.2⟩
theorem xg (S T:ByteArray)(B' b:Nat)(acc:List UInt8)(w:World)(hb:jY B' b acc w 151)(hB:B'≤w.heap.size)(hn:acc.length+S.size+T.size≤1099511627776) :
  Calls Tryz.prog 123 #[.pointer (some ⟨b,0,none⟩),.slice (some ⟨w.heap.size,0,none⟩) 2 2] (w.alloc (.cells #[.string S,.string T] 9)) (bQ B' b (acc++(S.data.toList++T.data.toList)) w):=by
 have hal:=aB w (.cells #[.string S,.string T] 9);have h:=Bo [S,T] B' b w.heap.size 2 (0,0) acc (w.alloc (.cells #[.string S,.string T] 9)) (hb.alloc _) (aY w _) (by simp;omega) (by simp[tN,aR];omega) (by simp);rw[show tN [S,T]=S.data.toList++T.data.toList by simp[tN]] at h
 exact h.mono fun r w' q=>⟨q.1,q.2.1,(hal.mono hB).trans q.2.2.1,(qO hal).trans q.2.2.2⟩
theorem xq (S T U:ByteArray)(B' b:Nat)(acc:List UInt8)(w:World)(hb:jY B' b acc w 151)(hB:B'≤w.heap.size)(hn:acc.length+S.size+T.size+U.size≤1099511627776) :
  Calls Tryz.prog 123 #[.pointer (some ⟨b,0,none⟩),.slice (some ⟨w.heap.size,0,none⟩) 3 3] (w.alloc (.cells #[.string S,.string T,.string U] 9)) (bQ B' b (acc++(S.data.toList++(T.data.toList++U.data.toList))) w):=by
 have hal:=aB w (.cells #[.string S,.string T,.string U] 9);have h:=Bo [S,T,U] B' b w.heap.size 3 (0,0) acc (w.alloc (.cells #[.string S,.string T,.string U] 9)) (hb.alloc _) (aY w _) (by simp;omega) (by simp[tN,aR];omega) (by simp);rw[show tN [S,T,U]=S.data.toList++(T.data.toList++U.data.toList) by simp[tN]] at h
 exact h.mono fun r w' q=>⟨q.1,q.2.1,(hal.mono hB).trans q.2.2.1,(qO hal).trans q.2.2.2⟩
def Rl (e:PZ):Prop:=∀ (B B' b:Nat) (am:Option Addr) (wn cm:Nat) (ae:Option Addr) (ce:Nat) (acc:List UInt8) (w:World),nL YA (fun k=>k<B) w (.slice am wn cm) (.slice ae e.aA.length ce) e→B≤B'→jY B' b acc w 151→B'≤w.heap.size→acc.length+e.text.length≤1099511627776 →
  Calls Tryz.prog 124 #[.pointer (some ⟨b,0,none⟩),.agg #[.int .i64 e.op,.string ⟨e.name.toArray⟩,.string ⟨e.module.toArray⟩,.bool (decide (e.num<0)),.slice am wn cm,.bool e.yes,.slice ae e.aA.length ce,.int .i64 e.at_]] w (bQ B' b (acc++e.text) w)
def Bq (e:PZ):Prop:=∀ (least:Int) (B B' b:Nat) (am:Option Addr) (wn cm:Nat) (ae:Option Addr) (ce:Nat) (acc:List UInt8) (w:World),nL YA (fun k=>k<B) w (.slice am wn cm) (.slice ae e.aA.length ce) e→B≤B'→jY B' b acc w 151→B'≤w.heap.size→acc.length+(rF least (e.op,e.text)).length≤1099511627776 →
  Calls Tryz.prog 201 #[.pointer (some ⟨b,0,none⟩),.agg #[.int .i64 e.op,.string ⟨e.name.toArray⟩,.string ⟨e.module.toArray⟩,.bool (decide (e.num<0)),.slice am wn cm,.bool e.yes,.slice ae e.aA.length ce,.int .i64 e.at_],.int .i64 least] w (bQ B' b (acc++rF least (e.op,e.text)) w)
theorem abL (e:PZ)(he:Rl e):Bq e:=by
 intro least B B' b am wn cm ae ce acc w h mM hbd hB hn;have hal:=aB w (.cells (aQ e.op ⟨e.name.toArray⟩ ⟨e.module.toArray⟩ (decide (e.num<0)) (.slice am wn cm) e.yes (.slice ae e.aA.length ce) e.at_) 64);have hN:=aY w (.cells (aQ e.op ⟨e.name.toArray⟩ ⟨e.module.toArray⟩ (decide (e.num<0)) (.slice am wn cm) e.yes (.slice ae e.aA.length ce) e.at_) 64);have hb1:=hbd.l7 hal
 have hlv:=fun W=>Vt e.op ⟨e.name.toArray⟩ ⟨e.module.toArray⟩ (decide (e.num<0)) am wn cm e.yes ae e.aA.length ce e.at_ W
 have HLV:=ay hlv;have HE:=ay (fun (acc':List UInt8) (W:World) (hW:Below B' w W) (hb:jY B' b acc' W 151) (hn':acc'.length+e.text.length≤1099511627776)=>he B B' b am wn cm ae ce acc' W (h.frame (aW.ru hW (fun k hk=>by omega))) mM hb (jc hB hW.size) hn')
 have hp:rF least (e.op,e.text)=if Ip e.op<least then [40]++e.text++[41] else e.text:=rfl
 have HP:=ay hp;clear h he hbd hlv hp;generalize rF least (e.op,e.text)=out at *;generalize e.text=tx at *;generalize decide (e.num<0)=ng at *;generalize e.op=op at *;generalize Ip op=lv at *;have xH:=hal.mono hB
 by_cases hl:lv<least
 ·have HO:Hid (out=[40]++tx++[41]):=ay (by rw[HP.out,if_pos hl])
  have hln:acc.length+1+tx.length+1≤1099511627776:=by
   have:=congrArg List.length HO.out;simp only[bN,dR,gX] at this;omega
  clear HP hn;go_enter Tryz.func201,Tryz.ntmps201
  go_upto_region 1 with fail
  change Code.wp _ _ _ _ (w.alloc (.cells (aQ op ⟨e.name.toArray⟩ ⟨e.module.toArray⟩ ng (.slice am wn cm) e.yes (.slice ae e.aA.length ce) e.at_) 64));generalize w.alloc _=w1 at hal hN hb1 xH ⊢;have hB1:=jc hB hal.size;obtain⟨y0,y1,y2,y3,y4,y5,y6,y7⟩:=aI hN;have hl1:=(bS hN).1
  go_upto_region 3 with (go_at_call 254;refine(HLV.out _).mono ?_;rintro r w2 ⟨rfl,hb2⟩)
  have s2:=(iD.start hb1).below hb2 hB1;have hz2:=s2.kM.size;clear y0 y1 y2 y3 y4 y5 y6 y7
  go_upto_region 4 with (go_at_call 123;refine(dO ⟨#[40]⟩ B' b acc w2 s2.lu (by omega) (by show acc.length+1≤_;omega)).mono ?_;rintro r w3 h3;obtain rfl:=h3.eq)
  have s3:=s2.write h3;have hz3:=s3.kM.size;obtain⟨y0,y1,y2,y3,y4,y5,y6,y7⟩:=aI (s3.box hb1 hN (by decide) (by decide));have HE3:=ay (HE.out (acc++[40]) w3 (xH.trans s3.kM) s3.lu (by rw[bN];simp;omega))
  go_upto_region 5 with (go_at_call 124;refine HE3.out.mono ?_;rintro r w4 h4;obtain rfl:=h4.eq)
  have s4:=s3.write h4;have zF:=s4.kM.size;clear y0 y1 y2 y3 y4 y5 y6 y7;go_wp2_with (go_at_call 123;refine(dO ⟨#[41]⟩ B' b (acc++[40]++tx) w4 s4.lu (by omega) (by show (acc++[40]++tx).length+1≤_;simp;omega)).mono ?_;rintro r w5 h5;obtain rfl:=h5.eq)
  go_end0
  have:=bQ.from hal hB (s4.write h5)
  rw[HO.out]
  simpa [nQ] using this
 ·have HO:Hid (out=tx):=ay (by rw[HP.out,if_neg hl])
  have hln:acc.length+tx.length≤1099511627776:=by rw[← HO.out];exact hn
  have hl':least≤lv:=by omega
  clear HP hn hl;go_enter Tryz.func201,Tryz.ntmps201
  go_upto_region 1 with fail
  change Code.wp _ _ _ _ (w.alloc (.cells (aQ op ⟨e.name.toArray⟩ ⟨e.module.toArray⟩ ng (.slice am wn cm) e.yes (.slice ae e.aA.length ce) e.at_) 64));generalize w.alloc _=w1 at hal hN hb1 xH ⊢;have hB1:=jc hB hal.size;obtain⟨y0,y1,y2,y3,y4,y5,y6,y7⟩:=aI hN
  go_upto_region 2 with (go_at_call 254;refine(HLV.out _).mono ?_;rintro r w2 ⟨rfl,hb2⟩)
  have s2:=(iD.start hb1).below hb2 hB1;clear y0 y1 y2 y3 y4 y5 y6 y7;obtain⟨y0,y1,y2,y3,y4,y5,y6,y7⟩:=aI (s2.box hb1 hN (by decide) (by decide));have HE3:=ay (HE.out acc w2 (xH.trans s2.kM) s2.lu hln);go_wp2_with (go_at_call 124;refine HE3.out.mono ?_;rintro r w4 h4;obtain rfl:=h4.eq)
  go_end0
  rw[HO.out]
  exact bQ.from hal hB (s2.write h4)
