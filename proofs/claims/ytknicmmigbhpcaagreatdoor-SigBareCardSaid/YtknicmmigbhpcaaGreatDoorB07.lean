/- Walks and plain laws: ParseW1, ParseW2, ParseW3, ParseW4, ParseW5, ParseLaws2. -/
import Derived.Test.YtknicmmigbhpcaaGreatDoorB06
set_option maxHeartbeats 16000000
set_option maxRecDepth 100000
set_option linter.unusedVariables false
set_option linter.unusedSimpArgs false
namespace Go.Proofs.YtknicmmigbhpcaaGreatDoor
open Go.RowKit
theorem Kb.adI {B bb:Nat}{w:World}{cs:Array Value}{fr:Nat × Nat}(h:w.heap[bb]?=some (.cells cs 245 fr))(hB:B≤bb)(i:Nat)(u:Value):Kb B w (w.setCell ⟨bb,i,none⟩ u):=by
 refine⟨(Below.refl _ _).setCell hB u,fun k cs' T fr' h0 q1 _=>?_⟩;rw[heap_setCell_other]
 ·exact h0
 ·show k≠bb
  rintro rfl;rw[h] at h0;simp only[Option.some.injEq,Obj.cells.injEq] at h0;exact q1 h0.2.1.symm
theorem BW.kb {R:List Nat}{B bb:Nat}{tv:Value}{used:Nat}{nodes:List Nd}{w:World}(h:BW R B bb tv used nodes w):B≤bb:=h.1
theorem BW.Yt {R:List Nat}{B bb:Nat}{tv:Value}{used:Nat}{nodes:List Nd}{w:World}(h:BW R B bb tv used nodes w)(u:Nat):BW R B bb tv u nodes (w.setCell ⟨bb,2,none⟩ (.int .i64 u))∧Kb B w (w.setCell ⟨bb,2,none⟩ (.int .i64 u)):=by
 obtain⟨h1,nv,l,h2,h3,h4,h5⟩:=h;have hk:=Kb.adI h2 h1 2 (.int .i64 u);refine⟨⟨h1,nv,l,?_,h3,iG h4 (own_ne h4 h2 (by decide)) _,fun p hp=>(h5 p hp).kept hk.kp⟩,hk⟩;rw[heap_setCell_same w bb 2 _ _ _ h2]
 rfl
theorem BW.drewN {R:List Nat}{B bb:Nat}{tv:Value}{used:Nat}{nodes:List Nd}{w:World}(h:BW R B bb tv used nodes w)(n:Nat):BW R B bb tv used nodes (w.drewN n):=h.later (below_drewN (Below.refl _ _) n)
def rM (n used:Nat)(nodes:List Nd):Int × Nat × List Nd:=if used=n then (-1,used,nodes) else ((nodes.length:Nat),used+1,nodes++[⟨19,(used:Nat),[]⟩])
theorem Ui (R:List Nat)(B bb:Nat)(ao:Option Addr)(n cap used:Nat)(nodes:List Nd)(w:World)(hb:BW R B bb (.slice ao n cap) used nodes w)(hu:used≤n)(hn:n≤1099511627776)(hl:nodes.length+1≤1099511627776) :
  Calls Tryz.prog 167 #[.pointer (some ⟨bb,0,none⟩)] w (Ug R B bb (.slice ao n cap) (rM n used nodes).1 (rM n used nodes).2.1 (rM n used nodes).2.2 w):=by
 have hB:=hb.kb;have hlt:=hb.lt;have HB:=ah hb;obtain⟨h1,nv,l,h2,h3,h4,h5⟩:=hb
 have c0:w.cell? ⟨bb,0,none⟩=some (.slice ao n cap):=by rw[Lib.cell_of_heap h2];rfl
 have c2:w.cell? ⟨bb,2,none⟩=some (.int .i64 used):=by rw[Lib.cell_of_heap h2];rfl
 have hz:w.frozen? ⟨bb,2,none⟩=false:=by simp[World.frozen?,h2]
 clear h2 h3 h4 h5
 by_cases he:used=n
 ·have t1:((used:Int) == (n:Int))=true:=by rw[he,beq_iff_eq]
  have hq:rM n used nodes=(-1,used,nodes):=by rw[rM,if_pos he]
  rw[hq];clear hq;go_enter Tryz.func167,Tryz.ntmps167;go_wp2
  go_quiet (fail)
  go_wp2;go_ret;exact⟨rfl,HB.out.drewN _,Kb.of (below_drewN (Below.refl _ _) _) (by omega)⟩
 ·have t1:((used:Int) == (n:Int))=false:=by rw[← Bool.not_eq_true,beq_iff_eq];omega
  have hq:rM n used nodes=(((nodes.length:Nat):Int),used+1,nodes++[⟨19,(used:Nat),[]⟩]):=by rw[rM,if_neg he]
  rw[hq]
  have hnil:∀ w,nV R w (.slice none 0 0) []:=fun w=>⟨⟨none,0,rfl,Nat.le_refl _,fun h=>absurd h (by simp)⟩,fun _ _ _ _ h=>by cases h⟩
  have HN:=ah hnil;clear hq hnil;go_enter Tryz.func167,Tryz.ntmps167;go_wp2
  go_quiet (fail)
  go_wp2_with fail;have hbd:=HB.out.drewN nq;obtain⟨hs1,hs2⟩:=hbd.Yt (used+1)
  have e2:((used:Int)+1)=((used+1:Nat):Int):=by omega
  rw[e2];clear e2;have hk0:Kb B w (w.drewN nq):=Kb.of (below_drewN (Below.refl _ _) _) (by omega);generalize (w.drewN nq).setCell ⟨bb,2,none⟩ (.int .i64 (used+1:Nat))=w4 at hs1 hs2 ⊢;refine(Pk R B bb _ (used+1) nodes 19 used _ [] w4 hs1 (HN.out _) hl).mono ?_;rintro e w5 ⟨rfl,hb5,hk5⟩;go_wp2;go_ret;exact⟨rfl,hb5,(hk0.trans hs2).trans hk5⟩
def G5 (t:Tok):Value:=.agg #[.int .i64 t.kind,.string ⟨t.lead.toArray⟩,.string ⟨t.text.toArray⟩,.int .i64 t.place]
theorem Yu (toks:List Tok)(u:Nat)(h:0<toks.length):∃ (k:Nat) (hk:k<toks.length),k=min u (toks.length - 1)∧bP toks u=toks[k]:=by
 refine⟨min u (toks.length - 1),by omega,rfl,?_⟩;unfold bP;rw[List.getD_eq_getElem?_getD,List.getElem?_eq_getElem (by omega),Option.getD_some]
theorem wZ (R:List Nat)(B bb:Nat)(tv:Value)(toks:List Tok)(used:Nat)(nodes:List Nd)(w:World)(hb:BW R B bb tv used nodes w)(ht:Rec B w tv 4 bY toks)(h0:0<toks.length)(hu:used≤toks.length)(hn:toks.length≤1099511627776) :
  Calls Tryz.prog 174 #[.pointer (some ⟨bb,0,none⟩)] w fun e w'=>e=.returned (G5 (bP toks used))∧Below w.heap.size w w':=by
 obtain⟨h1,nv,l,h2,h3,h4,h5⟩:=hb;have hlt:=(bG h2).1;obtain⟨ao,cap,rfl,hcap,hf⟩:=ht.form (fun _=>rfl);obtain⟨b,off,rfl,hB,hcell⟩:=hf h0
 have c0:w.cell? ⟨bb,0,none⟩=some (.slice (some ⟨b,off,none⟩) toks.length cap):=by rw[Lib.cell_of_heap h2];rfl
 have c2:w.cell? ⟨bb,2,none⟩=some (.int .i64 used):=by rw[Lib.cell_of_heap h2];rfl
 obtain⟨k,hk,hkm,hp⟩:=Yu toks used h0;have hx0:=hcell k 0 _ hk rfl;have hx1:=hcell k 1 _ hk rfl;have hx2:=hcell k 2 _ hk rfl;have hx3:=hcell k 3 _ hk rfl;rw[hp];generalize toks[k]=t at hx0 hx1 hx2 hx3;obtain⟨c,x,y,q⟩:=t;simp only[Nat.add_zero] at hx0 hx1 hx2 hx3;have hal:=(Below.refl w.heap.size w).alloc (Nat.le_refl _) (.cells #[.int .i64 0,.string ⟨#[]⟩,.string ⟨#[]⟩,.int .i64 0] 136);have d0:=cell_later hal c0;have d2:=cell_later hal c2;have y0:=cell_later hal hx0;have y1:=cell_later hal hx1;have y2:=cell_later hal hx2;have y3:=cell_later hal hx3
 have hk0:(0:Int)<(toks.length:Int):=by omega
 have HKM:=ah hkm;clear hkm c0 c2 hx0 hx1 hx2 hx3 hcell hf ht h2 h3 h4 h5 hp;go_enter Tryz.func174,Tryz.ntmps174;go_wp2;have hnw:=heap_alloc_new w (.cells #[.int .i64 0,.string ⟨#[]⟩,.string ⟨#[]⟩,.int .i64 0] 136);generalize w.alloc _=w1 at hnw hal d0 d2 y0 y1 y2 y3 ⊢
 have hmin:min (used:Int) ((toks.length:Int) - 1)=(k:Int):=by have:=HKM.out;omega
 have w1':IntKind.i64.wrap ((toks.length:Int) - 1)=(toks.length:Int) - 1:=IntWalk.i64_in _ (by omega)
 have i1:(k:Int)<(toks.length:Int):=by omega
 go_still_tail 19,(by kernel_rfl)
 change wpList _ _ _ _ _ w1.drew;have Uj:=hal.drew;have vE:w1.drew.heap[w.heap.size]?=some (.cells #[.int .i64 0,.string ⟨#[]⟩,.string ⟨#[]⟩,.int .i64 0] 136 (0,0)):=hnw;generalize w1.drew=w2 at Uj vE ⊢
 have f0:w2.cell? ⟨w.heap.size,0,none⟩=some (.int .i64 0):=by rw[Lib.cell_of_heap vE];rfl
 have f1:w2.cell? ⟨w.heap.size,1,none⟩=some (.string ⟨#[]⟩):=by rw[Lib.cell_of_heap vE];rfl
 have f2:w2.cell? ⟨w.heap.size,2,none⟩=some (.string ⟨#[]⟩):=by rw[Lib.cell_of_heap vE];rfl
 have f3:w2.cell? ⟨w.heap.size,3,none⟩=some (.int .i64 0):=by rw[Lib.cell_of_heap vE];rfl
 have z0:∀ j,w2.frozen? ⟨w.heap.size,j,none⟩=false:=by intro j;simp[World.frozen?,vE]
 clear hnw vE hmin w1' i1 y0 y1 y2 y3 d0 d2;go_wp2;refine bodyPost_ret (v:=.agg #[.int .i64 c,.string ⟨x.toArray⟩,.string ⟨y.toArray⟩,.int .i64 q]) (by simp[results,Tryz.results174,go_sem,f0,f1,f2,f3]) rfl ⟨rfl,?_⟩;exact(((Uj.setCell (Nat.le_refl _) _).setCell (Nat.le_refl _) _).setCell (Nat.le_refl _) _).setCell (Nat.le_refl _) _
theorem dI.cells {w:World}{ao:Option Addr}{n cap:Nat}{ks:List Int}(h:dI w (.slice ao n cap) ks):n=ks.length∧(0<ks.length→∃ b off,ao=some ⟨b,off,none⟩∧∀ j,(hj:j<ks.length)→w.cell? ⟨b,off+j,none⟩=some (.int .i64 ks[j])):=by
 obtain⟨Tv,cap',hv,hc,hf⟩:=h
 injection hv with h1 h2 h3
 subst h1 h2 h3;refine⟨rfl,fun h0=>?_⟩;obtain⟨b,off,cs,fr,ha,hb,hj⟩:=hf h0;exact⟨b,off,ha,fun j hjl=>by rw[Lib.cell_of_heap hb];exact hj j hjl⟩
theorem dI.slice {w:World}{v:Value}{ks:List Int}(h:dI w v ks):∃ ao cap,v=.slice ao ks.length cap:=by
 obtain⟨ao,cap,hv,_⟩:=h;exact⟨ao,cap,hv⟩
theorem dI.eZ {B n:Nat}{w:World}{v:Value}{ks:List Int}(h:w.ownsRow B 3 1 v n (ks.map (Value.int .i64))):dI w v ks:=by
 obtain⟨hl,h⟩:=h;rw[List.length_map,Nat.mul_one] at hl;subst hl
 rcases h with ⟨rfl,h0⟩|⟨g,cap,cur,rfl,hg,hh,hn,hm,hs,hx⟩
 ·exact⟨none,0,by rw[h0],by omega,fun q=>absurd q (by omega)⟩
 ·refine⟨some ⟨g,0,none⟩,cap,rfl,hn,fun _=>⟨g,0,cur,(0,0),rfl,hh,fun j hj=>?_⟩⟩
  have h1:(ks.map (Value.int .i64))[j]?=some (.int .i64 ks[j]):=by rw[List.getElem?_map,List.getElem?_eq_getElem hj];rfl
  rw[← hx,List.getElem?_take] at h1
  split at h1
  ·rw[Nat.zero_add,← Array.getElem?_toList];exact h1
  ·cases h1
theorem nV.eZ {R:List Nat}{B n:Nat}{w:World}{v:Value}{ks:List Int}(h:w.ownsRow B 3 1 v n (ks.map (Value.int .i64)))(hR:∀ r∈R,r<B):nV R w v ks:=by
 refine⟨dI.eZ h,fun b off m cap hv _ hb=>?_⟩;have:=(h.lt b (by rw[hv];rfl)).1;have:=hR b hb;omega
def Yv (ks:List Int)(w:World)(e:Ending)(w':World):Prop:=∃ v',e=.returned v'∧(∀ R:List Nat,(∀ r∈R,r<w.heap.size)→nV R w' v' ks)∧Below w.heap.size w w'
theorem BF (v:Value)(ks:List Int)(w:World)(h:dI w v ks)(hn:ks.length≤1099511627776) :
  Calls Tryz.prog 164 #[v] w (Yv ks w):=by
 obtain⟨ao,cap,rfl⟩:=h.slice;obtain⟨_,hf⟩:=h.cells
 by_cases h0:0<ks.length
 ·obtain⟨b,off,rfl,hc⟩:=hf h0
  refine(Tryz.slices_Clone_int b off ks.length cap ks w (Nat.le_refl _) (by omega) (fun j hj=>by rw[hc j hj];simp[List.getD_eq_getElem?_getD,hj])).mono ?_;rintro e w' ⟨v',he,ho,_,hb⟩;rw[List.take_length] at ho;exact⟨v',he,fun R hR=>nV.eZ ho hR,hb⟩
 ·obtain rfl:ks=[]:=List.length_eq_zero_iff.1 (by omega)
  cases ao with
  | none =>
   refine(Tryz.slices_Clone_int_nil 0 cap w).mono ?_;rintro e w' ⟨he,rfl⟩;exact⟨_,he,fun R _=>⟨⟨none,0,rfl,Nat.le_refl _,fun q=>absurd q (by simp)⟩,fun _ _ _ _ h=>by cases h⟩,Below.refl _ _⟩
  | some a =>
   refine(Tryz.slices_Clone_int_zero a cap w).mono ?_;rintro e w' ⟨v',he,ho,_,hb⟩;exact⟨v',he,fun R hR=>nV.eZ (ks:=[]) ho hR,hb⟩
def uO (n:Nat)(k:Int):Bool:=decide (k<0) || decide ((n:Int)≤k)
theorem G8 (R:List Nat)(B bb g:Nat)(tv:Value)(used:Nat)(nodes:List Nd)(k:Int)(w:World)(hb:BW R B bb tv used nodes w)(hg:w.cell? ⟨g,0,none⟩=some (.pointer (some ⟨bb,0,none⟩))) :
  Calls Tryz.prog 236 #[.int .i64 k,.pointer (some ⟨g,0,none⟩)] w fun e w'=>e=.returned (.bool (uO nodes.length k))∧w'=w:=by
 obtain⟨h1,nv,l,h2,h3,h4,h5⟩:=hb
 obtain⟨ao,cap,rfl,_⟩:∃ ao cap,nv=.slice ao nodes.length cap∧True:=by
  rcases h4.2 with ⟨hv,hn0⟩|⟨g,cap,cur,hv,_⟩
  ·exact⟨none,0,by rw[hv,hn0],trivial⟩
  ·exact⟨_,cap,hv,trivial⟩
 have c1:w.cell? ⟨bb,1,none⟩=some (.slice ao nodes.length cap):=by rw[Lib.cell_of_heap h2];rfl
 clear h2 h3 h4 h5
 by_cases hk:k<0
 ·have hq:uO nodes.length k=true:=by simp[uO,hk]
  rw[hq];clear hq;go_enter Tryz.func236,Tryz.ntmps236;go_wp2
  all_goals (go_ret;refine⟨aX ?_,rfl⟩;simp[*])
 ·have hq:uO nodes.length k=decide ((nodes.length:Int)≤k):=by simp[uO,hk]
  have d1:decide (k<0)=false:=decide_eq_false hk;rw[hq];clear hq;go_enter Tryz.func236,Tryz.ntmps236;go_wp2
  all_goals (go_ret;refine⟨aX ?_,rfl⟩;simp[*])
def Yw (p:Bool)(w:World)(e:Ending)(w':World):Prop:=(∃ r:Int,e=.returned (.int .i64 r)∧(0≤r↔p=true)∧-1≤r)∧w'=w
theorem Ev (R:List Nat)(B bb g:Nat)(tv:Value)(used:Nat)(nodes:List Nd)(v:Value)(ks:List Int)(w:World)(hb:BW R B bb tv used nodes w)(hg:w.cell? ⟨g,0,none⟩=some (.pointer (some ⟨bb,0,none⟩)))(hv:dI w v ks)(hn:ks.length≤1099511627776) :
  Calls Tryz.prog 278 #[v,.func (.func 236) #[] #[.pointer (some ⟨g,0,none⟩)]] w (Yw (ks.any (uO nodes.length)) w):=by
 obtain⟨ao,cap,rfl⟩:=hv.slice;obtain⟨_,hf⟩:=hv.cells;have HT:=ah (fun k=>G8 R B bb g tv used nodes k w hb hg);have HF:=ah hf;clear hf hb hv hg;go_enter Tryz.func278,Tryz.ntmps278;go_wp2
 go_loop [8] (fun i=>∃ k:Nat,k≤ks.length∧i=.int .i64 k∧∀ j,(hj:j<ks.length)→j<k→uO nodes.length ks[j]=false) (fun i=>ks.length - (intOf i).toNat)
 case atStart=>exact⟨0,Nat.zero_le _,rfl,fun j _ h=>absurd h (by omega)⟩
 case round =>
  obtain⟨k,hk,rfl,hj⟩:=hrel
  by_cases hlt:k<ks.length
  ·obtain⟨b,off,rfl,hc⟩:=HF.out (by omega)
   have hx:=hc k hlt
   have hI:(k:Int)<(ks.length:Int):=by omega
   have hT:=HT.out ks[k]
   cases ht:uO nodes.length ks[k] with
   | true =>
    have hany:ks.any (uO nodes.length)=true:=List.any_eq_true.2 ⟨_,List.getElem_mem hlt,ht⟩;rw[ht] at hT;generalize ks[k]=x at hx hT;have H1:=ah hT;have H2:=ah hany;clear hc hj ht hT hany;go_wp2_with (go_at_call 236;refine H1.out.mono ?_;rintro e w1 ⟨rfl,rfl⟩);go_ret;exact⟨⟨k,rfl,⟨fun _=>H2.out,fun _=>by omega⟩,by omega⟩,rfl⟩
   | false =>
    have HJ:Hid (∀ j,(hj:j<ks.length)→j<k+1→uO nodes.length ks[j]=false):=ah (fun j hjl hjk=>by
     by_cases hkj:j=k
     ·subst hkj;exact ht
     ·exact hj j hjl (by omega))
    rw[ht] at hT;generalize ks[k]=x at hx hT;have H1:=ah hT;clear hc hj ht hT;go_wp2_with (go_at_call 236;refine H1.out.mono ?_;rintro e w1 ⟨rfl,rfl⟩)
    go_round
    case rel=>exact⟨k+1,by omega,by go_num,HJ.out⟩
    case measure=>simp[intOf];omega
  ·have hany:ks.any (uO nodes.length)=false:=by
    rw[← Bool.not_eq_true,List.any_eq_true];rintro⟨x,hx,hb⟩;obtain⟨j,hjl,e⟩:=List.mem_iff_getElem.1 hx;rw[← e,hj j hjl (by omega)] at hb;cases hb
   have hI:decide ((k:Int)<(ks.length:Int))=false:=decide_eq_false (by omega);have H2:=ah hany;clear hany hj;go_wp2;go_ret;exact⟨⟨-1,rfl,⟨fun h=>by omega,fun h=>by rw[H2.out] at h;cases h⟩,by omega⟩,rfl⟩
theorem yP (R:List Nat)(B bb g:Nat)(tv:Value)(used:Nat)(nodes:List Nd)(v:Value)(ks:List Int)(w:World)(hb:BW R B bb tv used nodes w)(hg:w.cell? ⟨g,0,none⟩=some (.pointer (some ⟨bb,0,none⟩)))(hv:dI w v ks)(hn:ks.length≤1099511627776) :
  Calls Tryz.prog 235 #[v,.func (.func 236) #[] #[.pointer (some ⟨g,0,none⟩)]] w fun e w'=>e=.returned (.bool (ks.any (uO nodes.length)))∧w'=w:=by
 have H:=ah (Ev R B bb g tv used nodes v ks w hb hg hv hn);clear hb hg hv;go_enter Tryz.func235,Tryz.ntmps235;go_wp2_with (go_at_call 278;refine H.out.mono ?_);rintro e w1 ⟨⟨r,rfl,hr,_⟩,rfl⟩
 have hq:(ks.any (uO nodes.length))=decide (0≤r):=by
  by_cases h:0≤r
  ·rw[decide_eq_true h];exact hr.1 h
  ·rw[decide_eq_false h,← Bool.not_eq_true];exact fun q=>h (hr.2 q)
 have HQ:=ah hq;clear hq hr;go_wp2;go_ret;exact⟨aX HQ.out.symm,rfl⟩
def G9 (kind:Int)(ks:List Int)(nodes:List Nd):Int × List Nd:=if ks.any (uO nodes.length) then (-1,nodes) else (((nodes.length:Nat):Int),nodes++[⟨kind,-1,ks⟩])
theorem Uk (R:List Nat)(B bb:Nat)(tv:Value)(used:Nat)(nodes:List Nd)(kind:Int)(v:Value)(ks:List Int)(w:World)(hb:BW R B bb tv used nodes w)(hv:dI w v ks)(hR:∀ r∈R,r<w.heap.size)(hn:ks.length≤1099511627776)(hl:nodes.length+1≤1099511627776) :
  Calls Tryz.prog 173 #[.pointer (some ⟨bb,0,none⟩),.int .i64 kind,v] w (Ug R B bb tv (G9 kind ks nodes).1 used (G9 kind ks nodes).2 w):=by
 have hB:=hb.kb;have hlt:=hb.lt
 have hBw:B≤w.heap.size:=by omega
 have hal:=(Below.refl w.heap.size w).alloc (Nat.le_refl _) (.cells #[.pointer (some ⟨bb,0,none⟩)] 185);have hnw:=heap_alloc_new w (.cells #[.pointer (some ⟨bb,0,none⟩)] 185);have hb1:=hb.later hal;have hv1:=hv.kept (Kp.of hal hBw)
 have hg:(w.alloc (.cells #[.pointer (some ⟨bb,0,none⟩)] 185)).cell? ⟨w.heap.size,0,none⟩=some (.pointer (some ⟨bb,0,none⟩)):=by rw[Lib.cell_of_heap hnw];rfl
 have hc:=yP R B bb w.heap.size tv used nodes v ks _ hb1 hg hv1 hn;have HB:=ah hb1;have HV:=ah hv1
 cases hbad:ks.any (uO nodes.length) with
 | true =>
  rw[hbad] at hc
  have hq:G9 kind ks nodes=(-1,nodes):=by rw[G9,hbad];rfl
  rw[hq];have HC:=ah hc;clear hc hq hbad hb hv hb1 hv1;go_enter Tryz.func173,Tryz.ntmps173;go_wp2_with (go_at_call 235;refine HC.out.mono ?_;rintro e w1 ⟨rfl,rfl⟩);go_ret;exact⟨rfl,HB.out,Kb.of hal hBw⟩
 | false =>
  rw[hbad] at hc
  have hq:G9 kind ks nodes=(((nodes.length:Nat):Int),nodes++[⟨kind,-1,ks⟩]):=by rw[G9,hbad];rfl
  rw[hq];have HC:=ah hc;clear hc hq hbad hb hv hb1 hv1;go_enter Tryz.func173,Tryz.ntmps173;go_wp2_with (go_at_call 235;refine HC.out.mono ?_;rintro e w1 ⟨rfl,rfl⟩);generalize w.alloc _=w1 at HB HV HC hg hal hnw ⊢;have hz1:=hal.size
  go_region_held3 (fun w'=>w'.cell? ⟨w.heap.size,0,none⟩=some (.pointer (some ⟨bb,0,none⟩)))
   (first|go_keep|exact hc2|exact hc3)
   (first|(go_at_call 164;refine(BF v ks _ ?_ hn).mono ?_;(exact HV.out);rintro e w2 ⟨v',rfl,hiR,hb2⟩;have hi2:=hiR R (fun r hr=>Nat.lt_of_lt_of_le (hR r hr) (by have:w.heap.size≤w1.heap.size:=hz1;simpa using this));clear hiR;obtain⟨ao2,cap2,rfl⟩:=hi2.1.slice;have hc2:=cell_later hb2 (show w1.drew.cell? ⟨w.heap.size,0,none⟩=_ from hg))|(go_at_call 232;refine(Pk R B bb tv used nodes kind (-1) _ ks w2 ?_ hi2 hl).mono ?_;(exact(HB.out.later ((Below.refl _ _).drew)).later hb2);rintro e w3 ⟨rfl,hb3,hk3⟩;have hc3:w3.cell? ⟨w.heap.size,0,none⟩=some (.pointer (some ⟨bb,0,none⟩)):=by (have h1:w2.heap[w.heap.size]?=some (.cells #[.pointer (some ⟨bb,0,none⟩)] 185 (0,0)):=(hb2.block w.heap.size (bG hnw).1).trans hnw);rw[Lib.cell_of_heap (hk3.2 _ _ _ _ h1 (by decide) (by decide))];rfl))
  go_wp2;go_ret;exact⟨rfl,hb3,((Kb.of hal hBw).trans (Kb.of (((Below.refl _ _).drew).trans hb2) (by omega))).trans hk3⟩
theorem QM (a b c d:Value)(w:World):(Instr.field 136 (.agg #[a,b,c,d]) 3).run Tryz.prog w=.ok d w:=by kernel_rfl
theorem Fh (a b c d:Value)(w:World):(Instr.field 136 (.agg #[a,b,c,d]) 0).run Tryz.prog w=.ok a w:=by kernel_rfl
theorem PW.builder {E:aT}{st:aB}{w w':World}{used:Nat}{nodes:List Nd}(h:PW E st w)(hb:BW E.R E.B E.bb E.tv used nodes w')(hk:Kb E.B w w')(hu:used≤E.toks.length):PW E { st with used:=used,nodes:=nodes } w':=by
 obtain⟨h1,h2,h3,h4,h5⟩:=h;exact⟨hk.2 _ _ _ _ h1 (by decide) (by decide),hb,h3.below hk.1,h4,hu,fun r hr=>Nat.lt_of_lt_of_le (h5.2 r hr) hk.1.size⟩
def dx (E:aT)(r:Int × aB)(w:World)(e:Ending)(w':World):Prop:=e=.returned (.int .i64 r.1)∧PW E r.2 w'∧Kp E.B w w'
def okB (st:aB):Bool:=decide (st.fE=0)
theorem PW.cells {E:aT}{st:aB}{w:World}(h:PW E st w) :
  w.cell? ⟨E.pb,0,none⟩=some (.pointer (some ⟨E.bb,0,none⟩))∧w.cell? ⟨E.pb,1,none⟩=some (.int .i64 E.depth)∧w.cell? ⟨E.pb,2,none⟩=some (.bool st.clause)∧w.cell? ⟨E.pb,3,none⟩=some (.int .i64 st.fE)∧w.cell? ⟨E.pb,4,none⟩=some (.int .i64 st.Ya)∧∀ j,w.frozen? ⟨E.pb,j,none⟩=false:=by
 have h1:=h.1
 refine⟨?_,?_,?_,?_,?_,fun j=>by simp[World.frozen?,h1]⟩<;>(rw[Lib.cell_of_heap h1];rfl)
theorem qW (E:aT)(st:aB)(w:World)(h:PW E st w):Calls Tryz.prog 101 #[.pointer (some ⟨E.pb,0,none⟩)] w fun e w'=>e=.returned (.bool (okB st))∧w'=w:=by
 obtain⟨_,_,_,c3,_,_⟩:=h.cells
 have hq:okB st=((st.fE:Int) == 0):=by
  unfold okB
  by_cases q:st.fE=0
  ·rw[decide_eq_true q,q];rfl
  ·rw[decide_eq_false q];symm;rw[← Bool.not_eq_true,beq_iff_eq];omega
 have HQ:=ah hq;clear h hq;go_enter Tryz.func101,Tryz.ntmps101;go_wp2;go_ret;exact⟨aX HQ.out.symm,rfl⟩
theorem PW.fault {E:aT}{st:aB}{w:World}(h:PW E st w)(c a:Nat):PW E { st with fE:=c,Ya:=a } ((w.setCell ⟨E.pb,3,none⟩ (.int .i64 c)).setCell ⟨E.pb,4,none⟩ (.int .i64 a))∧Kp E.B w ((w.setCell ⟨E.pb,3,none⟩ (.int .i64 c)).setCell ⟨E.pb,4,none⟩ (.int .i64 a)):=by
 obtain⟨h1,h2,h3,h4,h5⟩:=h
 have hkeep:∀ (k:Nat) (cs:Array Value) (T:TypeId) (fr:Nat × Nat),w.heap[k]?=some (.cells cs T fr)→T≠188→((w.setCell ⟨E.pb,3,none⟩ (.int .i64 c)).setCell ⟨E.pb,4,none⟩ (.int .i64 a)).heap[k]?=some (.cells cs T fr):=fun k cs T fr h0 q=>by
  have hne:k≠E.pb:=by
   rintro rfl;rw[h1] at h0;simp only[Option.some.injEq,Obj.cells.injEq] at h0;exact q h0.2.1.symm
  rw[heap_setCell_other _ _ _ _ hne,heap_setCell_other _ _ _ _ hne];exact h0
 have hb:Below E.B w ((w.setCell ⟨E.pb,3,none⟩ (.int .i64 c)).setCell ⟨E.pb,4,none⟩ (.int .i64 a)):=((Below.refl _ _).setCell h4 _).setCell h4 _
 have hk:Kp E.B w ((w.setCell ⟨E.pb,3,none⟩ (.int .i64 c)).setCell ⟨E.pb,4,none⟩ (.int .i64 a)):=⟨hb,fun k cs T fr h0 q1 _ _=>hkeep k cs T fr h0 q1⟩
 refine⟨⟨?_,?_,h3.below hb,h4,h5.1,fun r hr=>Nat.lt_of_lt_of_le (h5.2 r hr) hb.size⟩,hk⟩
 ·rw[heap_setCell_same _ E.pb 4 _ _ _ (heap_setCell_same w E.pb 3 _ _ _ h1)]
  rfl
 ·obtain⟨b1,nv,l,b2,b3,b4,b5⟩:=h2
  refine⟨b1,nv,l,hkeep _ _ _ _ b2 (by decide),b3,?_,fun p hp=>(b5 p hp).kept hk⟩;have hne:=own_ne b4 h1 (by decide);exact iG (iG b4 hne _) hne _
theorem Ul (E:aT)(c:Nat)(st:aB)(w:World)(h:PW E st w)(h0:0<E.toks.length)(hn:E.toks.length≤1099511627776) :
  Calls Tryz.prog 166 #[.pointer (some ⟨E.pb,0,none⟩),.int .i64 c] w (dx E (0,fQ E.toks c st) w):=by
 have HO:=ah (qW E st w h);have hp:=wZ E.R E.B E.bb E.tv E.toks st.used st.nodes w h.2.1 h.2.2.1 h0 h.2.2.2.2.1 hn;have hz:=h.lt
 by_cases hf:st.fE=0
 ·have hq:fQ E.toks c st={ st with fE:=c,Ya:=(bP E.toks st.used).place }:=by rw[fQ,if_pos hf]
  rw[hq];generalize bP E.toks st.used=t at hp;obtain⟨k,x,y,q⟩:=t;have ho:okB st=true:=decide_eq_true hf;rw[ho] at HO;obtain⟨c0,_,_,c3,c4,cz⟩:=h.cells;have HP:=ah hp;have H:=ah h;have tf:=QM;clear hq hp hf ho h;go_enter Tryz.func166,Tryz.ntmps166;go_wp2_with (first|(go_at_call 101;refine HO.out.mono ?_;rintro e w1 ⟨rfl,rfl⟩)|(go_at_call 174;refine HP.out.mono ?_));rintro e w2 ⟨he,hb⟩;rw[G5] at he;subst he;have h2:=H.out.later hb;obtain⟨d0,_,_,d3,d4,dz⟩:=h2.cells;have H2:=ah h2;clear h2;go_wp2;go_ret;obtain⟨f1,f2⟩:=H2.out.fault c q;exact⟨rfl,f1,(Kp.of hb H.out.dM).trans f2⟩
 ·have hq:fQ E.toks c st=st:=by rw[fQ,if_neg hf]
  have ho:okB st=false:=decide_eq_false hf;rw[hq];rw[ho] at HO;have H:=ah h;clear hq hp hf ho h;go_enter Tryz.func166,Tryz.ntmps166;go_wp2_with (first|(go_at_call 101;refine HO.out.mono ?_;rintro e w1 ⟨rfl,rfl⟩));go_ret;exact⟨rfl,H.out,Kp.refl _ _⟩
def j4 (w:World)(v:Value)(l:List (List UInt8)):Prop :=
 ∃ b off cap,v=.slice (some ⟨b,off,none⟩) l.length cap∧b<w.heap.size∧∀ j,(h:j<l.length)→w.cell? ⟨b,off+j,none⟩=some (.string ⟨l[j].toArray⟩)
theorem j4.later {w w':World}{v:Value}{l:List (List UInt8)}(h:j4 w v l)(hb:Below w.heap.size w w'):j4 w' v l:=by
 obtain⟨b,off,cap,hv,hlt,hc⟩:=h;exact⟨b,off,cap,hv,by have:=hb.size;omega,fun j hj=>(hb.cell (p:=⟨b,off+j,none⟩) hlt).trans (hc j hj)⟩
def QN (l:List (List UInt8)):List ByteArray:=l.map fun x=>⟨x.toArray⟩
theorem He (l:List (List UInt8))(x:List UInt8):Lib.containsS (QN l) ⟨x.toArray⟩=decide (x∈l):=by
 by_cases h:x∈l
 ·rw[decide_eq_true h]
  exact(Lib.containsS_iff _ _).2 (List.mem_map.2 ⟨x,h,rfl⟩)
 ·rw[decide_eq_false h,← Bool.not_eq_true]
  intro q;obtain⟨y,hy,e⟩:=List.mem_map.1 ((Lib.containsS_iff _ _).1 q)
  have:y=x:=by
   have:=congrArg (fun b:ByteArray=>b.data.toList) e
   simpa using this
  exact h (this ▸ hy)
theorem xg (v:Value)(l:List (List UInt8))(x:List UInt8)(w:World)(h:j4 w v l)(hn:l.length≤1000) :
  Calls Tryz.prog 231 #[v,.string ⟨x.toArray⟩] w fun e w'=>e=.returned (.bool (decide (x∈l)))∧w'=w:=by
 obtain⟨b,off,cap,rfl,_,hc⟩:=h;refine(Tryz.slices_Contains_string b off l.length cap (QN l) ⟨x.toArray⟩ w (by simp[QN]) (by omega) (fun j hj=>?_)).mono ?_
 ·have hj':j<l.length:=by simpa [QN] using hj
  rw[hc j hj'];simp[QN,List.getD_eq_getElem?_getD,hj']
 ·rintro e w' ⟨rfl,rfl⟩
  refine⟨aX ?_,rfl⟩;rw[List.take_of_length_le (by simp[QN]),He]
theorem sO (E:aT)(v:Value)(l:List (List UInt8))(st:aB)(w:World)(h:PW E st w)(hv:j4 w v l)(h0:0<E.toks.length)(hn:E.toks.length≤1099511627776)(hl:l.length≤1000) :
  Calls Tryz.prog 165 #[.pointer (some ⟨E.pb,0,none⟩),v] w fun e w'=>e=.returned (.bool (aS E.toks st l))∧Below w.heap.size w w':=by
 have hp:=wZ E.R E.B E.bb E.tv E.toks st.used st.nodes w h.2.1 h.2.2.1 h0 h.2.2.2.2.1 hn;obtain⟨c0,_,_,_,_,_⟩:=h.cells;unfold aS;generalize bP E.toks st.used=t at hp;obtain⟨k,x,y,q⟩:=t;rw[G5] at hp;simp only;have HP:=ah hp;have HV:=ah hv
 have hsl:∃ ao n cap,v=.slice ao n cap:=by obtain⟨b,off,cap,rfl,_⟩:=hv;exact⟨_,_,_,rfl⟩
 obtain⟨ao,n,cap,rfl⟩:=hsl;clear hp hv h
 by_cases k2:k=2
 ·subst k2
  have hq:((2 == 2 || 2 == 4) && decide (y∈l))=decide (y∈l):=by simp
  rw[hq];clear hq;go_enter Tryz.func165,Tryz.ntmps165;go_wp2_with (first|(go_at_call 174;refine HP.out.mono ?_;rintro e w1 ⟨rfl,hb⟩)|(go_at_call 231;refine(xg _ l y _ ?_ hl).mono ?_))
  ·exact HV.out.later (hb.alloc hb.size _)
  ·rintro e w2 ⟨rfl,rfl⟩
   go_wp2;go_ret;exact⟨rfl,hb.alloc hb.size _⟩
 by_cases k4:k=4
 ·subst k4
  have hq:((4 == 2 || 4 == 4) && decide (y∈l))=decide (y∈l):=by simp
  rw[hq];clear hq;go_enter Tryz.func165,Tryz.ntmps165;go_wp2_with (first|(go_at_call 174;refine HP.out.mono ?_;rintro e w1 ⟨rfl,hb⟩)|(go_at_call 231;refine(xg _ l y _ ?_ hl).mono ?_))
  ·exact HV.out.later (hb.alloc hb.size _)
  ·rintro e w2 ⟨rfl,rfl⟩
   go_wp2;go_ret;exact⟨rfl,hb.alloc hb.size _⟩
 have hq:((k == 2 || k == 4) && decide (y∈l))=false:=by simp[k2,k4]
 have d2:((k:Int) == 2)=false:=by rw[← Bool.not_eq_true,beq_iff_eq];omega
 have d4:((k:Int) == 4)=false:=by rw[← Bool.not_eq_true,beq_iff_eq];omega
 rw[hq];clear hq k2 k4;go_enter Tryz.func165,Tryz.ntmps165;go_wp2_with (first|(go_at_call 174;refine HP.out.mono ?_;rintro e w1 ⟨rfl,hb⟩));go_ret;exact⟨rfl,hb.alloc hb.size _⟩
theorem Yx (toks:List Tok)(st:aB):ay toks st=((rM toks.length st.used st.nodes).1,{ st with used:=(rM toks.length st.used st.nodes).2.1,nodes:=(rM toks.length st.used st.nodes).2.2 }):=by
 unfold ay rM
 split<;>rfl
theorem bA (E:aT)(st:aB)(w:World)(h:PW E st w)(_h0:0<E.toks.length)(hn:E.toks.length≤1099511627776)(hl:st.nodes.length+1≤1099511627776) :
  Calls Tryz.prog 167 #[.pointer (some ⟨E.bb,0,none⟩)] w (dx E (ay E.toks st) w):=by
 obtain⟨ao,cap,hv,_,_⟩:=h.2.2.1.form (fun _=>rfl);have hb:=h.2.1;rw[hv] at hb;refine(Ui E.R E.B E.bb ao E.toks.length cap st.used st.nodes w hb h.2.2.2.2.1 hn hl).mono ?_;rintro e w' ⟨rfl,hb',hk⟩;rw[← hv] at hb';rw[Yx];refine⟨rfl,h.builder hb' hk ?_,hk.kp⟩;have:=h.2.2.2.2.1;unfold rM
 split
 ·exact this
 ·simp only;omega
theorem Um (n:Nat)(ks:List Int):ks.any (uO n)=ks.any (fun k=>decide (k<0) || decide ((n:Int)≤k)):=rfl
theorem aaE (kind:Int)(ks:List Int)(st:aB):Er kind ks st=((G9 kind ks st.nodes).1,{ st with nodes:=(G9 kind ks st.nodes).2 }):=by
 unfold Er G9;rw[Um]
 split<;>rfl
theorem Un (E:aT)(kind:Int)(v:Value)(ks:List Int)(st:aB)(w:World)(h:PW E st w)(hv:dI w v ks)(hk:ks.length≤1099511627776)(hl:st.nodes.length+1≤1099511627776) :
  Calls Tryz.prog 173 #[.pointer (some ⟨E.bb,0,none⟩),.int .i64 kind,v] w (dx E (Er kind ks st) w):=by
 refine(Uk E.R E.B E.bb E.tv st.used st.nodes kind v ks w h.2.1 hv h.2.2.2.2.2 hk hl).mono ?_;rintro e w' ⟨rfl,hb',hk⟩;rw[aaE];exact⟨rfl,h.builder hb' hk h.2.2.2.2.1,hk.kp⟩
theorem jN (E:aT)(kind:Int)(v:Value)(ks:List Int)(st:aB)(w:World)(h:PW E st w)(hv:dI w v ks)(hk:ks.length≤1099511627776)(hl:st.nodes.length+1≤1099511627776) :
  Calls Tryz.prog 106 #[.pointer (some ⟨E.pb,0,none⟩),.int .i64 kind,v] w (dx E (aY kind ks st) w):=by
 have HO:=ah (qW E st w h);have HN:=ah (Un E kind v ks st w h hv hk hl);obtain⟨c0,_,_,_,_,_⟩:=h.cells;have H:=ah h
 by_cases hf:st.fE=0
 ·have hq:aY kind ks st=Er kind ks st:=by rw[aY,if_pos hf]
  rw[hq];rw[show okB st=true from decide_eq_true hf] at HO;clear hq hf h hv;go_enter Tryz.func106,Tryz.ntmps106;go_wp2_with (first|(go_at_call 101;refine HO.out.mono ?_;rintro e w1 ⟨rfl,rfl⟩)|(go_at_call 173;refine HN.out.mono ?_));rintro e w2 ⟨rfl,hp,hk2⟩;go_wp2;go_ret;exact⟨rfl,hp,hk2⟩
 ·have hq:aY kind ks st=(0,st):=by rw[aY,if_neg hf]
  rw[hq];rw[show okB st=false from decide_eq_false hf] at HO;clear hq hf h hv;go_enter Tryz.func106,Tryz.ntmps106;go_wp2_with (first|(go_at_call 101;refine HO.out.mono ?_;rintro e w1 ⟨rfl,rfl⟩));go_ret;exact⟨rfl,H.out,Kp.refl _ _⟩
def aT.ok (E:aT):Prop:=0<E.toks.length∧E.toks.length≤1099511627776∧E.depth≤1000
theorem kC (E:aT)(hE:E.ok)(c:Nat)(st:aB)(w:World)(h:PW E st w) :
  Calls Tryz.prog 166 #[.pointer (some ⟨E.pb,0,none⟩),.int .i64 c] w (dx E (0,fQ E.toks c st) w):=Ul E c st w h hE.1 hE.2.1
theorem JM (E:aT)(hE:E.ok)(v:Value)(l:List (List UInt8))(st:aB)(w:World)(h:PW E st w)(hv:j4 w v l)(hl:l.length≤1000)(hn:st.nodes.length+1≤1099511627776) :
  Calls Tryz.prog 168 #[.pointer (some ⟨E.pb,0,none⟩),v] w (dx E (aA E.toks l st) w):=by
 have HO:=ah (qW E st w h);have HX:=ah (sO E v l st w h hv hE.1 hE.2.1 hl);have HF:=ah (fun w=>kC E hE 22 st w);have H:=ah h
 have hsl:∃ ao n cap,v=.slice ao n cap:=by obtain⟨b,off,cap,rfl,_⟩:=hv;exact⟨_,_,_,rfl⟩
 obtain⟨ao,n,cap,rfl⟩:=hsl;clear h hv
 by_cases hf:st.fE=0
 ·rw[show okB st=true from decide_eq_true hf] at HO
  cases hx:aS E.toks st l with
  | true =>
   rw[hx] at HX
   have hq:aA E.toks l st=ay E.toks st:=by rw[aA,if_pos ⟨hf,hx⟩]
   rw[hq];clear hq hf hx;go_enter Tryz.func168,Tryz.ntmps168;go_wp2_with (first|(go_at_call 101;refine HO.out.mono ?_;rintro e w1 ⟨rfl,rfl⟩)|(go_at_call 165;refine HX.out.mono ?_));rintro e w2 ⟨rfl,hb⟩;have h2:=H.out.later hb;obtain⟨c0,_,_,_,_,_⟩:=h2.cells;have HL:=ah (bA E st w2 h2 hE.1 hE.2.1 hn);clear h2;go_wp2_with (first|(go_at_call 167;refine HL.out.mono ?_));rintro e w3 ⟨rfl,hp,hk⟩;go_wp2;go_ret;exact⟨rfl,hp,(Kp.of hb H.out.dM).trans hk⟩
  | false =>
   rw[hx] at HX
   have hq:aA E.toks l st=(0,fQ E.toks 22 st):=by rw[aA,if_neg (fun q=>by rw[hx] at q;cases q.2)]
   rw[hq];clear hq hf hx;go_enter Tryz.func168,Tryz.ntmps168;go_wp2_with (first|(go_at_call 101;refine HO.out.mono ?_;rintro e w1 ⟨rfl,rfl⟩)|(go_at_call 165;refine HX.out.mono ?_;rintro e w2 ⟨rfl,hb⟩)|(go_at_call 166;refine(HF.out _ (H.out.later hb)).mono ?_));rintro e w3 ⟨rfl,hp,hk⟩;go_wp2;go_ret;exact⟨rfl,hp,(Kp.of hb H.out.dM).trans hk⟩
 ·rw[show okB st=false from decide_eq_false hf] at HO
  have hq:aA E.toks l st=(0,fQ E.toks 22 st):=by rw[aA,if_neg (fun q=>hf q.1)]
  rw[hq];clear hq hf;go_enter Tryz.func168,Tryz.ntmps168;go_wp2_with (first|(go_at_call 101;refine HO.out.mono ?_;rintro e w1 ⟨rfl,rfl⟩)|(go_at_call 166;refine(HF.out _ H.out).mono ?_));rintro e w3 ⟨rfl,hp,hk⟩;go_wp2;go_ret;exact⟨rfl,hp,hk⟩
theorem qg (E:aT)(hE:E.ok)(k:Nat)(st:aB)(w:World)(h:PW E st w)(hn:st.nodes.length+1≤1099511627776) :
  Calls Tryz.prog 107 #[.pointer (some ⟨E.pb,0,none⟩),.int .i64 k] w (dx E (aP E.toks k st) w):=by
 have HO:=ah (qW E st w h);have hp:=wZ E.R E.B E.bb E.tv E.toks st.used st.nodes w h.2.1 h.2.2.1 hE.1 h.2.2.2.2.1 hE.2.1;have HF:=ah (fun w=>kC E hE 22 st w);have H:=ah h;have tf:=Fh;obtain⟨c0,_,_,_,_,_⟩:=h.cells;clear h;unfold aP;generalize bP E.toks st.used=t at hp;obtain⟨kt,x,y,q⟩:=t;rw[G5] at hp;simp only;have HP:=ah hp;clear hp
 by_cases hf:st.fE=0
 ·rw[show okB st=true from decide_eq_true hf] at HO
  by_cases hk:kt=k
  ·have t1:((kt:Int) != (k:Int))=false:=by rw[hk];simp
   rw[if_pos ⟨hf,hk⟩];clear hf hk;go_enter Tryz.func107,Tryz.ntmps107;go_wp2_with (first|(go_at_call 101;refine HO.out.mono ?_;rintro e w1 ⟨rfl,rfl⟩)|(go_at_call 174;refine HP.out.mono ?_));rintro e w2 ⟨rfl,hb⟩;have h2:=H.out.later hb;obtain⟨d0,_,_,_,_,_⟩:=h2.cells;have HL:=ah (bA E st w2 h2 hE.1 hE.2.1 hn);clear h2;go_wp2_with (first|(go_at_call 167;refine HL.out.mono ?_));rintro e w3 ⟨rfl,hp,hk⟩;go_wp2;go_ret;exact⟨rfl,hp,(Kp.of hb H.out.dM).trans hk⟩
  ·have t1:((kt:Int) != (k:Int))=true:=by rw[bne_iff_ne];omega
   rw[if_neg (fun q=>hk q.2)];clear hf hk;go_enter Tryz.func107,Tryz.ntmps107;go_wp2_with (first|(go_at_call 101;refine HO.out.mono ?_;rintro e w1 ⟨rfl,rfl⟩)|(go_at_call 174;refine HP.out.mono ?_;rintro e w2 ⟨rfl,hb⟩)|(go_at_call 166;refine(HF.out _ (H.out.later hb)).mono ?_));rintro e w3 ⟨rfl,hp,hk⟩;go_wp2;go_ret;exact⟨rfl,hp,(Kp.of hb H.out.dM).trans hk⟩
 ·rw[show okB st=false from decide_eq_false hf] at HO
  rw[if_neg (fun q=>hf q.1)];clear hf;go_enter Tryz.func107,Tryz.ntmps107;go_wp2_with (first|(go_at_call 101;refine HO.out.mono ?_;rintro e w1 ⟨rfl,rfl⟩)|(go_at_call 166;refine(HF.out _ H.out).mono ?_));rintro e w3 ⟨rfl,hp,hk⟩;go_wp2;go_ret;exact⟨rfl,hp,hk⟩
def ab0 (E:aT)(st:aB)(w:World)(e:Ending)(w':World):Prop:=e=.returned (.bool (!okB st))∧PW E st w'∧Kp E.B w w'
theorem BG (E:aT)(hE:E.ok)(nest:Nat)(st:aB)(w:World)(h:PW E st w) :
  Calls Tryz.prog 233 #[.pointer (some ⟨E.pb,0,none⟩),.int .i64 nest] w (ab0 E (aM E.toks E.depth nest st) w):=by
 have HF:=ah (fun w=>kC E hE 23 st w);have H:=ah h;obtain⟨_,c1,_,_,_,_⟩:=h.cells
 by_cases hd:E.depth<nest
 ·have d1:decide (E.depth<nest)=true:=decide_eq_true hd
  have hq:aM E.toks E.depth nest st=fQ E.toks 23 st:=by rw[aM,if_pos hd]
  rw[hq];clear hq hd h;go_enter Tryz.func233,Tryz.ntmps233;go_wp2_with (first|(go_at_call 166;refine(HF.out _ H.out).mono ?_));rintro e w2 ⟨rfl,hp,hk⟩;have HO:=ah (qW E _ w2 hp);go_wp2_with (first|(go_at_call 101;refine HO.out.mono ?_;rintro e w3 ⟨rfl,rfl⟩));go_ret;exact⟨rfl,hp,hk⟩
 ·have d1:decide (E.depth<nest)=false:=decide_eq_false hd
  have hq:aM E.toks E.depth nest st=st:=by rw[aM,if_neg hd]
  rw[hq];have HO:=ah (qW E st w h);clear hq hd h;go_enter Tryz.func233,Tryz.ntmps233;go_wp2_with (first|(go_at_call 101;refine HO.out.mono ?_;rintro e w3 ⟨rfl,rfl⟩));go_ret;exact⟨rfl,H.out,Kp.refl _ _⟩
end Go.Proofs.YtknicmmigbhpcaaGreatDoor

namespace Go.Proofs.YtknicmmigbhpcaaGreatDoor
theorem AP {toks:List Tok}{d d' n:Nat}{st:aB}(hdd:d≤d')(h:(aM toks d n st).fE=0):aM toks d' n st=aM toks d n st:=by
 unfold aM at h ⊢
 split at h
 ·exact absurd h (kM (by decide) st)
 ·rename_i hn
  rw[if_neg hn,if_neg (by omega)]
theorem rO (toks:List Tok)(one one':aB→Option (Int × aB))(h1:∀ s k,one s=some k→bZ s k.2)(h2:∀ s k,one s=some k→k.2.fE=0→one' s=some k):∀ (r:Nat) (kids:List Int) (st:aB) (l:List Int × aB),aR toks one r kids st=some l→l.2.fE=0→aR toks one' r kids st=some l
 | 0,kids,st,l,h,_=>h
 | r+1,kids,st,l,h,hl=>by
  rw[aR] at h ⊢
  split at h
  ·rename_i hf;rw[if_pos hf];exact h
  ·rename_i hf
   rw[if_neg hf];obtain⟨k,hk,h⟩:=bH h
   have hk0:k.2.fE=0:=by
    split at h
    ·exact((aJ toks k.2).trans (kL toks one h1 r _ _ _ h)).zero hl
    ·injection h with h;subst h;exact hl
   rw[h2 _ _ hk hk0,Option.bind_some]
   split at h
   ·rename_i hc;rw[if_pos hc];exact rO toks one one' h1 h2 r _ _ _ h hl
   ·rename_i hc;rw[if_neg hc];exact h
theorem xk (toks:List Tok)(one one':aB→Option (Int × aB))(h1:∀ s k,one s=some k→bZ s k.2)(h2:∀ s k,one s=some k→k.2.fE=0→one' s=some k)(st:aB)(l:List Int × aB)(h:jh toks one st=some l)(hl:l.2.fE=0):jh toks one' st=some l:=by
 unfold jh at h ⊢
 split at h
 ·rename_i hc;rw[if_pos hc];exact h
 ·rename_i hc;rw[if_neg hc];exact rO toks one one' h1 h2 _ _ _ _ h hl
theorem gu (toks:List Tok)(d d':Nat)(hdd:d≤d'):∀ (g:Nat) (t:Task) (st:aB) (r:Int × aB),run toks d g t st=some r→r.2.fE=0→run toks d' g t st=some r
 | 0,_,_,_,h,_=>by rw[run] at h;cases h
 | g+1,.expr nest,st,r,h,hr=>by
  have ih:=gu toks d d' hdd g;have ex:=aO toks d g
  have hd0:(aM toks d nest st).fE=0:=by
   apply Classical.byContradiction
   intro q;rw[run,if_pos q] at h
   injection h with h;subst h
   exact q hr
  rw[run] at h ⊢;rw[AP hdd hd0];generalize aM toks d nest st=s at h hd0;rw[if_neg (by simp[hd0])] at h ⊢
  split at h
  ·rename_i hc;rw[if_pos hc];exact ih _ _ _ h hr
  rename_i hc;rw[if_neg hc]
  split at h
  ·rename_i hc;rw[if_pos hc]
   obtain⟨x,h1,h⟩:=bH h;obtain⟨f,h2,h⟩:=bH h
   injection h with h;subst h
   have z2:=(aD _ _ _).zero hr;have z1:=((aF _ _ _).trans (ex _ _ _ h2)).zero z2;rw[ih _ _ _ h1 z1,Option.bind_some,ih _ _ _ h2 z2,Option.bind_some]
  rename_i hc;rw[if_neg hc]
  split at h
  ·rename_i hc;rw[if_pos hc]
   obtain⟨x,h1,h⟩:=bH h;obtain⟨y,h2,h⟩:=bH h;obtain⟨f,h3,h⟩:=bH h
   injection h with h;subst h
   have z3:=(aD _ _ _).zero hr;have z2:=((aF _ _ _).trans (ex _ _ _ h3)).zero z3;have z1:=((aF _ _ _).trans (ex _ _ _ h2)).zero z2;rw[ih _ _ _ h1 z1,Option.bind_some,ih _ _ _ h2 z2,Option.bind_some,ih _ _ _ h3 z3,Option.bind_some]
  rename_i hc;rw[if_neg hc]
  split at h
  ·rename_i hc;rw[if_pos hc]
   obtain⟨x,h1,h⟩:=bH h;obtain⟨f,h2,h⟩:=bH h
   injection h with h;subst h
   have z2:=(aD _ _ _).zero hr;have z1:=((aF _ _ _).trans (ex _ _ _ h2)).zero z2;rw[ih _ _ _ h1 z1,Option.bind_some,ih _ _ _ h2 z2,Option.bind_some]
  ·rename_i hc;rw[if_neg hc];exact ih _ _ _ h hr
 | g+1,.formula nest,st,r,h,hr=>by
  have ih:=gu toks d d' hdd g;have ex:=aO toks d g;rw[run] at h ⊢;obtain⟨a,h1,h⟩:=bH h
  split at h
  ·rename_i hn
   have hd0:(aM toks d (nest+1) (ay toks a.2).2).fE=0:=by
    apply Classical.byContradiction
    intro q;rw[if_pos q] at h
    injection h with h;subst h
    exact q hr
   rw[if_neg (by simp[hd0])] at h;obtain⟨b,h2,h⟩:=bH h
   injection h with h;subst h
   have z2:=(aD _ _ _).zero hr;have z1:=((aJ toks a.2).trans (dZ _ _ _ _)).zero hd0;rw[ih _ _ _ h1 z1,Option.bind_some,if_pos hn,AP hdd hd0,if_neg (by simp[hd0]),ih _ _ _ h2 z2,Option.bind_some]
  ·rename_i hn
   injection h with h;subst h
   rw[ih _ _ _ h1 hr,Option.bind_some,if_neg hn]
 | g+1,.part l nest,st,r,h,hr=>by
  have ih:=gu toks d d' hdd g;rw[run] at h ⊢
  split at h
  ·rename_i hc;rw[if_pos hc];exact ih _ _ _ h hr
  ·rename_i hc;rw[if_neg hc]
   split at h
   ·rename_i hc;rw[if_pos hc];exact ih _ _ _ h hr
   ·rename_i hc;rw[if_neg hc];exact ih _ _ _ h hr
 | g+1,.row l nest,st,r,h,hr=>by
  have ih:=gu toks d d' hdd g;have ex:=aO toks d g;rw[run] at h ⊢;obtain⟨a,h1,h⟩:=bH h;rw[ih _ _ _ h1 ((ex _ _ _ h).zero hr),Option.bind_some];exact ih _ _ _ h hr
 | g+1,.loop l nest a,st,r,h,hr=>by
  have ih:=gu toks d d' hdd g;have ex:=aO toks d g;rw[run] at h ⊢
  split at h
  ·rename_i hn
   rw[if_pos hn];obtain⟨b,h1,h⟩:=bH h
   have z:(aY 10 [a,(ay toks st).1,b.1] b.2).2.fE=0:=by
    split at h
    ·injection h with h;subst h;exact hr
    ·exact(ex _ _ _ h).zero hr
   rw[ih _ _ _ h1 ((aD _ _ _).zero z),Option.bind_some]
   split at h
   ·rename_i hc;rw[if_pos hc];exact h
   ·rename_i hc;rw[if_neg hc];exact ih _ _ _ h hr
  ·rename_i hn
   rw[if_neg hn];exact h
 | g+1,.neg nest,st,r,h,hr=>by
  have ih:=gu toks d d' hdd g;rw[run] at h ⊢
  split at h
  ·rename_i hn
   rw[if_pos hn]
   have hd0:(aM toks d (nest+1) (ay toks st).2).fE=0:=by
    apply Classical.byContradiction
    intro q;rw[if_pos q] at h
    injection h with h;subst h
    exact q hr
   rw[if_neg (by simp[hd0])] at h;obtain⟨b,h2,h⟩:=bH h
   injection h with h;subst h
   rw[AP hdd hd0,if_neg (by simp[hd0]),ih _ _ _ h2 ((aD _ _ _).zero hr),Option.bind_some]
  ·rename_i hn
   rw[if_neg hn];exact ih _ _ _ h hr
 | g+1,.factor nest,st,r,h,hr=>by
  have ih:=gu toks d d' hdd g;rw[run] at h ⊢
  split at h
  ·rename_i hn
   rw[if_pos hn]
   have hd0:(aM toks d (nest+1) (ay toks st).2).fE=0:=by
    apply Classical.byContradiction
    intro q;rw[if_pos q] at h
    injection h with h;subst h
    exact q hr
   rw[if_neg (by simp[hd0])] at h;obtain⟨b,h2,h⟩:=bH h
   injection h with h;subst h
   rw[AP hdd hd0,if_neg (by simp[hd0]),ih _ _ _ h2 ((aD _ _ _).zero hr),Option.bind_some]
  ·rename_i hn
   rw[if_neg hn];exact ih _ _ _ h hr
 | g+1,.atom nest,st,r,h,hr=>by
  have ih:=gu toks d d' hdd g;rw[run] at h ⊢
  split at h
  ·rename_i hc;rw[if_pos hc];exact h
  rename_i hc;rw[if_neg hc]
  split at h
  ·rename_i hc;rw[if_pos hc];exact h
  rename_i hc;rw[if_neg hc]
  split at h
  ·rename_i hc;rw[if_pos hc];exact h
  rename_i hc;rw[if_neg hc]
  split at h
  ·rename_i hc;rw[if_pos hc];exact h
  rename_i hc;rw[if_neg hc]
  split at h
  ·rename_i hc;rw[if_pos hc]
   obtain⟨b,h1,h⟩:=bH h
   injection h with h;subst h
   rw[ih _ _ _ h1 (((aF _ _ _).trans (aD _ _ _)).zero hr),Option.bind_some]
  rename_i hc;rw[if_neg hc]
  split at h
  ·rename_i hc;rw[if_pos hc];exact ih _ _ _ h hr
  ·rename_i hc;rw[if_neg hc];exact h
 | g+1,.name nest,st,r,h,hr=>by
  have ih:=gu toks d d' hdd g;have ex:=aO toks d g;rw[run] at h ⊢
  split at h
  ·rename_i hc;rw[if_pos hc];exact h
  ·rename_i hc;rw[if_neg hc]
   obtain⟨l,h1,h⟩:=bH h
   injection h with h;subst h
   rw[xk toks _ (fun s=>run toks d' g (.expr (nest+1)) s) (fun s k hk=>ex _ _ _ hk) (fun s k hk hz=>ih _ _ _ hk hz) _ _ h1 (((aF _ _ _).trans (aD _ _ _)).zero hr),Option.bind_some]
end Go.Proofs.YtknicmmigbhpcaaGreatDoor
