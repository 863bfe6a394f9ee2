/- Walks and plain laws: ParseW2, ParseW3, ParseW4, ParseW5, ParseLaws2, ParseW6, ShowA. -/
import Derived.Test.YtknicmmigbhpcaaGreatDoorF06
import Derived.Test.YtknicmmigbhpcaaGreatDoorF05
set_option maxHeartbeats 16000000
set_option maxRecDepth 100000
set_option linter.unusedVariables false
set_option linter.unusedSimpArgs false
namespace Go.Proofs.YtknicmmigbhpcaaGreatDoor
open Go.RowKit
theorem dH.cells {w:World}{ao:Option Addr}{n cap:Nat}{ks:List Int}(h:dH w (.slice ao n cap) ks):n=ks.length∧(0<ks.length→∃ b off,ao=some ⟨b,off,none⟩∧∀ j,(hj:j<ks.length)→w.cell? ⟨b,off+j,none⟩=some (.int .i64 ks[j])):=by
 obtain⟨Tf,cap',hv,hc,hf⟩:=h
 injection hv with h1 h2 h3
 subst h1 h2 h3;refine⟨rfl,fun h0=>?_⟩;obtain⟨b,off,cs,fr,ha,hb,hj⟩:=hf h0;exact⟨b,off,ha,fun j hjl=>by rw[Lib.cell_of_heap hb];exact hj j hjl⟩
theorem dH.slice {w:World}{v:Value}{ks:List Int}(h:dH w v ks):∃ ao cap,v=.slice ao ks.length cap:=by
 obtain⟨ao,cap,hv,_⟩:=h;exact⟨ao,cap,hv⟩
theorem dH.fF {B n:Nat}{w:World}{v:Value}{ks:List Int}(h:w.ownsRow B 3 1 v n (ks.map (Value.int .i64))):dH w v ks:=by
 obtain⟨hl,h⟩:=h;rw[List.length_map,Nat.mul_one] at hl;subst hl
 rcases h with ⟨rfl,h0⟩|⟨g,cap,cur,rfl,hg,hh,hn,hm,hs,hx⟩
 ·exact⟨none,0,by rw[h0],by omega,fun q=>absurd q (by omega)⟩
 ·refine⟨some ⟨g,0,none⟩,cap,rfl,hn,fun _=>⟨g,0,cur,(0,0),rfl,hh,fun j hj=>?_⟩⟩
  have h1:(ks.map (Value.int .i64))[j]?=some (.int .i64 ks[j]):=by rw[List.getElem?_map,List.getElem?_eq_getElem hj];rfl
  rw[← hx,List.getElem?_take] at h1
  split at h1
  ·rw[Nat.zero_add,← Array.getElem?_toList];exact h1
  ·cases h1
theorem nU.fF {R:List Nat}{B n:Nat}{w:World}{v:Value}{ks:List Int}(h:w.ownsRow B 3 1 v n (ks.map (Value.int .i64)))(hR:∀ r∈R,r<B):nU R w v ks:=by
 refine⟨dH.fF h,fun b off m cap hv _ hb=>?_⟩;have:=(h.lt b (by rw[hv];rfl)).1;have:=hR b hb;omega
def Yj (ks:List Int)(w:World)(e:Ending)(w':World):Prop:=∃ v',e=.returned v'∧(∀ R:List Nat,(∀ r∈R,r<w.heap.size)→nU R w' v' ks)∧Below w.heap.size w w'
theorem Bu (v:Value)(ks:List Int)(w:World)(h:dH w v ks)(hn:ks.length≤1099511627776) :
  Calls Tryz.prog 164 #[v] w (Yj ks w):=by
 obtain⟨ao,cap,rfl⟩:=h.slice;obtain⟨_,hf⟩:=h.cells
 by_cases h0:0<ks.length
 ·obtain⟨b,off,rfl,hc⟩:=hf h0
  refine(Tryz.slices_Clone_int b off ks.length cap ks w (Nat.le_refl _) (by omega) (fun j hj=>by rw[hc j hj];simp[List.getD_eq_getElem?_getD,hj])).mono ?_;rintro e w' ⟨v',he,ho,_,hb⟩;rw[List.take_length] at ho;exact⟨v',he,fun R hR=>nU.fF ho hR,hb⟩
 ·obtain rfl:ks=[]:=List.length_eq_zero_iff.1 (by omega)
  cases ao with
  | none =>
   refine(Tryz.slices_Clone_int_nil 0 cap w).mono ?_;rintro e w' ⟨he,rfl⟩;exact⟨_,he,fun R _=>⟨⟨none,0,rfl,Nat.le_refl _,fun q=>absurd q (by simp)⟩,fun _ _ _ _ h=>by cases h⟩,Below.refl _ _⟩
  | some a =>
   refine(Tryz.slices_Clone_int_zero a cap w).mono ?_;rintro e w' ⟨v',he,ho,_,hb⟩;exact⟨v',he,fun R hR=>nU.fF (ks:=[]) ho hR,hb⟩
def uL (n:Nat)(k:Int):Bool:=decide (k<0) || decide ((n:Int)≤k)
theorem GK (R:List Nat)(B bb g:Nat)(tv:Value)(used:Nat)(nodes:List Nd)(k:Int)(w:World)(hb:BW R B bb tv used nodes w)(hg:w.cell? ⟨g,0,none⟩=some (.pointer (some ⟨bb,0,none⟩))) :
  Calls Tryz.prog 236 #[.int .i64 k,.pointer (some ⟨g,0,none⟩)] w fun e w'=>e=.returned (.bool (uL nodes.length k))∧w'=w:=by
 obtain⟨h1,nv,l,h2,h3,h4,h5⟩:=hb
 obtain⟨ao,cap,rfl,_⟩:∃ ao cap,nv=.slice ao nodes.length cap∧True:=by
  rcases h4.2 with ⟨hv,hn0⟩|⟨g,cap,cur,hv,_⟩
  ·exact⟨none,0,by rw[hv,hn0],trivial⟩
  ·exact⟨_,cap,hv,trivial⟩
 have c1:w.cell? ⟨bb,1,none⟩=some (.slice ao nodes.length cap):=by rw[Lib.cell_of_heap h2];rfl
 clear h2 h3 h4 h5
 by_cases hk:k<0
 ·have hq:uL nodes.length k=true:=by simp[uL,hk]
  rw[hq];clear hq;go_enter Tryz.func236,Tryz.ntmps236;go_wp2
  all_goals (go_ret;refine⟨aX ?_,rfl⟩;simp[*])
 ·have hq:uL nodes.length k=decide ((nodes.length:Int)≤k):=by simp[uL,hk]
  have d1:decide (k<0)=false:=decide_eq_false hk;rw[hq];clear hq;go_enter Tryz.func236,Tryz.ntmps236;go_wp2
  all_goals (go_ret;refine⟨aX ?_,rfl⟩;simp[*])
def Yk (p:Bool)(w:World)(e:Ending)(w':World):Prop:=(∃ r:Int,e=.returned (.int .i64 r)∧(0≤r↔p=true)∧-1≤r)∧w'=w
theorem Em (R:List Nat)(B bb g:Nat)(tv:Value)(used:Nat)(nodes:List Nd)(v:Value)(ks:List Int)(w:World)(hb:BW R B bb tv used nodes w)(hg:w.cell? ⟨g,0,none⟩=some (.pointer (some ⟨bb,0,none⟩)))(hv:dH w v ks)(hn:ks.length≤1099511627776) :
  Calls Tryz.prog 278 #[v,.func (.func 236) #[] #[.pointer (some ⟨g,0,none⟩)]] w (Yk (ks.any (uL nodes.length)) w):=by
 obtain⟨ao,cap,rfl⟩:=hv.slice;obtain⟨_,hf⟩:=hv.cells;have HT:=ah (fun k=>GK R B bb g tv used nodes k w hb hg);have HF:=ah hf;clear hf hb hv hg;go_enter Tryz.func278,Tryz.ntmps278;go_wp2
 go_loop [8] (fun i=>∃ k:Nat,k≤ks.length∧i=.int .i64 k∧∀ j,(hj:j<ks.length)→j<k→uL nodes.length ks[j]=false) (fun i=>ks.length - (intOf i).toNat)
 case atStart=>exact⟨0,Nat.zero_le _,rfl,fun j _ h=>absurd h (by omega)⟩
 case round =>
  obtain⟨k,hk,rfl,hj⟩:=hrel
  by_cases hlt:k<ks.length
  ·obtain⟨b,off,rfl,hc⟩:=HF.out (by omega)
   have hx:=hc k hlt
   have hI:(k:Int)<(ks.length:Int):=by omega
   have hT:=HT.out ks[k]
   cases ht:uL nodes.length ks[k] with
   | true =>
    have hany:ks.any (uL nodes.length)=true:=List.any_eq_true.2 ⟨_,List.getElem_mem hlt,ht⟩;rw[ht] at hT;generalize ks[k]=x at hx hT;have H1:=ah hT;have H2:=ah hany;clear hc hj ht hT hany;go_wp2_with (go_at_call 236;refine H1.out.mono ?_;rintro e w1 ⟨rfl,rfl⟩);go_ret;exact⟨⟨k,rfl,⟨fun _=>H2.out,fun _=>by omega⟩,by omega⟩,rfl⟩
   | false =>
    have HJ:Hid (∀ j,(hj:j<ks.length)→j<k+1→uL nodes.length ks[j]=false):=ah (fun j hjl hjk=>by
     by_cases hkj:j=k
     ·subst hkj;exact ht
     ·exact hj j hjl (by omega))
    rw[ht] at hT;generalize ks[k]=x at hx hT;have H1:=ah hT;clear hc hj ht hT;go_wp2_with (go_at_call 236;refine H1.out.mono ?_;rintro e w1 ⟨rfl,rfl⟩)
    go_round
    case rel=>exact⟨k+1,by omega,by go_num,HJ.out⟩
    case measure=>simp[intOf];omega
  ·have hany:ks.any (uL nodes.length)=false:=by
    rw[← Bool.not_eq_true,List.any_eq_true];rintro⟨x,hx,hb⟩;obtain⟨j,hjl,e⟩:=List.mem_iff_getElem.1 hx;rw[← e,hj j hjl (by omega)] at hb;cases hb
   have hI:decide ((k:Int)<(ks.length:Int))=false:=decide_eq_false (by omega);have H2:=ah hany;clear hany hj;go_wp2;go_ret;exact⟨⟨-1,rfl,⟨fun h=>by omega,fun h=>by rw[H2.out] at h;cases h⟩,by omega⟩,rfl⟩
theorem yM (R:List Nat)(B bb g:Nat)(tv:Value)(used:Nat)(nodes:List Nd)(v:Value)(ks:List Int)(w:World)(hb:BW R B bb tv used nodes w)(hg:w.cell? ⟨g,0,none⟩=some (.pointer (some ⟨bb,0,none⟩)))(hv:dH w v ks)(hn:ks.length≤1099511627776) :
  Calls Tryz.prog 235 #[v,.func (.func 236) #[] #[.pointer (some ⟨g,0,none⟩)]] w fun e w'=>e=.returned (.bool (ks.any (uL nodes.length)))∧w'=w:=by
 have H:=ah (Em R B bb g tv used nodes v ks w hb hg hv hn);clear hb hg hv;go_enter Tryz.func235,Tryz.ntmps235;go_wp2_with (go_at_call 278;refine H.out.mono ?_);rintro e w1 ⟨⟨r,rfl,hr,_⟩,rfl⟩
 have hq:(ks.any (uL nodes.length))=decide (0≤r):=by
  by_cases h:0≤r
  ·rw[decide_eq_true h];exact hr.1 h
  ·rw[decide_eq_false h,← Bool.not_eq_true];exact fun q=>h (hr.2 q)
 have HQ:=ah hq;clear hq hr;go_wp2;go_ret;exact⟨aX HQ.out.symm,rfl⟩
def GL (kind:Int)(ks:List Int)(nodes:List Nd):Int × List Nd:=if ks.any (uL nodes.length) then (-1,nodes) else (((nodes.length:Nat):Int),nodes++[⟨kind,-1,ks⟩])
theorem TW (R:List Nat)(B bb:Nat)(tv:Value)(used:Nat)(nodes:List Nd)(kind:Int)(v:Value)(ks:List Int)(w:World)(hb:BW R B bb tv used nodes w)(hv:dH w v ks)(hR:∀ r∈R,r<w.heap.size)(hn:ks.length≤1099511627776)(hl:nodes.length+1≤1099511627776) :
  Calls Tryz.prog 173 #[.pointer (some ⟨bb,0,none⟩),.int .i64 kind,v] w (TS R B bb tv (GL kind ks nodes).1 used (GL kind ks nodes).2 w):=by
 have hB:=hb.kb;have hlt:=hb.lt
 have hBw:B≤w.heap.size:=by omega
 have hal:=(Below.refl w.heap.size w).alloc (Nat.le_refl _) (.cells #[.pointer (some ⟨bb,0,none⟩)] 185);have hnw:=heap_alloc_new w (.cells #[.pointer (some ⟨bb,0,none⟩)] 185);have hb1:=hb.later hal;have hv1:=hv.kept (Kp.of hal hBw)
 have hg:(w.alloc (.cells #[.pointer (some ⟨bb,0,none⟩)] 185)).cell? ⟨w.heap.size,0,none⟩=some (.pointer (some ⟨bb,0,none⟩)):=by rw[Lib.cell_of_heap hnw];rfl
 have hc:=yM R B bb w.heap.size tv used nodes v ks _ hb1 hg hv1 hn;have HB:=ah hb1;have HV:=ah hv1
 cases hbad:ks.any (uL nodes.length) with
 | true =>
  rw[hbad] at hc
  have hq:GL kind ks nodes=(-1,nodes):=by rw[GL,hbad];rfl
  rw[hq];have HC:=ah hc;clear hc hq hbad hb hv hb1 hv1;go_enter Tryz.func173,Tryz.ntmps173;go_wp2_with (go_at_call 235;refine HC.out.mono ?_;rintro e w1 ⟨rfl,rfl⟩);go_ret;exact⟨rfl,HB.out,Kb.of hal hBw⟩
 | false =>
  rw[hbad] at hc
  have hq:GL kind ks nodes=(((nodes.length:Nat):Int),nodes++[⟨kind,-1,ks⟩]):=by rw[GL,hbad];rfl
  rw[hq];have HC:=ah hc;clear hc hq hbad hb hv hb1 hv1;go_enter Tryz.func173,Tryz.ntmps173;go_wp2_with (go_at_call 235;refine HC.out.mono ?_;rintro e w1 ⟨rfl,rfl⟩);generalize w.alloc _=w1 at HB HV HC hg hal hnw ⊢;have hz1:=hal.size
  go_region_held3 (fun w'=>w'.cell? ⟨w.heap.size,0,none⟩=some (.pointer (some ⟨bb,0,none⟩)))
   (first|go_keep|exact hc2|exact hc3)
   (first|(go_at_call 164;refine(Bu v ks _ ?_ hn).mono ?_;(exact HV.out);rintro e w2 ⟨v',rfl,hiR,hb2⟩;have hi2:=hiR R (fun r hr=>Nat.lt_of_lt_of_le (hR r hr) (by have:w.heap.size≤w1.heap.size:=hz1;simpa using this));clear hiR;obtain⟨ao2,cap2,rfl⟩:=hi2.1.slice;have hc2:=cell_later hb2 (show w1.drew.cell? ⟨w.heap.size,0,none⟩=_ from hg))|(go_at_call 232;refine(OZ R B bb tv used nodes kind (-1) _ ks w2 ?_ hi2 hl).mono ?_;(exact(HB.out.later ((Below.refl _ _).drew)).later hb2);rintro e w3 ⟨rfl,hb3,hk3⟩;have hc3:w3.cell? ⟨w.heap.size,0,none⟩=some (.pointer (some ⟨bb,0,none⟩)):=by (have h1:w2.heap[w.heap.size]?=some (.cells #[.pointer (some ⟨bb,0,none⟩)] 185 (0,0)):=(hb2.block w.heap.size (bG hnw).1).trans hnw);rw[Lib.cell_of_heap (hk3.2 _ _ _ _ h1 (by decide) (by decide))];rfl))
  go_wp2;go_ret;exact⟨rfl,hb3,((Kb.of hal hBw).trans (Kb.of (((Below.refl _ _).drew).trans hb2) (by omega))).trans hk3⟩
theorem Qx (a b c d:Value)(w:World):(Instr.field 136 (.agg #[a,b,c,d]) 3).run Tryz.prog w=.ok d w:=by kernel_rfl
theorem EY (a b c d:Value)(w:World):(Instr.field 136 (.agg #[a,b,c,d]) 0).run Tryz.prog w=.ok a w:=by kernel_rfl
theorem PW.builder {E:aT}{st:aB}{w w':World}{used:Nat}{nodes:List Nd}(h:PW E st w)(hb:BW E.R E.B E.bb E.tv used nodes w')(hk:Kb E.B w w')(hu:used≤E.toks.length):PW E { st with used:=used,nodes:=nodes } w':=by
 obtain⟨h1,h2,h3,h4,h5⟩:=h;exact⟨hk.2 _ _ _ _ h1 (by decide) (by decide),hb,h3.below hk.1,h4,hu,fun r hr=>Nat.lt_of_lt_of_le (h5.2 r hr) hk.1.size⟩
def dh (E:aT)(r:Int × aB)(w:World)(e:Ending)(w':World):Prop:=e=.returned (.int .i64 r.1)∧PW E r.2 w'∧Kp E.B w w'
def okB (st:aB):Bool:=decide (st.fE=0)
theorem PW.cells {E:aT}{st:aB}{w:World}(h:PW E st w) :
  w.cell? ⟨E.pb,0,none⟩=some (.pointer (some ⟨E.bb,0,none⟩))∧w.cell? ⟨E.pb,1,none⟩=some (.int .i64 E.depth)∧w.cell? ⟨E.pb,2,none⟩=some (.bool st.clause)∧w.cell? ⟨E.pb,3,none⟩=some (.int .i64 st.fE)∧w.cell? ⟨E.pb,4,none⟩=some (.int .i64 st.Ya)∧∀ j,w.frozen? ⟨E.pb,j,none⟩=false:=by
 have h1:=h.1
 refine⟨?_,?_,?_,?_,?_,fun j=>by simp[World.frozen?,h1]⟩<;>(rw[Lib.cell_of_heap h1];rfl)
theorem qU (E:aT)(st:aB)(w:World)(h:PW E st w):Calls Tryz.prog 101 #[.pointer (some ⟨E.pb,0,none⟩)] w fun e w'=>e=.returned (.bool (okB st))∧w'=w:=by
 obtain⟨_,_,_,c3,_,_⟩:=h.cells
 have hq:okB st=((st.fE:Int) == 0):=by
  unfold okB
  by_cases q:st.fE=0
  ·rw[decide_eq_true q,q];rfl
  ·rw[decide_eq_false q];symm;rw[← Bool.not_eq_true,beq_iff_eq];omega
 have HQ:=ah hq;clear h hq;go_enter Tryz.func101,Tryz.ntmps101;go_wp2;go_ret;exact⟨aX HQ.out.symm,rfl⟩
theorem PW.fault {E:aT}{st:aB}{w:World}(h:PW E st w)(c a:Nat):PW E { st with fE:=c,Ya:=a } ((w.setCell ⟨E.pb,3,none⟩ (.int .i64 c)).setCell ⟨E.pb,4,none⟩ (.int .i64 a))∧Kp E.B w ((w.setCell ⟨E.pb,3,none⟩ (.int .i64 c)).setCell ⟨E.pb,4,none⟩ (.int .i64 a)):=by
 obtain⟨h1,h2,h3,h4,h5⟩:=h
 have hkeep:∀ (k:Nat) (cs:Array Value) (T:TypeId) (fr:Nat × Nat),w.heap[k]?=some (.cells cs T fr)→T≠188→((w.setCell ⟨E.pb,3,none⟩ (.int .i64 c)).setCell ⟨E.pb,4,none⟩ (.int .i64 a)).heap[k]?=some (.cells cs T fr):=fun k cs T fr h0 q=>by
  have hne:k≠E.pb:=by
   rintro rfl;rw[h1] at h0;simp only[Option.some.injEq,Obj.cells.injEq] at h0;exact q h0.2.1.symm
  rw[heap_setCell_other _ _ _ _ hne,heap_setCell_other _ _ _ _ hne];exact h0
 have hb:Below E.B w ((w.setCell ⟨E.pb,3,none⟩ (.int .i64 c)).setCell ⟨E.pb,4,none⟩ (.int .i64 a)):=((Below.refl _ _).setCell h4 _).setCell h4 _
 have hk:Kp E.B w ((w.setCell ⟨E.pb,3,none⟩ (.int .i64 c)).setCell ⟨E.pb,4,none⟩ (.int .i64 a)):=⟨hb,fun k cs T fr h0 q1 _ _=>hkeep k cs T fr h0 q1⟩
 refine⟨⟨?_,?_,h3.below hb,h4,h5.1,fun r hr=>Nat.lt_of_lt_of_le (h5.2 r hr) hb.size⟩,hk⟩
 ·rw[heap_setCell_same _ E.pb 4 _ _ _ (heap_setCell_same w E.pb 3 _ _ _ h1)]
  rfl
 ·obtain⟨b1,nv,l,b2,b3,b4,b5⟩:=h2
  refine⟨b1,nv,l,hkeep _ _ _ _ b2 (by decide),b3,?_,fun p hp=>(b5 p hp).kept hk⟩;have hne:=own_ne b4 h1 (by decide);exact iD (iD b4 hne _) hne _
theorem TY (E:aT)(c:Nat)(st:aB)(w:World)(h:PW E st w)(h0:0<E.toks.length)(hn:E.toks.length≤1099511627776) :
  Calls Tryz.prog 166 #[.pointer (some ⟨E.pb,0,none⟩),.int .i64 c] w (dh E (0,fQ E.toks c st) w):=by
 have HO:=ah (qU E st w h);have hp:=wY E.R E.B E.bb E.tv E.toks st.used st.nodes w h.2.1 h.2.2.1 h0 h.2.2.2.2.1 hn;have hz:=h.lt
 by_cases hf:st.fE=0
 ·have hq:fQ E.toks c st={ st with fE:=c,Ya:=(bL E.toks st.used).place }:=by rw[fQ,if_pos hf]
  rw[hq];generalize bL E.toks st.used=t at hp;obtain⟨k,x,y,q⟩:=t;have ho:okB st=true:=decide_eq_true hf;rw[ho] at HO;obtain⟨c0,_,_,c3,c4,cz⟩:=h.cells;have HP:=ah hp;have H:=ah h;have tf:=Qx;clear hq hp hf ho h;go_enter Tryz.func166,Tryz.ntmps166;go_wp2_with (first|(go_at_call 101;refine HO.out.mono ?_;rintro e w1 ⟨rfl,rfl⟩)|(go_at_call 174;refine HP.out.mono ?_));rintro e w2 ⟨he,hb⟩;rw[GJ] at he;subst he;have h2:=H.out.later hb;obtain⟨d0,_,_,d3,d4,dz⟩:=h2.cells;have H2:=ah h2;clear h2;go_wp2;go_ret;obtain⟨f1,f2⟩:=H2.out.fault c q;exact⟨rfl,f1,(Kp.of hb H.out.dL).trans f2⟩
 ·have hq:fQ E.toks c st=st:=by rw[fQ,if_neg hf]
  have ho:okB st=false:=decide_eq_false hf;rw[hq];rw[ho] at HO;have H:=ah h;clear hq hp hf ho h;go_enter Tryz.func166,Tryz.ntmps166;go_wp2_with (first|(go_at_call 101;refine HO.out.mono ?_;rintro e w1 ⟨rfl,rfl⟩));go_ret;exact⟨rfl,H.out,Kp.refl _ _⟩
def jZ (w:World)(v:Value)(l:List (List UInt8)):Prop :=
 ∃ b off cap,v=.slice (some ⟨b,off,none⟩) l.length cap∧b<w.heap.size∧∀ j,(h:j<l.length)→w.cell? ⟨b,off+j,none⟩=some (.string ⟨l[j].toArray⟩)
theorem jZ.later {w w':World}{v:Value}{l:List (List UInt8)}(h:jZ w v l)(hb:Below w.heap.size w w'):jZ w' v l:=by
 obtain⟨b,off,cap,hv,hlt,hc⟩:=h;exact⟨b,off,cap,hv,by have:=hb.size;omega,fun j hj=>(hb.cell (p:=⟨b,off+j,none⟩) hlt).trans (hc j hj)⟩
def Qy (l:List (List UInt8)):List ByteArray:=l.map fun x=>⟨x.toArray⟩
theorem GN (l:List (List UInt8))(x:List UInt8):Lib.containsS (Qy l) ⟨x.toArray⟩=decide (x∈l):=by
 by_cases h:x∈l
 ·rw[decide_eq_true h]
  exact(Lib.containsS_iff _ _).2 (List.mem_map.2 ⟨x,h,rfl⟩)
 ·rw[decide_eq_false h,← Bool.not_eq_true]
  intro q;obtain⟨y,hy,e⟩:=List.mem_map.1 ((Lib.containsS_iff _ _).1 q)
  have:y=x:=by
   have:=congrArg (fun b:ByteArray=>b.data.toList) e
   simpa using this
  exact h (this ▸ hy)
theorem wZ (v:Value)(l:List (List UInt8))(x:List UInt8)(w:World)(h:jZ w v l)(hn:l.length≤1000) :
  Calls Tryz.prog 231 #[v,.string ⟨x.toArray⟩] w fun e w'=>e=.returned (.bool (decide (x∈l)))∧w'=w:=by
 obtain⟨b,off,cap,rfl,_,hc⟩:=h;refine(Tryz.slices_Contains_string b off l.length cap (Qy l) ⟨x.toArray⟩ w (by simp[Qy]) (by omega) (fun j hj=>?_)).mono ?_
 ·have hj':j<l.length:=by simpa [Qy] using hj
  rw[hc j hj'];simp[Qy,List.getD_eq_getElem?_getD,hj']
 ·rintro e w' ⟨rfl,rfl⟩
  refine⟨aX ?_,rfl⟩;rw[List.take_of_length_le (by simp[Qy]),GN]
theorem sG (E:aT)(v:Value)(l:List (List UInt8))(st:aB)(w:World)(h:PW E st w)(hv:jZ w v l)(h0:0<E.toks.length)(hn:E.toks.length≤1099511627776)(hl:l.length≤1000) :
  Calls Tryz.prog 165 #[.pointer (some ⟨E.pb,0,none⟩),v] w fun e w'=>e=.returned (.bool (aS E.toks st l))∧Below w.heap.size w w':=by
 have hp:=wY E.R E.B E.bb E.tv E.toks st.used st.nodes w h.2.1 h.2.2.1 h0 h.2.2.2.2.1 hn;obtain⟨c0,_,_,_,_,_⟩:=h.cells;unfold aS;generalize bL E.toks st.used=t at hp;obtain⟨k,x,y,q⟩:=t;rw[GJ] at hp;simp only;have HP:=ah hp;have HV:=ah hv
 have hsl:∃ ao n cap,v=.slice ao n cap:=by obtain⟨b,off,cap,rfl,_⟩:=hv;exact⟨_,_,_,rfl⟩
 obtain⟨ao,n,cap,rfl⟩:=hsl;clear hp hv h
 by_cases k2:k=2
 ·subst k2
  have hq:((2 == 2 || 2 == 4) && decide (y∈l))=decide (y∈l):=by simp
  rw[hq];clear hq;go_enter Tryz.func165,Tryz.ntmps165;go_wp2_with (first|(go_at_call 174;refine HP.out.mono ?_;rintro e w1 ⟨rfl,hb⟩)|(go_at_call 231;refine(wZ _ l y _ ?_ hl).mono ?_))
  ·exact HV.out.later (hb.alloc hb.size _)
  ·rintro e w2 ⟨rfl,rfl⟩
   go_wp2;go_ret;exact⟨rfl,hb.alloc hb.size _⟩
 by_cases k4:k=4
 ·subst k4
  have hq:((4 == 2 || 4 == 4) && decide (y∈l))=decide (y∈l):=by simp
  rw[hq];clear hq;go_enter Tryz.func165,Tryz.ntmps165;go_wp2_with (first|(go_at_call 174;refine HP.out.mono ?_;rintro e w1 ⟨rfl,hb⟩)|(go_at_call 231;refine(wZ _ l y _ ?_ hl).mono ?_))
  ·exact HV.out.later (hb.alloc hb.size _)
  ·rintro e w2 ⟨rfl,rfl⟩
   go_wp2;go_ret;exact⟨rfl,hb.alloc hb.size _⟩
 have hq:((k == 2 || k == 4) && decide (y∈l))=false:=by simp[k2,k4]
 have d2:((k:Int) == 2)=false:=by rw[← Bool.not_eq_true,beq_iff_eq];omega
 have d4:((k:Int) == 4)=false:=by rw[← Bool.not_eq_true,beq_iff_eq];omega
 rw[hq];clear hq k2 k4;go_enter Tryz.func165,Tryz.ntmps165;go_wp2_with (first|(go_at_call 174;refine HP.out.mono ?_;rintro e w1 ⟨rfl,hb⟩));go_ret;exact⟨rfl,hb.alloc hb.size _⟩
theorem Yl (toks:List Tok)(st:aB):ay toks st=((rG toks.length st.used st.nodes).1,{ st with used:=(rG toks.length st.used st.nodes).2.1,nodes:=(rG toks.length st.used st.nodes).2.2 }):=by
 unfold ay rG
 split<;>rfl
theorem bA (E:aT)(st:aB)(w:World)(h:PW E st w)(_h0:0<E.toks.length)(hn:E.toks.length≤1099511627776)(hl:st.nodes.length+1≤1099511627776) :
  Calls Tryz.prog 167 #[.pointer (some ⟨E.bb,0,none⟩)] w (dh E (ay E.toks st) w):=by
 obtain⟨ao,cap,hv,_,_⟩:=h.2.2.1.form (fun _=>rfl);have hb:=h.2.1;rw[hv] at hb;refine(TU E.R E.B E.bb ao E.toks.length cap st.used st.nodes w hb h.2.2.2.2.1 hn hl).mono ?_;rintro e w' ⟨rfl,hb',hk⟩;rw[← hv] at hb';rw[Yl];refine⟨rfl,h.builder hb' hk ?_,hk.kp⟩;have:=h.2.2.2.2.1;unfold rG
 split
 ·exact this
 ·simp only;omega
theorem T9 (n:Nat)(ks:List Int):ks.any (uL n)=ks.any (fun k=>decide (k<0) || decide ((n:Int)≤k)):=rfl
theorem aaA (kind:Int)(ks:List Int)(st:aB):El kind ks st=((GL kind ks st.nodes).1,{ st with nodes:=(GL kind ks st.nodes).2 }):=by
 unfold El GL;rw[T9]
 split<;>rfl
theorem Ua (E:aT)(kind:Int)(v:Value)(ks:List Int)(st:aB)(w:World)(h:PW E st w)(hv:dH w v ks)(hk:ks.length≤1099511627776)(hl:st.nodes.length+1≤1099511627776) :
  Calls Tryz.prog 173 #[.pointer (some ⟨E.bb,0,none⟩),.int .i64 kind,v] w (dh E (El kind ks st) w):=by
 refine(TW E.R E.B E.bb E.tv st.used st.nodes kind v ks w h.2.1 hv h.2.2.2.2.2 hk hl).mono ?_;rintro e w' ⟨rfl,hb',hk⟩;rw[aaA];exact⟨rfl,h.builder hb' hk h.2.2.2.2.1,hk.kp⟩
theorem jM (E:aT)(kind:Int)(v:Value)(ks:List Int)(st:aB)(w:World)(h:PW E st w)(hv:dH w v ks)(hk:ks.length≤1099511627776)(hl:st.nodes.length+1≤1099511627776) :
  Calls Tryz.prog 106 #[.pointer (some ⟨E.pb,0,none⟩),.int .i64 kind,v] w (dh E (aY kind ks st) w):=by
 have HO:=ah (qU E st w h);have HN:=ah (Ua E kind v ks st w h hv hk hl);obtain⟨c0,_,_,_,_,_⟩:=h.cells;have H:=ah h
 by_cases hf:st.fE=0
 ·have hq:aY kind ks st=El kind ks st:=by rw[aY,if_pos hf]
  rw[hq];rw[show okB st=true from decide_eq_true hf] at HO;clear hq hf h hv;go_enter Tryz.func106,Tryz.ntmps106;go_wp2_with (first|(go_at_call 101;refine HO.out.mono ?_;rintro e w1 ⟨rfl,rfl⟩)|(go_at_call 173;refine HN.out.mono ?_));rintro e w2 ⟨rfl,hp,hk2⟩;go_wp2;go_ret;exact⟨rfl,hp,hk2⟩
 ·have hq:aY kind ks st=(0,st):=by rw[aY,if_neg hf]
  rw[hq];rw[show okB st=false from decide_eq_false hf] at HO;clear hq hf h hv;go_enter Tryz.func106,Tryz.ntmps106;go_wp2_with (first|(go_at_call 101;refine HO.out.mono ?_;rintro e w1 ⟨rfl,rfl⟩));go_ret;exact⟨rfl,H.out,Kp.refl _ _⟩
def aT.ok (E:aT):Prop:=0<E.toks.length∧E.toks.length≤1099511627776∧E.depth≤1000
theorem ko (E:aT)(hE:E.ok)(c:Nat)(st:aB)(w:World)(h:PW E st w) :
  Calls Tryz.prog 166 #[.pointer (some ⟨E.pb,0,none⟩),.int .i64 c] w (dh E (0,fQ E.toks c st) w):=TY E c st w h hE.1 hE.2.1
theorem Jw (E:aT)(hE:E.ok)(v:Value)(l:List (List UInt8))(st:aB)(w:World)(h:PW E st w)(hv:jZ w v l)(hl:l.length≤1000)(hn:st.nodes.length+1≤1099511627776) :
  Calls Tryz.prog 168 #[.pointer (some ⟨E.pb,0,none⟩),v] w (dh E (aA E.toks l st) w):=by
 have HO:=ah (qU E st w h);have HX:=ah (sG E v l st w h hv hE.1 hE.2.1 hl);have HF:=ah (fun w=>ko E hE 22 st w);have H:=ah h
 have hsl:∃ ao n cap,v=.slice ao n cap:=by obtain⟨b,off,cap,rfl,_⟩:=hv;exact⟨_,_,_,rfl⟩
 obtain⟨ao,n,cap,rfl⟩:=hsl;clear h hv
 by_cases hf:st.fE=0
 ·rw[show okB st=true from decide_eq_true hf] at HO
  cases hx:aS E.toks st l with
  | true =>
   rw[hx] at HX
   have hq:aA E.toks l st=ay E.toks st:=by rw[aA,if_pos ⟨hf,hx⟩]
   rw[hq];clear hq hf hx;go_enter Tryz.func168,Tryz.ntmps168;go_wp2_with (first|(go_at_call 101;refine HO.out.mono ?_;rintro e w1 ⟨rfl,rfl⟩)|(go_at_call 165;refine HX.out.mono ?_));rintro e w2 ⟨rfl,hb⟩;have h2:=H.out.later hb;obtain⟨c0,_,_,_,_,_⟩:=h2.cells;have HL:=ah (bA E st w2 h2 hE.1 hE.2.1 hn);clear h2;go_wp2_with (first|(go_at_call 167;refine HL.out.mono ?_));rintro e w3 ⟨rfl,hp,hk⟩;go_wp2;go_ret;exact⟨rfl,hp,(Kp.of hb H.out.dL).trans hk⟩
  | false =>
   rw[hx] at HX
   have hq:aA E.toks l st=(0,fQ E.toks 22 st):=by rw[aA,if_neg (fun q=>by rw[hx] at q;cases q.2)]
   rw[hq];clear hq hf hx;go_enter Tryz.func168,Tryz.ntmps168;go_wp2_with (first|(go_at_call 101;refine HO.out.mono ?_;rintro e w1 ⟨rfl,rfl⟩)|(go_at_call 165;refine HX.out.mono ?_;rintro e w2 ⟨rfl,hb⟩)|(go_at_call 166;refine(HF.out _ (H.out.later hb)).mono ?_));rintro e w3 ⟨rfl,hp,hk⟩;go_wp2;go_ret;exact⟨rfl,hp,(Kp.of hb H.out.dL).trans hk⟩
 ·rw[show okB st=false from decide_eq_false hf] at HO
  have hq:aA E.toks l st=(0,fQ E.toks 22 st):=by rw[aA,if_neg (fun q=>hf q.1)]
  rw[hq];clear hq hf;go_enter Tryz.func168,Tryz.ntmps168;go_wp2_with (first|(go_at_call 101;refine HO.out.mono ?_;rintro e w1 ⟨rfl,rfl⟩)|(go_at_call 166;refine(HF.out _ H.out).mono ?_));rintro e w3 ⟨rfl,hp,hk⟩;go_wp2;go_ret;exact⟨rfl,hp,hk⟩
theorem qj (E:aT)(hE:E.ok)(k:Nat)(st:aB)(w:World)(h:PW E st w)(hn:st.nodes.length+1≤1099511627776) :
  Calls Tryz.prog 107 #[.pointer (some ⟨E.pb,0,none⟩),.int .i64 k] w (dh E (aO E.toks k st) w):=by
 have HO:=ah (qU E st w h);have hp:=wY E.R E.B E.bb E.tv E.toks st.used st.nodes w h.2.1 h.2.2.1 hE.1 h.2.2.2.2.1 hE.2.1;have HF:=ah (fun w=>ko E hE 22 st w);have H:=ah h;have tf:=EY;obtain⟨c0,_,_,_,_,_⟩:=h.cells;clear h;unfold aO;generalize bL E.toks st.used=t at hp;obtain⟨kt,x,y,q⟩:=t;rw[GJ] at hp;simp only;have HP:=ah hp;clear hp
 by_cases hf:st.fE=0
 ·rw[show okB st=true from decide_eq_true hf] at HO
  by_cases hk:kt=k
  ·have t1:((kt:Int) != (k:Int))=false:=by rw[hk];simp
   rw[if_pos ⟨hf,hk⟩];clear hf hk;go_enter Tryz.func107,Tryz.ntmps107;go_wp2_with (first|(go_at_call 101;refine HO.out.mono ?_;rintro e w1 ⟨rfl,rfl⟩)|(go_at_call 174;refine HP.out.mono ?_));rintro e w2 ⟨rfl,hb⟩;have h2:=H.out.later hb;obtain⟨d0,_,_,_,_,_⟩:=h2.cells;have HL:=ah (bA E st w2 h2 hE.1 hE.2.1 hn);clear h2;go_wp2_with (first|(go_at_call 167;refine HL.out.mono ?_));rintro e w3 ⟨rfl,hp,hk⟩;go_wp2;go_ret;exact⟨rfl,hp,(Kp.of hb H.out.dL).trans hk⟩
  ·have t1:((kt:Int) != (k:Int))=true:=by rw[bne_iff_ne];omega
   rw[if_neg (fun q=>hk q.2)];clear hf hk;go_enter Tryz.func107,Tryz.ntmps107;go_wp2_with (first|(go_at_call 101;refine HO.out.mono ?_;rintro e w1 ⟨rfl,rfl⟩)|(go_at_call 174;refine HP.out.mono ?_;rintro e w2 ⟨rfl,hb⟩)|(go_at_call 166;refine(HF.out _ (H.out.later hb)).mono ?_));rintro e w3 ⟨rfl,hp,hk⟩;go_wp2;go_ret;exact⟨rfl,hp,(Kp.of hb H.out.dL).trans hk⟩
 ·rw[show okB st=false from decide_eq_false hf] at HO
  rw[if_neg (fun q=>hf q.1)];clear hf;go_enter Tryz.func107,Tryz.ntmps107;go_wp2_with (first|(go_at_call 101;refine HO.out.mono ?_;rintro e w1 ⟨rfl,rfl⟩)|(go_at_call 166;refine(HF.out _ H.out).mono ?_));rintro e w3 ⟨rfl,hp,hk⟩;go_wp2;go_ret;exact⟨rfl,hp,hk⟩
def abV (E:aT)(st:aB)(w:World)(e:Ending)(w':World):Prop:=e=.returned (.bool (!okB st))∧PW E st w'∧Kp E.B w w'
theorem Bv (E:aT)(hE:E.ok)(nest:Nat)(st:aB)(w:World)(h:PW E st w) :
  Calls Tryz.prog 233 #[.pointer (some ⟨E.pb,0,none⟩),.int .i64 nest] w (abV E (aM E.toks E.depth nest st) w):=by
 have HF:=ah (fun w=>ko E hE 23 st w);have H:=ah h;obtain⟨_,c1,_,_,_,_⟩:=h.cells
 by_cases hd:E.depth<nest
 ·have d1:decide (E.depth<nest)=true:=decide_eq_true hd
  have hq:aM E.toks E.depth nest st=fQ E.toks 23 st:=by rw[aM,if_pos hd]
  rw[hq];clear hq hd h;go_enter Tryz.func233,Tryz.ntmps233;go_wp2_with (first|(go_at_call 166;refine(HF.out _ H.out).mono ?_));rintro e w2 ⟨rfl,hp,hk⟩;have HO:=ah (qU E _ w2 hp);go_wp2_with (first|(go_at_call 101;refine HO.out.mono ?_;rintro e w3 ⟨rfl,rfl⟩));go_ret;exact⟨rfl,hp,hk⟩
 ·have d1:decide (E.depth<nest)=false:=decide_eq_false hd
  have hq:aM E.toks E.depth nest st=st:=by rw[aM,if_neg hd]
  rw[hq];have HO:=ah (qU E st w h);clear hq hd h;go_enter Tryz.func233,Tryz.ntmps233;go_wp2_with (first|(go_at_call 101;refine HO.out.mono ?_;rintro e w3 ⟨rfl,rfl⟩));go_ret;exact⟨rfl,H.out,Kp.refl _ _⟩
end Go.Proofs.YtknicmmigbhpcaaGreatDoor

namespace Go.Proofs.YtknicmmigbhpcaaGreatDoor
theorem Az {toks:List Tok}{d d' n:Nat}{st:aB}(hdd:d≤d')(h:(aM toks d n st).fE=0):aM toks d' n st=aM toks d n st:=by
 unfold aM at h ⊢
 split at h
 ·exact absurd h (kK (by decide) st)
 ·rename_i hn
  rw[if_neg hn,if_neg (by omega)]
theorem rH (toks:List Tok)(one one':aB→Option (Int × aB))(h1:∀ s k,one s=some k→bX s k.2)(h2:∀ s k,one s=some k→k.2.fE=0→one' s=some k):∀ (r:Nat) (kids:List Int) (st:aB) (l:List Int × aB),aR toks one r kids st=some l→l.2.fE=0→aR toks one' r kids st=some l
 | 0,kids,st,l,h,_=>h
 | r+1,kids,st,l,h,hl=>by
  rw[aR] at h ⊢
  split at h
  ·rename_i hf;rw[if_pos hf];exact h
  ·rename_i hf
   rw[if_neg hf];obtain⟨k,hk,h⟩:=bH h
   have hk0:k.2.fE=0:=by
    split at h
    ·exact((aJ toks k.2).trans (kJ toks one h1 r _ _ _ h)).zero hl
    ·injection h with h;subst h;exact hl
   rw[h2 _ _ hk hk0,Option.bind_some]
   split at h
   ·rename_i hc;rw[if_pos hc];exact rH toks one one' h1 h2 r _ _ _ h hl
   ·rename_i hc;rw[if_neg hc];exact h
theorem xg (toks:List Tok)(one one':aB→Option (Int × aB))(h1:∀ s k,one s=some k→bX s k.2)(h2:∀ s k,one s=some k→k.2.fE=0→one' s=some k)(st:aB)(l:List Int × aB)(h:jf toks one st=some l)(hl:l.2.fE=0):jf toks one' st=some l:=by
 unfold jf at h ⊢
 split at h
 ·rename_i hc;rw[if_pos hc];exact h
 ·rename_i hc;rw[if_neg hc];exact rH toks one one' h1 h2 _ _ _ _ h hl
theorem gy (toks:List Tok)(d d':Nat)(hdd:d≤d'):∀ (g:Nat) (t:Task) (st:aB) (r:Int × aB),run toks d g t st=some r→r.2.fE=0→run toks d' g t st=some r
 | 0,_,_,_,h,_=>by rw[run] at h;cases h
 | g+1,.expr nest,st,r,h,hr=>by
  have ih:=gy toks d d' hdd g;have ex:=aN toks d g
  have hd0:(aM toks d nest st).fE=0:=by
   apply Classical.byContradiction
   intro q;rw[run,if_pos q] at h
   injection h with h;subst h
   exact q hr
  rw[run] at h ⊢;rw[Az hdd hd0];generalize aM toks d nest st=s at h hd0;rw[if_neg (by simp[hd0])] at h ⊢
  split at h
  ·rename_i hc;rw[if_pos hc];exact ih _ _ _ h hr
  rename_i hc;rw[if_neg hc]
  split at h
  ·rename_i hc;rw[if_pos hc]
   obtain⟨x,h1,h⟩:=bH h;obtain⟨f,h2,h⟩:=bH h
   injection h with h;subst h
   have z2:=(aD _ _ _).zero hr;have z1:=((aF _ _ _).trans (ex _ _ _ h2)).zero z2;rw[ih _ _ _ h1 z1,Option.bind_some,ih _ _ _ h2 z2,Option.bind_some]
  rename_i hc;rw[if_neg hc]
  split at h
  ·rename_i hc;rw[if_pos hc]
   obtain⟨x,h1,h⟩:=bH h;obtain⟨y,h2,h⟩:=bH h;obtain⟨f,h3,h⟩:=bH h
   injection h with h;subst h
   have z3:=(aD _ _ _).zero hr;have z2:=((aF _ _ _).trans (ex _ _ _ h3)).zero z3;have z1:=((aF _ _ _).trans (ex _ _ _ h2)).zero z2;rw[ih _ _ _ h1 z1,Option.bind_some,ih _ _ _ h2 z2,Option.bind_some,ih _ _ _ h3 z3,Option.bind_some]
  rename_i hc;rw[if_neg hc]
  split at h
  ·rename_i hc;rw[if_pos hc]
   obtain⟨x,h1,h⟩:=bH h;obtain⟨f,h2,h⟩:=bH h
   injection h with h;subst h
   have z2:=(aD _ _ _).zero hr;have z1:=((aF _ _ _).trans (ex _ _ _ h2)).zero z2;rw[ih _ _ _ h1 z1,Option.bind_some,ih _ _ _ h2 z2,Option.bind_some]
  ·rename_i hc;rw[if_neg hc];exact ih _ _ _ h hr
 | g+1,.formula nest,st,r,h,hr=>by
  have ih:=gy toks d d' hdd g;have ex:=aN toks d g;rw[run] at h ⊢;obtain⟨a,h1,h⟩:=bH h
  split at h
  ·rename_i hn
   have hd0:(aM toks d (nest+1) (ay toks a.2).2).fE=0:=by
    apply Classical.byContradiction
    intro q;rw[if_pos q] at h
    injection h with h;subst h
    exact q hr
   rw[if_neg (by simp[hd0])] at h;obtain⟨b,h2,h⟩:=bH h
   injection h with h;subst h
   have z2:=(aD _ _ _).zero hr;have z1:=((aJ toks a.2).trans (dZ _ _ _ _)).zero hd0;rw[ih _ _ _ h1 z1,Option.bind_some,if_pos hn,Az hdd hd0,if_neg (by simp[hd0]),ih _ _ _ h2 z2,Option.bind_some]
  ·rename_i hn
   injection h with h;subst h
   rw[ih _ _ _ h1 hr,Option.bind_some,if_neg hn]
 | g+1,.part l nest,st,r,h,hr=>by
  have ih:=gy toks d d' hdd g;rw[run] at h ⊢
  split at h
  ·rename_i hc;rw[if_pos hc];exact ih _ _ _ h hr
  ·rename_i hc;rw[if_neg hc]
   split at h
   ·rename_i hc;rw[if_pos hc];exact ih _ _ _ h hr
   ·rename_i hc;rw[if_neg hc];exact ih _ _ _ h hr
 | g+1,.row l nest,st,r,h,hr=>by
  have ih:=gy toks d d' hdd g;have ex:=aN toks d g;rw[run] at h ⊢;obtain⟨a,h1,h⟩:=bH h;rw[ih _ _ _ h1 ((ex _ _ _ h).zero hr),Option.bind_some];exact ih _ _ _ h hr
 | g+1,.loop l nest a,st,r,h,hr=>by
  have ih:=gy toks d d' hdd g;have ex:=aN toks d g;rw[run] at h ⊢
  split at h
  ·rename_i hn
   rw[if_pos hn];obtain⟨b,h1,h⟩:=bH h
   have z:(aY 10 [a,(ay toks st).1,b.1] b.2).2.fE=0:=by
    split at h
    ·injection h with h;subst h;exact hr
    ·exact(ex _ _ _ h).zero hr
   rw[ih _ _ _ h1 ((aD _ _ _).zero z),Option.bind_some]
   split at h
   ·rename_i hc;rw[if_pos hc];exact h
   ·rename_i hc;rw[if_neg hc];exact ih _ _ _ h hr
  ·rename_i hn
   rw[if_neg hn];exact h
 | g+1,.neg nest,st,r,h,hr=>by
  have ih:=gy toks d d' hdd g;rw[run] at h ⊢
  split at h
  ·rename_i hn
   rw[if_pos hn]
   have hd0:(aM toks d (nest+1) (ay toks st).2).fE=0:=by
    apply Classical.byContradiction
    intro q;rw[if_pos q] at h
    injection h with h;subst h
    exact q hr
   rw[if_neg (by simp[hd0])] at h;obtain⟨b,h2,h⟩:=bH h
   injection h with h;subst h
   rw[Az hdd hd0,if_neg (by simp[hd0]),ih _ _ _ h2 ((aD _ _ _).zero hr),Option.bind_some]
  ·rename_i hn
   rw[if_neg hn];exact ih _ _ _ h hr
 | g+1,.factor nest,st,r,h,hr=>by
  have ih:=gy toks d d' hdd g;rw[run] at h ⊢
  split at h
  ·rename_i hn
   rw[if_pos hn]
   have hd0:(aM toks d (nest+1) (ay toks st).2).fE=0:=by
    apply Classical.byContradiction
    intro q;rw[if_pos q] at h
    injection h with h;subst h
    exact q hr
   rw[if_neg (by simp[hd0])] at h;obtain⟨b,h2,h⟩:=bH h
   injection h with h;subst h
   rw[Az hdd hd0,if_neg (by simp[hd0]),ih _ _ _ h2 ((aD _ _ _).zero hr),Option.bind_some]
  ·rename_i hn
   rw[if_neg hn];exact ih _ _ _ h hr
 | g+1,.atom nest,st,r,h,hr=>by
  have ih:=gy toks d d' hdd g;rw[run] at h ⊢
  split at h
  ·rename_i hc;rw[if_pos hc];exact h
  rename_i hc;rw[if_neg hc]
  split at h
  ·rename_i hc;rw[if_pos hc];exact h
  rename_i hc;rw[if_neg hc]
  split at h
  ·rename_i hc;rw[if_pos hc];exact h
  rename_i hc;rw[if_neg hc]
  split at h
  ·rename_i hc;rw[if_pos hc];exact h
  rename_i hc;rw[if_neg hc]
  split at h
  ·rename_i hc;rw[if_pos hc]
   obtain⟨b,h1,h⟩:=bH h
   injection h with h;subst h
   rw[ih _ _ _ h1 (((aF _ _ _).trans (aD _ _ _)).zero hr),Option.bind_some]
  rename_i hc;rw[if_neg hc]
  split at h
  ·rename_i hc;rw[if_pos hc];exact ih _ _ _ h hr
  ·rename_i hc;rw[if_neg hc];exact h
 | g+1,.name nest,st,r,h,hr=>by
  have ih:=gy toks d d' hdd g;have ex:=aN toks d g;rw[run] at h ⊢
  split at h
  ·rename_i hc;rw[if_pos hc];exact h
  ·rename_i hc;rw[if_neg hc]
   obtain⟨l,h1,h⟩:=bH h
   injection h with h;subst h
   rw[xg toks _ (fun s=>run toks d' g (.expr (nest+1)) s) (fun s k hk=>ex _ _ _ hk) (fun s k hk hz=>ih _ _ _ hk hz) _ _ h1 (((aF _ _ _).trans (aD _ _ _)).zero hr),Option.bind_some]
end Go.Proofs.YtknicmmigbhpcaaGreatDoor

namespace Go.Proofs.YtknicmmigbhpcaaGreatDoor
open Go.RowKit
theorem aj (w:World)(o:Obj):Below w.heap.size w (w.alloc o):=(Below.refl _ _).alloc (Nat.le_refl _) o
def ql (E:aT)(st:aB)(b:Bool)(w:World)(e:Ending)(w':World):Prop:=e=.returned (.bool b)∧PW E st w'∧Kp E.B w w'
theorem Jy (w:World)(b:ByteArray):jZ (w.alloc (.cells #[.string b] 9)) (.slice (some ⟨w.heap.size,0,none⟩) 1 1) [b.data.toList]:=by
 refine⟨w.heap.size,0,1,rfl,by simp,fun j hj=>?_⟩
 obtain rfl:j=0:=by simpa using hj
 rw[Lib.cell_of_heap (heap_alloc_new _ _)]
 have:ByteArray.mk b.data.toList.toArray=b:=by cases b;simp
 simp[this]
theorem Jz (w:World)(b c:ByteArray):jZ (w.alloc (.cells #[.string b,.string c] 9)) (.slice (some ⟨w.heap.size,0,none⟩) 2 2) [b.data.toList,c.data.toList]:=by
 refine⟨w.heap.size,0,2,rfl,by simp,fun j hj=>?_⟩
 have h1:ByteArray.mk b.data.toList.toArray=b:=by cases b;simp
 have h2:ByteArray.mk c.data.toList.toArray=c:=by cases c;simp
 rw[Lib.cell_of_heap (heap_alloc_new _ _)]
 match j,hj with
 | 0,_=>simp[h1]
 | 1,_=>simp[h2]
theorem sH (E:aT)(hE:E.ok)(b:ByteArray)(st:aB)(w:World)(h:PW E st w) :
  Calls Tryz.prog 165 #[.pointer (some ⟨E.pb,0,none⟩),.slice (some ⟨w.heap.size,0,none⟩) 1 1] (w.alloc (.cells #[.string b] 9)) (ql E st (aS E.toks st [b.data.toList]) w):=by
 have hA:=h.later (aj w (.cells #[.string b] 9));refine(sG E _ _ st _ hA (Jy w b) hE.1 hE.2.1 (by simp)).mono ?_;rintro e w' ⟨rfl,hb⟩;exact⟨rfl,hA.later hb,(Kp.of (aj w _) h.dL).trans (Kp.of hb hA.dL)⟩
theorem Ub (E:aT)(hE:E.ok)(b c:ByteArray)(st:aB)(w:World)(h:PW E st w) :
  Calls Tryz.prog 165 #[.pointer (some ⟨E.pb,0,none⟩),.slice (some ⟨w.heap.size,0,none⟩) 2 2] (w.alloc (.cells #[.string b,.string c] 9)) (ql E st (aS E.toks st [b.data.toList,c.data.toList]) w):=by
 have hA:=h.later (aj w (.cells #[.string b,.string c] 9));refine(sG E _ _ st _ hA (Jz w b c) hE.1 hE.2.1 (by simp)).mono ?_;rintro e w' ⟨rfl,hb⟩;exact⟨rfl,hA.later hb,(Kp.of (aj w _) h.dL).trans (Kp.of hb hA.dL)⟩
theorem dx (E:aT)(hE:E.ok)(b:ByteArray)(st:aB)(w:World)(h:PW E st w)(hn:st.nodes.length+1≤1099511627776) :
  Calls Tryz.prog 168 #[.pointer (some ⟨E.pb,0,none⟩),.slice (some ⟨w.heap.size,0,none⟩) 1 1] (w.alloc (.cells #[.string b] 9)) (dh E (aA E.toks [b.data.toList] st) w):=by
 have hA:=h.later (aj w (.cells #[.string b] 9));refine(Jw E hE _ _ st _ hA (Jy w b) (by simp) hn).mono ?_;rintro e w' ⟨rfl,hp,hk⟩;exact⟨rfl,hp,(Kp.of (aj w _) h.dL).trans hk⟩
theorem Bw (w:World)(ks:List Int):dH (w.alloc (.cells (ks.map (Value.int .i64)).toArray 3)) (.slice (some ⟨w.heap.size,0,none⟩) ks.length ks.length) ks:=by
 refine⟨some ⟨w.heap.size,0,none⟩,ks.length,rfl,Nat.le_refl _,fun _=>⟨w.heap.size,0,_,_,rfl,heap_alloc_new _ _,fun j hj=>?_⟩⟩;simp[hj]
theorem gP (E:aT)(kind:Int)(ks:List Int)(n:Nat)(cs:Array Value)(st:aB)(w:World)(h:PW E st w)(hn:ks.length=n)(hc:(ks.map (Value.int .i64)).toArray=cs)(hk:n≤1000)(hl:st.nodes.length+1≤1099511627776) :
  Calls Tryz.prog 106 #[.pointer (some ⟨E.pb,0,none⟩),.int .i64 kind,.slice (some ⟨w.heap.size,0,none⟩) n n] (w.alloc (.cells cs 3)) (dh E (aY kind ks st) w):=by
 subst hn hc;have hA:=h.later (aj w (.cells (ks.map (Value.int .i64)).toArray 3));refine(jM E kind _ ks st _ hA (Bw w ks) (by omega) hl).mono ?_;rintro e w' ⟨rfl,hp,hk⟩;exact⟨rfl,hp,(Kp.of (aj w _) h.dL).trans hk⟩
def lQ (E:aT)(r:Int × aB)(w:World):Task→Prop
 | .expr nest=>Calls Tryz.prog 172 #[.pointer (some ⟨E.pb,0,none⟩),.int .i64 nest] w (dh E r w)
 | .formula nest=>Calls Tryz.prog 234 #[.pointer (some ⟨E.pb,0,none⟩),.int .i64 nest] w (dh E r w)
 | .part l nest=>Calls Tryz.prog 298 #[.pointer (some ⟨E.pb,0,none⟩),.int .i64 l,.int .i64 nest] w (dh E r w)
 | .row l nest=>Calls Tryz.prog 277 #[.pointer (some ⟨E.pb,0,none⟩),.int .i64 l,.int .i64 nest] w (dh E r w)
 | .neg nest=>Calls Tryz.prog 310 #[.pointer (some ⟨E.pb,0,none⟩),.int .i64 nest] w (dh E r w)
 | .factor nest=>Calls Tryz.prog 311 #[.pointer (some ⟨E.pb,0,none⟩),.int .i64 nest] w (dh E r w)
 | .atom nest=>Calls Tryz.prog 318 #[.pointer (some ⟨E.pb,0,none⟩),.int .i64 nest] w (dh E r w)
 | .name nest=>Calls Tryz.prog 323 #[.pointer (some ⟨E.pb,0,none⟩),.int .i64 nest] w (dh E r w)
 | .loop _ _ _=>True
def vD (E:aT):Task→Prop
 | .expr nest=>nest≤E.depth+1
 | .formula nest=>nest≤E.depth
 | .part l nest=>l≤4∧nest≤E.depth
 | .row l nest=>l≤4∧nest≤E.depth
 | .neg nest=>nest≤E.depth
 | .factor nest=>nest≤E.depth
 | .atom nest=>nest≤E.depth
 | .name nest=>nest≤E.depth
 | .loop l nest _=>l≤4∧nest≤E.depth
def Al (E:aT)(g:Nat):Prop:=∀ (t:Task) (st:aB) (r:Int × aB) (w:World),run E.toks E.depth g t st=some r→PW E st w→r.2.nodes.length+1≤1099511627776→vD E t→lQ E r w t
end Go.Proofs.YtknicmmigbhpcaaGreatDoor

namespace Go.Proofs.YtknicmmigbhpcaaGreatDoor
open Go.RowKit Go
theorem Qz (a:List UInt8)(s:ByteArray):(a == s.toList)=decide (a=s.data.toList):=by
 rw[Go.ByteArray.toList_eq]
 by_cases h:a=s.data.toList
 ·rw[decide_eq_true h,beq_iff_eq];exact h
 ·rw[decide_eq_false h,← Bool.not_eq_true,beq_iff_eq];exact h
theorem Uc (k:Nat):((k:Int) == 1)=decide (k=1):=by
 by_cases h:k=1
 ·subst h;rfl
 ·rw[decide_eq_false h];exact beq_eq_false_iff_ne.2 (by omega)
theorem Ms {s:List UInt8}{l:List Tok}(h:bW s=.ok l)(hl:l.length≠2):dK s=false:=by
 unfold dK;rw[h]
 match l,hl with
 | [],_=>rfl
 | [_],_=>rfl
 | [_,_],h=>exact absurd rfl h
 | _ :: _ :: _ :: _,_=>rfl
theorem qV (s:ByteArray)(w:World)(hs:s.size≤1099511627776) :
  Calls Tryz.prog 48 #[.string s] w fun e w'=>e=.returned (.bool (dK s.data.toList))∧Below w.heap.size w w':=by
 have hL:=GD s w hs;unfold OV at hL
 cases hl:bW s.data.toList with
 | error x =>
  rw[hl] at hL
  have hp:dK s.data.toList=false:=by unfold dK;rw[hl]
  have h0:((x.1:Int) == 0)=false:=beq_eq_false_iff_ne.2 (by have:=(wK hl).2;omega);rw[hp];have HL:=ah hL;clear hl hp hL;go_enter Tryz.func48,Tryz.ntmps48;go_wp2_with (go_at_call 74;refine HL.out.mono ?_;rintro e w1 ⟨hb1,rfl⟩);go_ret;exact⟨rfl,hb1.trans ((aj w1 _).mono hb1.size)⟩
 | ok l =>
  rw[hl] at hL
  by_cases h2:l.length=2
  ·match l,h2 with
   | [t,u],_ =>
    have hp:dK s.data.toList=(decide (t.kind=1) && decide (t.text=s.data.toList)):=by unfold dK;rw[hl]
    rw[hp];have HL:=ah hL;clear hl hp hL;have hk1:=Uc t.kind;have hs1:=Qz t.text s;generalize decide (t.kind=1)=kb at hk1 ⊢;generalize decide (t.text=s.data.toList)=tb at hs1 ⊢;go_enter Tryz.func48,Tryz.ntmps48
    go_upto_region 2 with (go_at_call 74;refine HL.out.mono ?_;rintro e w1 ⟨hb1,v,rfl,hv⟩;obtain⟨ao,cap,rfl,hcap,hf⟩:=hv.form (fun _=>rfl);obtain⟨b,off,rfl,hb,hcell⟩:=hf (by simp);have hal:=aj w1 (.cells #[.int .i64 0,.int .i64 0] 75);have x0:=(hal.cell (p:=⟨b,off,none⟩) hb).trans (by simpa using hcell 0 0 _ (by simp) rfl);have x2:=(hal.cell (p:=⟨b,off+2,none⟩) hb).trans (by simpa using hcell 0 2 _ (by simp) rfl))
    clear hcell hf hv
    cases kb<;>cases tb<;>(go_wp2;go_ret;exact⟨rfl,hb1.trans (hal.mono hb1.size)⟩)
  ·have hp:=Ms hl h2
   have h2I:((l.length:Int) == 2)=false:=beq_eq_false_iff_ne.2 (by omega);rw[hp];have HL:=ah hL;clear hl hp hL h2;go_enter Tryz.func48,Tryz.ntmps48;go_wp2_with (go_at_call 74;refine HL.out.mono ?_;rintro e w1 ⟨hb1,v,rfl,hv⟩;obtain⟨ao,cap,rfl,hcap,hf⟩:=hv.form (fun _=>rfl);clear hf hv);go_ret;exact⟨rfl,hb1.trans ((aj w1 _).mono hb1.size)⟩
end Go.Proofs.YtknicmmigbhpcaaGreatDoor
