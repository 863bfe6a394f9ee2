/- Walks and plain laws: BagW6, BagW5, ExprCells, FreeW, FreeS, EOfZ. -/
import Derived.Test.YtknicmmigbhpcaaGreatDoorB28
import Derived.Test.YtknicmmigbhpcaaGreatDoorB16
set_option maxHeartbeats 16000000
set_option maxRecDepth 100000
set_option linter.unusedVariables false
set_option linter.unusedSimpArgs false
namespace Go.Proofs.YtknicmmigbhpcaaGreatDoor
open Go.RowKit Go Go.Sort
theorem Tryz.Oy:∀ args w,(callFunc 60 args).run Tryz.prog w=.ok (.enter 60 args) w:=Go.Proofs.enters_of Tryz.func60 (by kernel_rfl) rfl
def aej (f:FuncId)(fa:Array Value)(p:List UInt8→Bool)(w:World)(x:List UInt8):Prop:=∀ W,Below w.heap.size w W→Calls Tryz.prog f (fa++#[.string ⟨x.toArray⟩]) W fun r w'=>r=.returned (.bool (p x))∧Below W.heap.size W w'
theorem Sy (f:FuncId)(fa:Array Value)(p:List UInt8→Bool)(eg:∀ args w,(callFunc f args).run Tryz.prog w=.ok (.enter f args) w)(P:Nat→Prop)(ao:Option Addr)(c:Nat)(l:List (List UInt8))(w:World)(h:bJ P w (.slice ao l.length c) l)(hl:l.length≤1000000)(hk:∀ x∈l,aej f fa p w x) :
  Calls Tryz.prog 230 #[.agg #[.slice ao l.length c],.func (.func f) fa #[]] w (nG (l.filter p) w):=by
 obtain⟨i0,hi,hz0,hz1',hz2'⟩:=info_parts Tryz.yj;have hal:=(aj w (.cells #[.slice ao l.length c] 114)).alloc (by simp) (.cells #[.slice none 0 0] 114);have hN:=(Lib.alloc_old (w.alloc (.cells #[.slice ao l.length c] 114)) (.cells #[.slice none 0 0] 114) w.heap.size (by simp)).trans (heap_alloc_new w (.cells #[.slice ao l.length c] 114));have hR:=heap_alloc_new (w.alloc (.cells #[.slice ao l.length c] 114)) (.cells #[.slice none 0 0] 114);rw[World.size_alloc] at hR;have HT:=ah (fun W (hW:Below w.heap.size w W)=>h.below hW);have HK:=ah hk;clear h hk;go_enter Tryz.func230,Tryz.ntmps230
 go_upto_region 1 with fail
 change Code.wp _ _ _ _ ((w.alloc (.cells #[.slice ao l.length c] 114)).alloc (.cells #[.slice none 0 0] 114));generalize (w.alloc _).alloc _=w1 at hal hN hR ⊢;have Sw:=(bG hR).1;have c0:=(aH hN).1;have hz1:=hal.size;go_wp2
 go_loopw [5,7,11] (fun kv _ q wr=>∃ (k:Nat) (ak:Option Addr) (ck:Nat),k≤l.length∧q=.int .i64 k∧kv=.slice ak ((l.take k).filter p).length ck∧qI w1.heap.size wr (.slice ak ((l.take k).filter p).length ck) ((l.take k).filter p)∧Below w1.heap.size w1 wr) (fun _ _ q _=>l.length - (intOf q).toNat)
 case atStart=>exact⟨0,none,0,Nat.zero_le _,rfl,rfl,World.ownsRow_nil _ _ _ _,Below.refl _ _⟩
 case round =>
  obtain⟨k,ak,ck,hkl,rfl,rfl,hown,hbl⟩:=hrel;have uL:=hbl.size;have hbw:=hal.trans (hbl.mono hz1)
  by_cases hlt:k<l.length
  ·obtain⟨Tv,cap,hv,_,hc⟩:=(HT.out wr hbw).slice
   simp only[Value.slice.injEq] at hv;obtain⟨rfl,-,rfl⟩:=hv;obtain⟨b,off,rfl,_,_,hcell⟩:=hc (by omega);have x0:=hcell k hlt;have hA:=HK.out _ (List.getElem_mem hlt) wr hbw;have hsn:=Ah (p:=p) hlt;have hfl:((l.take k).filter p).length≤1000000:=Nat.le_trans (List.length_filter_le _ _) (by rw[List.length_take];omega);have pK:=ah hsn;have HA:=ah hA;have HW:=ah hown
   have oH:(k:Int)<(l.length:Int):=by omega
   clear hcell hA hsn hown;generalize hzs:(l.take k).filter p=zs at *;generalize l[k]=x at *;clear hzs
   cases hp:p x with
   | false =>
    have HN:Hid ((l.take (k+1)).filter p=zs):=ah (by rw[pK.out,hp];simp);have HA2:Hid (Calls Tryz.prog f (fa++#[.string ⟨x.toArray⟩]) wr fun r w'=>r=.returned (.bool false)∧Below wr.heap.size wr w'):=ah (by have:=HA.out;rw[hp] at this;exact this);clear pK hp HA;go_wp2_with (go_at_fn f;refine HA2.out.mono ?_;rintro r w2 ⟨rfl,hb2⟩)
    go_roundw
    case rel =>
     exact⟨k+1,ak,ck,by omega,by go_num,by rw[HN.out],by rw[HN.out];exact own_below HW.out hb2,hbl.trans (hb2.mono uL)⟩
    case measure=>simp[intOf];omega
   | true =>
    have HN:Hid ((l.take (k+1)).filter p=zs++[x]):=ah (by rw[pK.out,hp];simp);have HA2:Hid (Calls Tryz.prog f (fa++#[.string ⟨x.toArray⟩]) wr fun r w'=>r=.returned (.bool true)∧Below wr.heap.size wr w'):=ah (by have:=HA.out;rw[hp] at this;exact this);clear pK hp HA
    go_upto_region 6 with (go_at_fn f;refine HA2.out.mono ?_;rintro r w2 ⟨rfl,hb2⟩)
    have hz2:=hb2.size;have HW2:=ah (own_below HW.out hb2);clear HW HA2;go_wp2_with (at_builtin;refine wpList_append_own _ rfl _ _ 22 rfl w1.heap.size 9 i0 _ 1 16 Tryz.underlying22 hi hz0 hz1' hz2' rfl (by decide) _ zs.length _ rfl (HW2.out.alloc _) ⟨w2.heap.size,0,none⟩ 1 1 [.string ⟨x.toArray⟩] rfl rfl ?q0 ?q00 ?q2 ?q3 ?q4 ?_)
    case q0=>exact World.news_of_block (cs:=#[.string ⟨x.toArray⟩]) (t:=9) (fr:=(0,0)) (heap_alloc_new w2 _)
    case q00=>simp[Value.oneCell']
    case q2=>unfold maxLen;omega
    case q3=>omega
    case q4=>simp;omega
    intro v' w' hown' hgrow hiff;have hb':Below w1.heap.size w1 w':=((hbl.trans (hb2.mono uL)).alloc (by omega) _).grown hgrow (by simp;omega) (fun b q=>(HW2.out.lt b q).1);have Ox:Hid (qI w1.heap.size w' v' (zs++[x])):=ah (qI.app (l:=zs) (a:=[x]) hown');obtain⟨xP,xQ,rfl⟩:=Ox.out.slice;clear hown' hgrow hiff HW2;go_wp2
    go_roundw
    case rel =>
     exact⟨k+1,xP,xQ,by omega,by go_num,by rw[HN.out],by rw[HN.out];exact Ox.out,hb'⟩
    case measure=>simp[intOf];omega
  ·obtain rfl:k=l.length:=by omega
   have oH:decide ((l.length:Int)<(l.length:Int))=false:=decide_eq_false (by omega);rw[List.take_length] at hown ⊢;have HW:=ah hown;have Qb:=(hbl.block _ Sw).trans hR;have hfz:=(aH Qb).2;have hc0:=(aH Qb).1;have hs0:=zC (u:=.slice ak (l.filter p).length ck) Qb;have hbw2:Below w.heap.size w (wr.setCell ⟨w.heap.size+1,0,none⟩ (.slice ak (l.filter p).length ck)):=hbw.setCell (by show w.heap.size≤w.heap.size+1;omega) _
   have Ou:bJ (fun b=>w.heap.size≤b) (wr.setCell ⟨w.heap.size+1,0,none⟩ (.slice ak (l.filter p).length ck)) (.slice ak (l.filter p).length ck) (l.filter p):=((bJ.owns (P:=fun b=>w1.heap.size≤b) hown (fun _ hb=>hb)).frame (aQ.set _ fun k hk=>by show k≠w.heap.size+1;omega)).imp fun k hk _=>by omega
   clear hown hN hR;go_wp2;exact bodyPost_ret (v:=.agg #[.slice ak (l.filter p).length ck]) (by simp[results,Tryz.results230,go_sem,hs0]) rfl ⟨ak,ck,rfl,Ou,hbw2⟩
theorem WK (P Q:Nat→Prop)(ao:Option Addr)(c:Nat)(ab:Option Addr)(cb:Nat)(a b:List (List UInt8))(w:World)(h1:bJ P w (.slice ao a.length c) a)(h2:bJ Q w (.slice ab b.length cb) b)(hr:b.Pairwise (· < ·))(ha:a.length≤500000)(hb:b.length≤500000) :
  Calls Tryz.prog 161 #[.agg #[.slice ao a.length c],.agg #[.slice ab b.length cb]] w (nG (a.filter fun x=>decide (x∈b)) w):=by
 have hmf:∀ (fn:Fn) (first cap:Array Value) (w:World),(Instr.makeFunc fn first cap).run Tryz.prog w=.ok (.func fn first cap) w:=fun _ _ _ _=>rfl
 have hal:=((aj w (.cells #[.slice ao a.length c] 114)).alloc (by simp) (.cells #[.slice ab b.length cb] 114)).alloc (by simp;omega) (.cells #[.slice none 0 0] 114);have hN:=(Lib.alloc_old ((w.alloc (.cells #[.slice ao a.length c] 114)).alloc (.cells #[.slice ab b.length cb] 114)) (.cells #[.slice none 0 0] 114) w.heap.size (by simp;omega)).trans ((Lib.alloc_old (w.alloc (.cells #[.slice ao a.length c] 114)) (.cells #[.slice ab b.length cb] 114) w.heap.size (by simp)).trans (heap_alloc_new w (.cells #[.slice ao a.length c] 114)));have hM0:=heap_alloc_new (w.alloc (.cells #[.slice ao a.length c] 114)) (.cells #[.slice ab b.length cb] 114);rw[World.size_alloc] at hM0;have hM:=(Lib.alloc_old ((w.alloc (.cells #[.slice ao a.length c] 114)).alloc (.cells #[.slice ab b.length cb] 114)) (.cells #[.slice none 0 0] 114) (w.heap.size+1) (by simp)).trans hM0;have hR:=heap_alloc_new ((w.alloc (.cells #[.slice ao a.length c] 114)).alloc (.cells #[.slice ab b.length cb] 114)) (.cells #[.slice none 0 0] 114);rw[World.size_alloc,World.size_alloc] at hR
 have HK:Hid (∀ W,Below w.heap.size w W→Calls Tryz.prog 230 #[.agg #[.slice ao a.length c],.func (.func 60) #[.agg #[.slice ab b.length cb]] #[]] W (nG (a.filter fun x=>decide (x∈b)) W)) :=
  ah (fun W hW=>Sy 60 #[.agg #[.slice ab b.length cb]] (fun x=>decide (x∈b)) Tryz.Oy P ao c a W (h1.below hW) (by omega) (fun x _ W' hW'=>by
   have:=yh Q ab cb b ⟨x.toArray⟩ W' ((h2.below hW).below hW') hr (by omega)
   simpa using this))
 clear h1 h2 ha hb hr;generalize a.filter _=R at HK ⊢;go_enter Tryz.func161,Tryz.ntmps161
 go_upto_region 1 with fail
 change Code.wp _ _ _ _ (((w.alloc (.cells #[.slice ao a.length c] 114)).alloc (.cells #[.slice ab b.length cb] 114)).alloc (.cells #[.slice none 0 0] 114));generalize ((w.alloc _).alloc _).alloc _=w1 at hal hN hM hR ⊢;have Sw:=(bG hR).1;have hz1:=hal.size;have c0:=(aH hN).1;have d0:=(aH hM).1;have HK1:=ah (HK.out w1 hal);clear HK hN hM;go_wp2_with (go_at_call 230;refine HK1.out.mono ?_;rintro e w5 ⟨ak,ck,rfl,abk,hb5⟩;have hR5:=(hb5.block _ Sw).trans hR;have hfz:=(aH hR5).2;have hc0:=(aH hR5).1);have hs0:=zC (u:=.slice ak R.length ck) hR5;have hbw:Below w.heap.size w (w5.setCell ⟨w.heap.size+1+1,0,none⟩ (.slice ak R.length ck)):=(hal.trans (hb5.mono hz1)).setCell (by show w.heap.size≤w.heap.size+1+1;omega) _
 have abl:bJ (fun b=>w.heap.size≤b) (w5.setCell ⟨w.heap.size+1+1,0,none⟩ (.slice ak R.length ck)) (.slice ak R.length ck) R:=(abk.frame (aQ.set _ fun k hk=>by show k≠w.heap.size+1+1;omega)).imp fun k hk _=>by omega
 exact bodyPost_ret (v:=.agg #[.slice ak R.length ck]) (by simp[results,Tryz.results161,go_sem,hs0]) rfl ⟨_,_,rfl,abl,hbw⟩
theorem DT (ao:Option Addr)(n c:Nat)(w:World) :
  Calls Tryz.prog 162 #[.agg #[.slice ao n c]] w fun r w'=>r=.returned (.int .i64 n)∧Below w.heap.size w w':=by
 have hal:=aj w (.cells #[.slice ao n c] 114);have c0:=(aH (heap_alloc_new w (.cells #[.slice ao n c] 114))).1;go_enter Tryz.func162,Tryz.ntmps162;go_wp2;go_ret;exact⟨rfl,hal⟩
theorem Oz (P Q:Nat→Prop)(ao:Option Addr)(c:Nat)(ab:Option Addr)(cb:Nat)(a b:List (List UInt8))(w:World)(h1:bJ P w (.slice ao a.length c) a)(h2:bJ Q w (.slice ab b.length cb) b)(hr:b.Pairwise (· < ·))(ha:a.length≤500000)(hb:b.length≤500000) :
  Calls Tryz.prog 98 #[.agg #[.slice ao a.length c],.agg #[.slice ab b.length cb]] w fun r w'=>r=.returned (.bool (decide ((a.filter fun x=>decide (x∈b)).length=a.length)))∧Below w.heap.size w w':=by
 have hal:=(aj w (.cells #[.slice ao a.length c] 114)).alloc (by simp) (.cells #[.slice ab b.length cb] 114);have hN:=(Lib.alloc_old (w.alloc (.cells #[.slice ao a.length c] 114)) (.cells #[.slice ab b.length cb] 114) w.heap.size (by simp)).trans (heap_alloc_new w (.cells #[.slice ao a.length c] 114));have hM:=heap_alloc_new (w.alloc (.cells #[.slice ao a.length c] 114)) (.cells #[.slice ab b.length cb] 114);rw[World.size_alloc] at hM;have HB:=ah (fun W (hW:Below w.heap.size w W)=>WK P Q ao c ab cb a b W (h1.below hW) (h2.below hW) hr ha hb);clear h1 h2 hr ha hb;generalize a.filter _=R at HB ⊢;generalize hn:a.length=n at *;generalize hm:b.length=m at *;clear hn hm
 have hd:decide (R.length=n)=((R.length:Int) == (n:Int)):=by rw[Bool.eq_iff_iff,decide_eq_true_eq,beq_iff_eq];omega
 rw[hd];have HD:=ah hd;clear hd;go_enter Tryz.func98,Tryz.ntmps98
 go_upto_region 1 with fail
 change Code.wp _ _ _ _ ((w.alloc (.cells #[.slice ao n c] 114)).alloc (.cells #[.slice ab m cb] 114));generalize (w.alloc _).alloc _=w1 at hal hN hM ⊢;have hl1:=(bG hN).1;have hl2:=(bG hM).1;have c0:=(aH hN).1;have d0:=(aH hM).1;have hz1:=hal.size;have HB1:=ah (HB.out w1.drew hal.drew);clear hN hM HB
 have p3:w1.drew.cell? ⟨w.heap.size,0,none⟩=some (.slice ao n c)∧w1.drew.cell? ⟨w.heap.size+1,0,none⟩=some (.slice ab m cb):=⟨c0,d0⟩
 go_region_held3 (fun W=>W.cell? ⟨w.heap.size,0,none⟩=some (.slice ao n c)∧W.cell? ⟨w.heap.size+1,0,none⟩=some (.slice ab m cb))
  (first|(with_reducible exact p3)|(go_keep;done))
  (first|(go_at_call 161;refine HB1.out.mono ?_;rintro e w2 ⟨ak,ck,rfl,-,hb2⟩;have sj:=(Below.refl w1.heap.size w1).drew.trans hb2;have p3:=And.intro (cell_later sj c0) (cell_later sj d0))|(go_at_call 162;refine(DT ak R.length ck _).mono ?_;rintro e w3 ⟨rfl,hb3⟩;have vD:=sj.trans (hb3.mono sj.size);have p3:=And.intro (cell_later vD c0) (cell_later vD d0))|(go_at_call 162;refine(DT ao n c _).mono ?_;rintro e w4 ⟨rfl,hb4⟩;have Lh:=vD.trans (hb4.mono vD.size);have p3:=And.intro (cell_later Lh c0) (cell_later Lh d0)))
 all_goals
  clear p3 c0 d0;go_wp2;go_ret;exact⟨rfl,hal.trans (Lh.mono hz1)⟩
theorem Tryz.WL:∀ args w,(callFunc 275 args).run Tryz.prog w=.ok (.enter 275 args) w:=Go.Proofs.enters_of Tryz.func275 (by kernel_rfl) rfl
theorem IY (P:Nat→Prop)(b:Nat)(ao:Option Addr)(c:Nat)(l:List (List UInt8))(x:List UInt8)(w:World)(hb:w.heap[b]?=some (.cells #[.slice ao l.length c] 114 (0,0)))(h:bJ P w (.slice ao l.length c) l)(hr:l.Pairwise (· < ·))(hl:l.length≤1000000) :
  Calls Tryz.prog 275 (#[.string ⟨x.toArray⟩]++#[.pointer (some ⟨b,0,none⟩)]) w fun r w'=>r=.returned (.bool (decide (x ∉ l)))∧Below w.heap.size w w':=by
 have c0:=(aH hb).1;have HH:=ah (yh P ao c l ⟨x.toArray⟩ w h hr hl)
 have e:decide (x ∉ l)=!decide (x∈l):=by simp
 rw[e];simp only at HH;generalize decide (x∈l)=r at *;show Calls Tryz.prog 275 #[.string ⟨x.toArray⟩,.pointer (some ⟨b,0,none⟩)] w _;clear h hr hl hb e;go_enter Tryz.func275,Tryz.ntmps275;go_wp2_with (go_at_call 60;refine HH.out.mono ?_;rintro e w2 ⟨rfl,hb2⟩);go_ret;exact⟨rfl,hb2⟩
theorem Li (P:Nat→Prop)(ao:Option Addr)(c:Nat)(v2:Value)(a b:List (List UInt8))(w:World)(h1:bJ P w (.slice ao a.length c) a)(h2:bJ P w v2 b)(ha:a.length≤500000)(hb:b.length≤500000) :
  Calls Tryz.prog 229 #[.agg #[.slice ao a.length c],v2] w (nG (a.filter fun x=>decide (x ∉ bF b)) w):=by
 have hmf:∀ (fn:Fn) (first cap:Array Value) (w:World),(Instr.makeFunc fn first cap).run Tryz.prog w=.ok (.func fn first cap) w:=fun _ _ _ _=>rfl
 have hal:=(aj w (.cells #[.slice ao a.length c] 114)).alloc (by simp) (.cells #[.slice none 0 0] 114);have hN:=(Lib.alloc_old (w.alloc (.cells #[.slice ao a.length c] 114)) (.cells #[.slice none 0 0] 114) w.heap.size (by simp)).trans (heap_alloc_new w (.cells #[.slice ao a.length c] 114));have hR:=heap_alloc_new (w.alloc (.cells #[.slice ao a.length c] 114)) (.cells #[.slice none 0 0] 114);rw[World.size_alloc] at hR;have Lg:=ah (fun W (hW:Below w.heap.size w W)=>IW P v2 b W (h2.below hW) (by omega))
 have HK:Hid (∀ W,Below w.heap.size w W→∀ (B:Nat) (ab:Option Addr) (cs:Nat),W.heap[B]?=some (.cells #[.slice ab (bF b).length cs] 114 (0,0))→bJ (fun k=>w.heap.size≤k) W (.slice ab (bF b).length cs) (bF b)→Calls Tryz.prog 230 #[.agg #[.slice ao a.length c],.func (.func 275) #[] #[.pointer (some ⟨B,0,none⟩)]] W (nG (a.filter fun x=>decide (x ∉ bF b)) W)) :=
  ah (fun W hW B ab cs hB hs=>WJ 275 #[.pointer (some ⟨B,0,none⟩)] (fun x=>decide (x ∉ bF b)) Tryz.WL P ao c a W (h1.below hW) (by omega) (fun x _ W' hW'=>IY _ B ab cs (bF b) x W' ((hW'.block B (bG hB).1).trans hB) (hs.below hW') (sF b) (by have:=kK b;omega)))
 clear h1 h2 ha hb;generalize a.filter _=R at HK ⊢;generalize bF b=S at *;go_enter Tryz.func229,Tryz.ntmps229
 go_upto_region 1 with fail
 change Code.wp _ _ _ _ ((w.alloc (.cells #[.slice ao a.length c] 114)).alloc (.cells #[.slice none 0 0] 114));generalize (w.alloc _).alloc _=w1 at hal hN hR ⊢;have Sw:=(bG hR).1;have hz1:=hal.size;have ac1:=ah (Lg.out w1 hal);clear Lg
 go_upto_region 2 with (go_at_call 93;refine ac1.out.mono ?_;rintro e w3 ⟨ar,cr,rfl,htx,hb3⟩)
 have hz3:=hb3.size;have hB4:=heap_alloc_new w3 (.cells #[.slice ar S.length cr] 114);have Lh:Below w1.heap.size w1 (w3.alloc (.cells #[.slice ar S.length cr] 114)):=hb3.alloc hz3 _
 have ac4:bJ (fun k=>w.heap.size≤k) (w3.alloc (.cells #[.slice ar S.length cr] 114)) (.slice ar S.length cr) S:=(htx.below (aj w3 _)).imp fun k hk _=>by omega
 generalize w3.alloc _=w4 at *;have KI:=Lh.size;have lQ:=hal.trans (Lh.mono hz1);have HK1:=ah (HK.out w4 lQ _ _ _ hB4 ac4);have Vq:=(Lh.block w.heap.size (by omega)).trans hN;have hR4:=(Lh.block _ Sw).trans hR;have c0:=(aH Vq).1;clear htx ac4 HK hb3 ac1 hN hR hB4;go_wp2_with (go_at_call 230;refine HK1.out.mono ?_;rintro e w5 ⟨ak,ck,rfl,abk,hb5⟩;have hR5:=(hb5.block _ (by omega)).trans hR4;have hfz:=(aH hR5).2;have hc0:=(aH hR5).1);have hs0:=zC (u:=.slice ak R.length ck) hR5;have hbw:Below w.heap.size w (w5.setCell ⟨w.heap.size+1,0,none⟩ (.slice ak R.length ck)):=(lQ.trans (hb5.mono lQ.size)).setCell (by show w.heap.size≤w.heap.size+1;omega) _
 have abl:bJ (fun b=>w.heap.size≤b) (w5.setCell ⟨w.heap.size+1,0,none⟩ (.slice ak R.length ck)) (.slice ak R.length ck) R:=(abk.frame (aQ.set _ fun k hk=>by show k≠w.heap.size+1;omega)).imp fun k hk _=>by omega
 exact bodyPost_ret (v:=.agg #[.slice ak R.length ck]) (by simp[results,Tryz.results229,go_sem,hs0]) rfl ⟨_,_,rfl,abl,hbw⟩
end Go.Proofs.YtknicmmigbhpcaaGreatDoor

namespace Go.Proofs.YtknicmmigbhpcaaGreatDoor
open Go.RowKit Go
theorem rE {w:World}{b:Nat}{c0 c1 c2 c3 c4 c5 c6 c7:Value}(h:w.heap[b]?=some (.cells #[c0,c1,c2,c3,c4,c5,c6,c7] 46 (0,0))) :
  w.cell? ⟨b,0,none⟩=some c0∧w.cell? ⟨b,1,none⟩=some c1∧w.cell? ⟨b,2,none⟩=some c2∧w.cell? ⟨b,3,none⟩=some c3∧w.cell? ⟨b,4,none⟩=some c4∧w.cell? ⟨b,5,none⟩=some c5∧w.cell? ⟨b,6,none⟩=some c6∧w.cell? ⟨b,7,none⟩=some c7∧∀ j,w.frozen? ⟨b,j,none⟩=false:=by
 refine⟨?_,?_,?_,?_,?_,?_,?_,?_,fun j=>by simp[World.frozen?,h]⟩<;>(rw[Lib.cell_of_heap h];rfl)
end Go.Proofs.YtknicmmigbhpcaaGreatDoor

namespace Go.Proofs.YtknicmmigbhpcaaGreatDoor
open Go.RowKit Go Go.Sort
theorem Ai (op:Nat)(nm:List UInt8)(l:List (List UInt8)):∀ (a:List (List (List UInt8))) (acc:List (List UInt8)) (i:Nat),sI op nm acc i (a++[l])=bF (sI op nm acc i a++kQ op nm (i+a.length) l)
  | [],acc,i=>rfl
  | x :: a,acc,i=>by rw[List.cons_append,sI,sI,Ai op nm l a,eG,show i+1+a.length=i+(a.length+1) by omega]
mutual
theorem PE.qJ:∀ e:PE,e.bI.length≤e.size
  | .mk op nm m n t y kids a=>by
    rw[PE.bI,PE.size];have h1:=Bt (op:=op) (nm:=nm) (iL kids) (iK op nm) 0;have h2:=zD kids
    have h3:(iK op nm).length≤1:=by
      unfold iK
      split
      · exact kK [nm]
      · simp
    omega
theorem zD:∀ l:List PE,Mr (iL l)≤jU l
  | []=>Nat.le_refl _
  | e :: l=>by
    have h1:=PE.qJ e;have h2:=zD l;rw[iL,Mr,jU];omega
end
theorem OA (op:Nat)(nm:List UInt8):(iK op nm).length≤1:=by
  unfold iK
  split
  · exact kK [nm]
  · simp
theorem Gs (op:Nat)(nm:List UInt8)(i:Nat)(l:List (List UInt8)):(kQ op nm i l).length≤l.length:=by
  unfold kQ
  split
  · exact List.length_filter_le _ _
  · exact Nat.le_refl _
theorem SA (op:Nat)(nm:List UInt8)(i:Nat)(l:List (List UInt8))(h:op=22∧i=1):(l.filter fun x=>decide (x ∉ bF [nm]))=kQ op nm i l:=by
  unfold kQ;rw[if_pos h]
  congr 1
  funext x
  simp[TL]
def Qc (P:Nat→Prop)(w:World)(B:Nat)(l:List (List UInt8)):Prop:=∃ ao c,w.heap[B]?=some (.cells #[.slice ao l.length c] 114 (0,0))∧bJ P w (.slice ao l.length c) l
theorem WM (w:World)(x:List UInt8):bJ (fun _=>True) (w.alloc (.cells #[.string ⟨x.toArray⟩] 9)) (.slice (some ⟨w.heap.size,0,none⟩) 1 1) [x]:=by
  refine⟨⟨_,1,rfl,Nat.le_refl _,rfl,fun _=>⟨w.heap.size,0,rfl,trivial,by simp,fun i hi=>?_⟩⟩,fun n c q=>by cases q⟩
  obtain rfl:i=0:=by simpa using hi
  rw[Lib.cell_of_heap (heap_alloc_new w _)]
  rfl
theorem Lj:∀ (n:Nat) (e:PE),SizeOf.sizeOf e<n→∀ (B:Nat) (am:Option Addr) (wn cm:Nat) (ae:Option Addr) (ce:Nat) (w:World),kJ XA (fun b=>b<B) w (.slice am wn cm) (.slice ae e.kids.length ce) e→B≤w.heap.size→e.size≤400000 →
    Calls Tryz.prog 159 #[.agg #[.int .i64 e.op,.string ⟨e.name.toArray⟩,.string ⟨e.module.toArray⟩,.bool (decide (e.num<0)),.slice am wn cm,.bool e.yes,.slice ae e.kids.length ce,.int .i64 e.at_]] w (nG e.bI w)
  | 0,e,hs,_,_,_,_,_,_,_,_,_,_=>absurd hs (by omega)
  | n+1,e,hs,B,am,wn,cm,ae,ce,w,h,hB,hz=>by
    have hsub:=iY e;have hdef:=e.tK;have hfd:=e.Qs;obtain⟨Ay,ae',ce',hv,hcap,hf⟩:=h.form;simp only[Value.slice.injEq] at hv;obtain⟨rfl,-,rfl⟩:=hv;have ED:=FV e.kids;have IH:=ah (fun (x:PE) (hx:x∈e.kids)=>Lj n x (by have:=hsub x hx;omega));have HF:=ah hf;have HFD:=ah hfd
    have hkl:e.kids.length≤400000:=by omega
    have hzk:jU e.kids+1≤400000:=by omega
    clear h Ay hf hsub hs hdef hz hfd;have hal:=(aj w (.cells #[.int .i64 e.op,.string ⟨e.name.toArray⟩,.string ⟨e.module.toArray⟩,.bool (decide (e.num<0)),.slice am wn cm,.bool e.yes,.slice ae e.kids.length ce,.int .i64 e.at_] 46)).alloc (by simp) (.cells #[.slice none 0 0] 114);have g0:=(Lib.alloc_old (w.alloc (.cells #[.int .i64 e.op,.string ⟨e.name.toArray⟩,.string ⟨e.module.toArray⟩,.bool (decide (e.num<0)),.slice am wn cm,.bool e.yes,.slice ae e.kids.length ce,.int .i64 e.at_] 46)) (.cells #[.slice none 0 0] 114) w.heap.size (by simp)).trans (heap_alloc_new w (.cells #[.int .i64 e.op,.string ⟨e.name.toArray⟩,.string ⟨e.module.toArray⟩,.bool (decide (e.num<0)),.slice am wn cm,.bool e.yes,.slice ae e.kids.length ce,.int .i64 e.at_] 46));have g1:=heap_alloc_new (w.alloc (.cells #[.int .i64 e.op,.string ⟨e.name.toArray⟩,.string ⟨e.module.toArray⟩,.bool (decide (e.num<0)),.slice am wn cm,.bool e.yes,.slice ae e.kids.length ce,.int .i64 e.at_] 46)) (.cells #[.slice none 0 0] 114);rw[World.size_alloc] at g1;generalize hop:e.op=op at *;generalize hnm:e.name=nm at *;generalize hkk:e.kids=ks at *;clear hop hnm;go_enter Tryz.func159,Tryz.ntmps159
    go_upto_region 1 with fail
    change Code.wp _ _ _ _ ((w.alloc _).alloc (.cells #[.slice none 0 0] 114));generalize (w.alloc _).alloc _=w1 at hal g0 g1 ⊢;have hz1:=hal.size;have hl1:=(bG g1).1;have gT:=heap_alloc_new w1 (.cells #[.slice none 0 0] 114);have G0:=(Lib.alloc_old w1 (.cells #[.slice none 0 0] 114) w.heap.size (by omega)).trans g0;have G1:=(Lib.alloc_old w1 (.cells #[.slice none 0 0] 114) _ hl1).trans g1;have hb2:=hal.alloc hz1 (.cells #[.slice none 0 0] 114)
    have hlT:w1.heap.size<(w1.alloc (.cells #[.slice none 0 0] 114)).heap.size:=by simp
    go_upto_region 2 with fail
    generalize w1.alloc _=w2 at *;generalize hTT:w1.heap.size=T at *;clear g0 g1 hal hTT hz1;obtain⟨r0,r1,r2,r3,r4,r5,r6,r7,rz⟩:=rE G0
    go_upto_if 9 with fail
    go_cut [] (fun wc=>Qc (fun b=>T<b) wc T (iK op nm)∧Below T w2 wc)
    case first =>
      by_cases h3:op=3
      · have h3I:((op:Int) == 3)=true:=by simp[h3]
        have hst:iK op nm=bF [nm]:=by rw[iK,if_pos h3]
        have HO:=ah ((IW _ _ [nm] _ (WM w2 nm) (by simp)).mono fun e w' q=>(show ∃ ao c,e=.returned (.agg #[.slice ao (bF [nm]).length c])∧bJ (fun b=>T<b) w' (.slice ao (bF [nm]).length c) (bF [nm])∧Below w2.heap.size w2 w' from by obtain⟨ao,c,q1,q2,q3⟩:=q;exact⟨ao,c,q1,q2.imp fun k hk _=>by simp at hk;omega,(aj w2 _).trans (q3.mono (by simp))⟩));have HST:=ah hst;clear IH HF HFD h3 hst;generalize bF [nm]=S at *;go_wp2_with (go_at_call 93;refine HO.out.mono ?_;rintro r w3 ⟨ao,c,rfl,htx,hb3⟩;have gT3:=(hb3.block T hlT).trans gT;have hfz:=(aH gT3).2;have hc0:=(aH gT3).1)
        go_meet
        have gT4:=heap_setCell_same w3 T 0 _ _ (.slice ao S.length c) gT3;rw[HST.out];exact⟨⟨ao,c,gT4,htx.frame (aQ.set _ fun k hk=>by show k≠T;omega)⟩,(hb3.mono (Nat.le_of_lt hlT)).setCell (Nat.le_refl _) _⟩
      · have h3I:((op:Int) == 3)=false:=by simp;omega
        have hst:iK op nm=[]:=by rw[iK,if_neg h3]
        have HST:=ah hst;clear hst;go_wp2
        go_meet
        rw[HST.out];exact⟨⟨none,0,gT,bJ.nil _ _⟩,Below.refl _ _⟩
    case rest =>
      obtain⟨hset,hbc⟩:=hcut
      obtain⟨w3,rfl⟩:∃ w3:World,w3=wc:=⟨_,rfl⟩
      have hz3:=hbc.size;have hb3:=hb2.trans (hbc.mono (by omega:w.heap.size≤T));have G03:=(hbc.block w.heap.size (by omega)).trans G0;have G13:=(hbc.block (w.heap.size+1) (by omega)).trans G1;clear r0 r1 r2 r3 r4 r5 r6 r7 rz G0 G1 gT hbc hb2;obtain⟨r0,r1,r2,r3,r4,r5,r6,r7,rz⟩:=rE G03
      have afG:T<w3.heap.size:=by omega
      clear hlT hz3
      go_upto_region 5 with fail
      clear r0 r1 r2 r3 r4 r5 r6 r7 rz
      have hl0:w.heap.size<w3.heap.size:=by omega
      go_loopw [17] (fun q wr=>∃ k:Nat,k≤ks.length∧q=.int .i64 k∧Qc (fun b=>T<b) wr T (sI op nm (iK op nm) 0 (iL (ks.take k)))∧Below T w3 wr) (fun q _=>ks.length - (intOf q).toNat)
      case atStart=>exact⟨0,Nat.zero_le _,rfl,hset,Below.refl _ _⟩
      case round =>
        obtain⟨k,hk,rfl,⟨ao,c,hTk,htk⟩,hbl⟩:=hrel;have hw:=hbl.size;have hbw:=hb3.trans (hbl.mono (by omega:w.heap.size≤T));have G0:=(hbl.block w.heap.size (by omega)).trans G03;have G1:=(hbl.block (w.heap.size+1) (by omega)).trans G13
        by_cases hlt:k<ks.length
        · obtain⟨w4,rfl⟩:∃ w4:World,w4=wr:=⟨_,rfl⟩
          obtain⟨b,off,rfl,YT,hbb,qx⟩:=HF.out (by omega);obtain⟨m,kv,hE,hc⟩:=qx k hlt;have hmem:ks[k]∈ks:=List.getElem_mem hlt
          have hsn:iL (ks.take (k+1))=iL (ks.take k)++[ks[k].bI]:=by rw[lN,lN,List.take_succ_eq_append_getElem hlt,List.map_append];rfl
          have hfl:(iL (ks.take k)).length=k:=by rw[lN,List.length_map,List.length_take];omega
          have hle:=FU ks _ hmem
          have hsum:Mr (iL (ks.take k))≤jU ks:=by
            have h1:=zD (ks.take k);have h2:=xL (ks.take k) (ks.drop k);rw[List.take_append_drop] at h2;omega
          have hacc:=Bt (op:=op) (nm:=nm) (iL (ks.take k)) (iK op nm) 0;have aek:=OA op nm;have hxl:=ks[k].qJ
          have abm:sI op nm (iK op nm) 0 (iL (ks.take (k+1)))=bF (sI op nm (iK op nm) 0 (iL (ks.take k))++kQ op nm k ks[k].bI):=by rw[hsn,Ai,hfl,Nat.zero_add]
          generalize sI op nm (iK op nm) 0 (iL (ks.take k))=acc at *;obtain⟨F3,F6,F7,ae1,ce1,rfl,rfl⟩:=hE.YQ;have IHx:=IH.out _ hmem B F3 F6 F7 ae1 ce1
          have oH:(k:Int)<(ks.length:Int):=by omega
          generalize ks[k]=x at hE hc hle IHx hxl abm;have y0:=(hbw.cell (p:=⟨b,off+k * 8,none⟩) hbb).trans (hc 0 _ rfl);have y1:=(hbw.cell (p:=⟨b,off+k * 8+1,none⟩) hbb).trans (hc 1 _ rfl);have y2:=(hbw.cell (p:=⟨b,off+k * 8+2,none⟩) hbb).trans (hc 2 _ rfl);have y3:=(hbw.cell (p:=⟨b,off+k * 8+3,none⟩) hbb).trans (hc 3 _ rfl);have y4:=(hbw.cell (p:=⟨b,off+k * 8+4,none⟩) hbb).trans (hc 4 _ rfl);have y5:=(hbw.cell (p:=⟨b,off+k * 8+5,none⟩) hbb).trans (hc 5 _ rfl);have y6:=(hbw.cell (p:=⟨b,off+k * 8+6,none⟩) hbb).trans (hc 6 _ rfl);have y7:=(hbw.cell (p:=⟨b,off+k * 8+7,none⟩) hbb).trans (hc 7 _ rfl);simp only[dh] at y1 y2;have HI:=ah (fun o=>IHx (w4.alloc o) (hE.frame (aQ.sQ (hbw.alloc hbw.size o) (fun b hb=>by omega))) (by simp;have:=hbw.size;omega) (by omega));have pK:=ah abm;have Wy:=ah htk;have ael:=hbw.size;have aem:=(bG hTk).1
          have hA4:acc.length≤400000:=by omega
          have hX4:x.bI.length≤400000:=by omega
          clear hacc hxl hle;clear qx hc hE IHx hsn abm htk hfl hsum hmem aek
          go_upto_region 8 with (go_at_call 159;refine(HI.out _).mono ?_;rintro r w5 ⟨au,cu,rfl,htu,hb5⟩)
          have LZ:=hb5.size;have zT:Below w4.heap.size w4 w5:=(aj w4 _).trans (hb5.mono (by simp));have hU6:=heap_alloc_new w5 (.cells #[.slice au x.bI.length cu] 114);have hq6:Below w4.heap.size w4 (w5.alloc (.cells #[.slice au x.bI.length cu] 114)):=zT.alloc zT.size _;have Zo:bJ (fun b=>T<b∧b≠w5.heap.size) (w5.alloc (.cells #[.slice au x.bI.length cu] 114)) (.slice au x.bI.length cu) x.bI:=(htu.imp (Q:=fun b=>T<b∧b≠w5.heap.size) (fun b hb hl=>⟨by have:=zT.size;simp at hb;omega,by omega⟩)).below (aj w5 _)
          have hUw:T<w5.heap.size:=by have:=zT.size;omega
          have hU4:w4.heap.size≤w5.heap.size:=zT.size
          have hUl:w5.heap.size<(w5.alloc (.cells #[.slice au x.bI.length cu] 114)).heap.size:=by simp
          clear y0 y1 y2 y3 y4 y5 y6 y7 htu hb5 LZ;generalize hUU:w5.heap.size=U at *;generalize w5.alloc _=w6 at *;have hz6:=hq6.size;have ac5:=(hq6.block T aem).trans hTk;have abn:=(Wy.out.imp (Q:=fun b=>T<b∧b<U) fun b hb hl=>⟨hb,by omega⟩).below hq6;have Oh:=hbw.trans (hq6.mono ael);have yS:=hbl.trans (hq6.mono (by omega:T≤w4.heap.size));have g06:=(hq6.block w.heap.size (by omega)).trans G0;have g16:=(hq6.block (w.heap.size+1) (by omega)).trans G1;obtain⟨r0,r1,r2,r3,r4,r5,r6,r7,rz⟩:=rE g06;clear hUU zT hTk Wy HI G0 G1 hbw hbl hq6
          obtain⟨bb,WO⟩:∃ bb,decide (op=22∧k=1)=bb:=⟨_,rfl⟩
          have WQ:=ah WO;clear WO
          go_cut [30] (fun v wc=>v=.bool bb∧w6=wc)
          case first =>
            go_wp2
            all_goals
              go_meet
              refine⟨?_,rfl⟩;rw[← WQ.out]
              congr 1
              first
                | (have hh:op=22:=by omega
                   by_cases hk1:k=1
                   · subst hk1;simp[hh]
                   · have hk2:((k:Int) == 1)=false:=by simp;omega
                     rw[hk2];simp[hk1])
                | (have hh:¬ op=22:=by omega
                   simp[hh])
          case rest =>
            obtain⟨rfl,rfl⟩:=hcut
            go_upto_if 30 with fail
            go_cut [] (fun wc=>Qc (fun b=>T<b∧b≠U) wc U (kQ op nm k x.bI)∧Below U w6 wc)
            case first =>
              cases bb with
              | true =>
                have hlet:op=22∧k=1:=of_decide_eq_true WQ.out;have hq:=SA op nm k x.bI hlet;have hll:=Gs op nm k x.bI;have HWO:=Li (fun _=>True) au cu (.slice (some ⟨w6.heap.size,0,none⟩) 1 1) x.bI [nm] (w6.alloc (.cells #[.string ⟨nm.toArray⟩] 9)) ((Zo.below (aj w6 _)).imp fun _ _ _=>trivial) (WM w6 nm) (by omega) (by simp);rw[hq] at HWO;have HW1:=ah (HWO.mono fun e w' q=>(show ∃ ao c,e=.returned (.agg #[.slice ao (kQ op nm k x.bI).length c])∧bJ (fun b=>T<b∧b≠U) w' (.slice ao (kQ op nm k x.bI).length c) (kQ op nm k x.bI)∧Below w6.heap.size w6 w' from by obtain⟨ao,c,q1,q2,q3⟩:=q;exact⟨ao,c,q1,q2.imp fun k hk _=>by simp at hk;omega,(aj w6 _).trans (q3.mono (by simp))⟩));obtain⟨u0,uz⟩:=aH hU6;clear IH HF HFD hq HWO pK Zo abn hlet;generalize kQ op nm k x.bI=L at *;go_wp2_with (go_at_call 229;refine HW1.out.mono ?_;rintro r w7 ⟨al,cl,rfl,htl,rZ⟩;have gU7:=(rZ.block U hUl).trans hU6;have hfz:=(aH gU7).2;have hc0:=(aH gU7).1)
                go_meet
                have gU8:=heap_setCell_same w7 U 0 _ _ (.slice al L.length cl) gU7;exact⟨⟨al,cl,gU8,htl.frame (aQ.set _ fun k hk=>hk.2)⟩,(rZ.mono (Nat.le_of_lt hUl)).setCell (Nat.le_refl U) _⟩
              | false =>
                have hlet:¬(op=22∧k=1):=of_decide_eq_false WQ.out
                have hq:kQ op nm k x.bI=x.bI:=by rw[kQ,if_neg hlet]
                have HQ:=ah hq;clear hq hlet;go_wp2
                go_meet
                rw[HQ.out];exact⟨⟨au,cu,hU6,Zo⟩,Below.refl _ _⟩
            case rest =>
              obtain⟨⟨al,cl,hU7,htl⟩,OB⟩:=hcut
              obtain⟨w7,rfl⟩:∃ w7:World,w7=wc:=⟨_,rfl⟩
              have hll:=Gs op nm k x.bI;generalize kQ op nm k x.bI=L at *;have afH:=OB.size;have V4:=(OB.block T hUw).trans ac5
              have ht7:bJ (fun b=>T<b) w7 (.slice ao acc.length c) acc:=(abn.frame (aQ.sQ OB fun b hb=>hb.2)).imp fun b hb _=>hb.1
              have aaV:=yS.trans (OB.mono (Nat.le_of_lt hUw));have WR:=(bG V4).1;have aen:=(bG hU7).1;have c0:=(aH V4).1;have c1:=(aH hU7).1;have HIT:=ah (fun W (hW:Below w7.heap.size w7 W)=>Gr _ al cl L W (htl.below hW) (by omega));have HWI:=ah (fun W v (hW:Below w7.heap.size w7 W) (hv:bJ (fun b=>T<b) W v L)=>DN (fun b=>T<b) ao c v acc L W (ht7.below hW) hv (by omega) (by omega));clear r0 r1 r2 r3 r4 r5 r6 r7 rz g06 g16 ac5 hU6 Zo abn
              go_upto_region 10 with fail
              go_region_with (first
                  | (go_at_call 160;refine(HIT.out _ (Below.refl _ _).drew).mono ?_;rintro e wI ⟨ai,ci,rfl,hti,hbI⟩;have hqI:Below w7.heap.size w7 wI:=(Below.refl _ _).drew.trans hbI;have d0:=(hqI.cell (p:=⟨T,0,none⟩) WR).trans c0;have d1:=(hqI.cell (p:=⟨U,0,none⟩) aen).trans c1)
                  | (go_at_call 61;refine(HWI.out wI _ hqI (hti.imp fun k hk _=>Nat.lt_of_lt_of_le WR hk)).mono ?_;rintro e w8 ⟨a8,c8,rfl,ht8,jq⟩;have hq8:=hqI.trans (jq.mono hqI.size);have hT8:=(hq8.block T WR).trans V4;have hfz:=(aH hT8).2;have hc0:=(aH hT8).1))
              all_goals
                have gT9:=heap_setCell_same w8 T 0 _ _ (.slice a8 (bF (acc++L)).length c8) hT8
                have htT:Qc (fun b=>T<b) (w8.setCell ⟨T,0,none⟩ (.slice a8 (bF (acc++L)).length c8)) T (bF (acc++L)):=⟨a8,c8,gT9,(ht8.imp fun k hk _=>Nat.lt_of_lt_of_le WR (Nat.le_trans hqI.size hk)).frame (aQ.set _ fun k hk=>by show k≠T;omega)⟩
                have hbT:Below T w3 (w8.setCell ⟨T,0,none⟩ (.slice a8 (bF (acc++L)).length c8)):=(aaV.trans (hq8.mono (Nat.le_of_lt WR))).setCell (Nat.le_refl T) _;have Mc:=ah htT;clear htT gT9 hT8 hti ht8 c0 c1;go_wp2_with fail
                go_roundw
                case rel=>exact⟨k+1,by omega,by go_num,by rw[pK.out];exact Mc.out,hbT⟩
                case measure=>simp[intOf];omega
        · obtain rfl:k=ks.length:=by omega
          have oH:decide ((ks.length:Int)<(ks.length:Int))=false:=decide_eq_false (by omega);rw[List.take_length] at hTk htk;have HFE:Hid (e.bI=sI op nm (iK op nm) 0 (iL ks)):=ah (by rw[HFD.out,lN]);generalize sI op nm (iK op nm) 0 (iL ks)=acc at *;have c0:=(aH hTk).1;obtain⟨c1,cz⟩:=aH G1;have Wy:=ah htk;clear IH HF HFD hset htk;go_wp2;have hs0:=zC (u:=.slice ao acc.length c) G1;rw[HFE.out];refine bodyPost_ret (v:=.agg #[.slice ao acc.length c]) (by simp[results,Tryz.results159,go_sem,hs0]) rfl ⟨_,_,rfl,?_,hbw.setCell (by show w.heap.size≤w.heap.size+1;omega) _⟩
          exact(Wy.out.imp (Q:=fun b=>w.heap.size+1<b) fun b hb _=>by omega).frame (aQ.set _ fun k hk=>by show k≠w.heap.size+1;omega) |>.imp fun b hb _=>by omega
theorem SB (e:PE)(B:Nat)(am:Option Addr)(wn cm:Nat)(ae:Option Addr)(ce:Nat)(w:World)(h:kJ XA (fun b=>b<B) w (.slice am wn cm) (.slice ae e.kids.length ce) e)(hB:B≤w.heap.size)(hz:e.size≤400000) :
  Calls Tryz.prog 97 #[.agg #[.int .i64 e.op,.string ⟨e.name.toArray⟩,.string ⟨e.module.toArray⟩,.bool (decide (e.num<0)),.slice am wn cm,.bool e.yes,.slice ae e.kids.length ce,.int .i64 e.at_]] w (IX e.bI w):=by
 have hlen:=e.qJ;have g0:=heap_alloc_new w (.cells #[.int .i64 e.op,.string ⟨e.name.toArray⟩,.string ⟨e.module.toArray⟩,.bool (decide (e.num<0)),.slice am wn cm,.bool e.yes,.slice ae e.kids.length ce,.int .i64 e.at_] 46);have hb1:=aj w (.cells #[.int .i64 e.op,.string ⟨e.name.toArray⟩,.string ⟨e.module.toArray⟩,.bool (decide (e.num<0)),.slice am wn cm,.bool e.yes,.slice ae e.kids.length ce,.int .i64 e.at_] 46);have HFR:=ah (fun W (hW:Below w.heap.size w W)=>Lj (SizeOf.sizeOf e+1) e (by omega) B am wn cm ae ce W (h.frame (aQ.sQ hW fun b hb=>Nat.lt_of_lt_of_le hb hB)) (Nat.le_trans hB hW.size) hz);clear h;go_enter Tryz.func97,Tryz.ntmps97
 go_upto_region 1 with fail
 generalize e.bI=L at *;generalize w.alloc _=w1 at *;obtain⟨r0,r1,r2,r3,r4,r5,r6,r7,rz⟩:=rE g0;have SC:=ah (HFR.out w1 hb1);clear HFR;go_wp2_with (first|(go_at_call 159;refine SC.out.mono ?_;rintro r w2 ⟨a2,c2,rfl,ht2,hb2⟩;have HIT:=ah (Gr _ a2 c2 L w2 ht2 (by omega)))|(go_at_call 160;refine HIT.out.mono ?_;rintro r w3 ⟨a3,c3,rfl,ht3,hb3⟩));go_ret;exact⟨a3,c3,rfl,ht3.imp fun b hb _=>Nat.le_trans (hb1.trans (hb2.mono hb1.size)).size hb,(hb1.trans (hb2.mono hb1.size)).trans (hb3.mono (hb1.trans (hb2.mono hb1.size)).size)⟩
end Go.Proofs.YtknicmmigbhpcaaGreatDoor

namespace Go.Proofs.YtknicmmigbhpcaaGreatDoor
open Go.RowKit Go
mutual
theorem kJ.ofZ {P:Nat→Prop}{w:World}:∀ {e:PE} {m k:Value},oI YA P w m k e.z→kJ XA P w m k e
 | .mk op nm md num txt yes kids at_,m,k,h=>by
  rw[PE.z,oI] at h;obtain⟨h1,l,h2,h3⟩:=h;rw[kJ];refine⟨h1,l,?_,fI.ofZ h3⟩;rw[CK,wW,List.length_map] at h2;exact h2
theorem fI.ofZ {P:Nat→Prop}{w:World}:∀ {es:List PE} {l:List (Value × Value)},iT YA P w l (Fg es)→fI XA P w l es
 | [],l,h=>by rw[Fg,iT] at h;rw[fI];exact h
 | e :: es,l,h=>by
  rw[Fg,iT] at h;obtain⟨p,l',h1,h2,h3⟩:=h;rw[fI];exact⟨p,l',h1,kJ.ofZ h2,fI.ofZ h3⟩
end
end Go.Proofs.YtknicmmigbhpcaaGreatDoor
