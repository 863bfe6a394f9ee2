/- Walks and plain laws: BagW6, ExprCells, FreeW, FreeS, EOfZ. -/
import Derived.Test.YtknicmmigbhpcaaGreatDoorF31
set_option maxHeartbeats 16000000
set_option maxRecDepth 100000
set_option linter.unusedVariables false
set_option linter.unusedSimpArgs false
namespace Go.Proofs.YtknicmmigbhpcaaGreatDoor
open Go.RowKit Go Go.Sort
theorem Tryz.Ot:∀ args w,(callFunc 60 args).run Tryz.prog w=.ok (.enter 60 args) w:=Go.Proofs.enters_of Tryz.func60 (by kernel_rfl) rfl
def aev (f:FuncId)(fa:Array Value)(p:List UInt8→Bool)(w:World)(x:List UInt8):Prop:=∀ W,Below w.heap.size w W→Calls Tryz.prog f (fa++#[.string ⟨x.toArray⟩]) W fun r w'=>r=.returned (.bool (p x))∧Below W.heap.size W w'
theorem SA (f:FuncId)(fa:Array Value)(p:List UInt8→Bool)(eg:∀ args w,(callFunc f args).run Tryz.prog w=.ok (.enter f args) w)(P:Nat→Prop)(ao:Option Addr)(c:Nat)(l:List (List UInt8))(w:World)(h:bC P w (.slice ao l.length c) l)(hl:l.length≤1000000)(hk:∀ x∈l,aev f fa p w x) :
  Calls Tryz.prog 230 #[.agg #[.slice ao l.length c],.func (.func f) fa #[]] w (nG (l.filter p) w):=by
 obtain⟨i0,hi,hz0,hz1',hz2'⟩:=info_parts Tryz.yc;have hal:=(aj w (.cells #[.slice ao l.length c] 114)).alloc (by simp) (.cells #[.slice none 0 0] 114);have hN:=(Lib.alloc_old (w.alloc (.cells #[.slice ao l.length c] 114)) (.cells #[.slice none 0 0] 114) w.heap.size (by simp)).trans (heap_alloc_new w (.cells #[.slice ao l.length c] 114));have hR:=heap_alloc_new (w.alloc (.cells #[.slice ao l.length c] 114)) (.cells #[.slice none 0 0] 114);rw[World.size_alloc] at hR;have HT:=ah (fun W (hW:Below w.heap.size w W)=>h.below hW);have HK:=ah hk;clear h hk;go_enter Tryz.func230,Tryz.ntmps230
 go_upto_region 1 with fail
 change Code.wp _ _ _ _ ((w.alloc (.cells #[.slice ao l.length c] 114)).alloc (.cells #[.slice none 0 0] 114));generalize (w.alloc _).alloc _=w1 at hal hN hR ⊢;have Sj:=(bG hR).1;have c0:=(aH hN).1;have hz1:=hal.size;go_wp2
 go_loopw [5,7,11] (fun kv _ q wr=>∃ (k:Nat) (ak:Option Addr) (ck:Nat),k≤l.length∧q=.int .i64 k∧kv=.slice ak ((l.take k).filter p).length ck∧qJ w1.heap.size wr (.slice ak ((l.take k).filter p).length ck) ((l.take k).filter p)∧Below w1.heap.size w1 wr) (fun _ _ q _=>l.length - (intOf q).toNat)
 case atStart=>exact⟨0,none,0,Nat.zero_le _,rfl,rfl,World.ownsRow_nil _ _ _ _,Below.refl _ _⟩
 case round =>
  obtain⟨k,ak,ck,hkl,rfl,rfl,hown,hbl⟩:=hrel;have uU:=hbl.size;have hbw:=hal.trans (hbl.mono hz1)
  by_cases hlt:k<l.length
  ·obtain⟨Tf,cap,hv,_,hc⟩:=(HT.out wr hbw).slice
   simp only[Value.slice.injEq] at hv;obtain⟨rfl,-,rfl⟩:=hv;obtain⟨b,off,rfl,_,_,hcell⟩:=hc (by omega);have x0:=hcell k hlt;have hA:=HK.out _ (List.getElem_mem hlt) wr hbw;have hsn:=Ac (p:=p) hlt;have hfl:((l.take k).filter p).length≤1000000:=Nat.le_trans (List.length_filter_le _ _) (by rw[List.length_take];omega);have pQ:=ah hsn;have HA:=ah hA;have HW:=ah hown
   have nJ:(k:Int)<(l.length:Int):=by omega
   clear hcell hA hsn hown;generalize hzs:(l.take k).filter p=zs at *;generalize l[k]=x at *;clear hzs
   cases hp:p x with
   | false =>
    have HN:Hid ((l.take (k+1)).filter p=zs):=ah (by rw[pQ.out,hp];simp);have HA2:Hid (Calls Tryz.prog f (fa++#[.string ⟨x.toArray⟩]) wr fun r w'=>r=.returned (.bool false)∧Below wr.heap.size wr w'):=ah (by have:=HA.out;rw[hp] at this;exact this);clear pQ hp HA;go_wp2_with (go_at_fn f;refine HA2.out.mono ?_;rintro r w2 ⟨rfl,hb2⟩)
    go_roundw
    case rel =>
     exact⟨k+1,ak,ck,by omega,by go_num,by rw[HN.out],by rw[HN.out];exact own_below HW.out hb2,hbl.trans (hb2.mono uU)⟩
    case measure=>simp[intOf];omega
   | true =>
    have HN:Hid ((l.take (k+1)).filter p=zs++[x]):=ah (by rw[pQ.out,hp];simp);have HA2:Hid (Calls Tryz.prog f (fa++#[.string ⟨x.toArray⟩]) wr fun r w'=>r=.returned (.bool true)∧Below wr.heap.size wr w'):=ah (by have:=HA.out;rw[hp] at this;exact this);clear pQ hp HA
    go_upto_region 6 with (go_at_fn f;refine HA2.out.mono ?_;rintro r w2 ⟨rfl,hb2⟩)
    have hz2:=hb2.size;have HW2:=ah (own_below HW.out hb2);clear HW HA2;go_wp2_with (at_builtin;refine wpList_append_own _ rfl _ _ 22 rfl w1.heap.size 9 i0 _ 1 16 Tryz.underlying22 hi hz0 hz1' hz2' rfl (by decide) _ zs.length _ rfl (HW2.out.alloc _) ⟨w2.heap.size,0,none⟩ 1 1 [.string ⟨x.toArray⟩] rfl rfl ?q0 ?q00 ?q2 ?q3 ?q4 ?_)
    case q0=>exact World.news_of_block (cs:=#[.string ⟨x.toArray⟩]) (t:=9) (fr:=(0,0)) (heap_alloc_new w2 _)
    case q00=>simp[Value.oneCell']
    case q2=>unfold maxLen;omega
    case q3=>omega
    case q4=>simp;omega
    intro v' w' hown' hgrow hiff;have hb':Below w1.heap.size w1 w':=((hbl.trans (hb2.mono uU)).alloc (by omega) _).grown hgrow (by simp;omega) (fun b q=>(HW2.out.lt b q).1);have Oj:Hid (qJ w1.heap.size w' v' (zs++[x])):=ah (qJ.app (l:=zs) (a:=[x]) hown');obtain⟨xM,xO,rfl⟩:=Oj.out.slice;clear hown' hgrow hiff HW2;go_wp2
    go_roundw
    case rel =>
     exact⟨k+1,xM,xO,by omega,by go_num,by rw[HN.out],by rw[HN.out];exact Oj.out,hb'⟩
    case measure=>simp[intOf];omega
  ·obtain rfl:k=l.length:=by omega
   have nJ:decide ((l.length:Int)<(l.length:Int))=false:=decide_eq_false (by omega);rw[List.take_length] at hown ⊢;have HW:=ah hown;have PL:=(hbl.block _ Sj).trans hR;have hfz:=(aH PL).2;have hc0:=(aH PL).1;have hs0:=zB (u:=.slice ak (l.filter p).length ck) PL;have hbw2:Below w.heap.size w (wr.setCell ⟨w.heap.size+1,0,none⟩ (.slice ak (l.filter p).length ck)):=hbw.setCell (by show w.heap.size≤w.heap.size+1;omega) _
   have Oe:bC (fun b=>w.heap.size≤b) (wr.setCell ⟨w.heap.size+1,0,none⟩ (.slice ak (l.filter p).length ck)) (.slice ak (l.filter p).length ck) (l.filter p):=((bC.owns (P:=fun b=>w1.heap.size≤b) hown (fun _ hb=>hb)).frame (aQ.set _ fun k hk=>by show k≠w.heap.size+1;omega)).imp fun k hk _=>by omega
   clear hown hN hR;go_wp2;exact bodyPost_ret (v:=.agg #[.slice ak (l.filter p).length ck]) (by simp[results,Tryz.results230,go_sem,hs0]) rfl ⟨ak,ck,rfl,Oe,hbw2⟩
theorem WW (P Q:Nat→Prop)(ao:Option Addr)(c:Nat)(ab:Option Addr)(cb:Nat)(a b:List (List UInt8))(w:World)(h1:bC P w (.slice ao a.length c) a)(h2:bC Q w (.slice ab b.length cb) b)(hr:b.Pairwise (· < ·))(ha:a.length≤500000)(hb:b.length≤500000) :
  Calls Tryz.prog 161 #[.agg #[.slice ao a.length c],.agg #[.slice ab b.length cb]] w (nG (a.filter fun x=>decide (x∈b)) w):=by
 have hmf:∀ (fn:Fn) (first cap:Array Value) (w:World),(Instr.makeFunc fn first cap).run Tryz.prog w=.ok (.func fn first cap) w:=fun _ _ _ _=>rfl
 have hal:=((aj w (.cells #[.slice ao a.length c] 114)).alloc (by simp) (.cells #[.slice ab b.length cb] 114)).alloc (by simp;omega) (.cells #[.slice none 0 0] 114);have hN:=(Lib.alloc_old ((w.alloc (.cells #[.slice ao a.length c] 114)).alloc (.cells #[.slice ab b.length cb] 114)) (.cells #[.slice none 0 0] 114) w.heap.size (by simp;omega)).trans ((Lib.alloc_old (w.alloc (.cells #[.slice ao a.length c] 114)) (.cells #[.slice ab b.length cb] 114) w.heap.size (by simp)).trans (heap_alloc_new w (.cells #[.slice ao a.length c] 114)));have hM0:=heap_alloc_new (w.alloc (.cells #[.slice ao a.length c] 114)) (.cells #[.slice ab b.length cb] 114);rw[World.size_alloc] at hM0;have hM:=(Lib.alloc_old ((w.alloc (.cells #[.slice ao a.length c] 114)).alloc (.cells #[.slice ab b.length cb] 114)) (.cells #[.slice none 0 0] 114) (w.heap.size+1) (by simp)).trans hM0;have hR:=heap_alloc_new ((w.alloc (.cells #[.slice ao a.length c] 114)).alloc (.cells #[.slice ab b.length cb] 114)) (.cells #[.slice none 0 0] 114);rw[World.size_alloc,World.size_alloc] at hR
 have HK:Hid (∀ W,Below w.heap.size w W→Calls Tryz.prog 230 #[.agg #[.slice ao a.length c],.func (.func 60) #[.agg #[.slice ab b.length cb]] #[]] W (nG (a.filter fun x=>decide (x∈b)) W)) :=
  ah (fun W hW=>SA 60 #[.agg #[.slice ab b.length cb]] (fun x=>decide (x∈b)) Tryz.Ot P ao c a W (h1.below hW) (by omega) (fun x _ W' hW'=>by
   have:=xZ Q ab cb b ⟨x.toArray⟩ W' ((h2.below hW).below hW') hr (by omega)
   simpa using this))
 clear h1 h2 ha hb hr;generalize a.filter _=R at HK ⊢;go_enter Tryz.func161,Tryz.ntmps161
 go_upto_region 1 with fail
 change Code.wp _ _ _ _ (((w.alloc (.cells #[.slice ao a.length c] 114)).alloc (.cells #[.slice ab b.length cb] 114)).alloc (.cells #[.slice none 0 0] 114));generalize ((w.alloc _).alloc _).alloc _=w1 at hal hN hM hR ⊢;have Sj:=(bG hR).1;have hz1:=hal.size;have c0:=(aH hN).1;have d0:=(aH hM).1;have HK1:=ah (HK.out w1 hal);clear HK hN hM;go_wp2_with (go_at_call 230;refine HK1.out.mono ?_;rintro e w5 ⟨ak,ck,rfl,abj,hb5⟩;have hR5:=(hb5.block _ Sj).trans hR;have hfz:=(aH hR5).2;have hc0:=(aH hR5).1);have hs0:=zB (u:=.slice ak R.length ck) hR5;have hbw:Below w.heap.size w (w5.setCell ⟨w.heap.size+1+1,0,none⟩ (.slice ak R.length ck)):=(hal.trans (hb5.mono hz1)).setCell (by show w.heap.size≤w.heap.size+1+1;omega) _
 have abk:bC (fun b=>w.heap.size≤b) (w5.setCell ⟨w.heap.size+1+1,0,none⟩ (.slice ak R.length ck)) (.slice ak R.length ck) R:=(abj.frame (aQ.set _ fun k hk=>by show k≠w.heap.size+1+1;omega)).imp fun k hk _=>by omega
 exact bodyPost_ret (v:=.agg #[.slice ak R.length ck]) (by simp[results,Tryz.results161,go_sem,hs0]) rfl ⟨_,_,rfl,abk,hbw⟩
theorem D7 (ao:Option Addr)(n c:Nat)(w:World) :
  Calls Tryz.prog 162 #[.agg #[.slice ao n c]] w fun r w'=>r=.returned (.int .i64 n)∧Below w.heap.size w w':=by
 have hal:=aj w (.cells #[.slice ao n c] 114);have c0:=(aH (heap_alloc_new w (.cells #[.slice ao n c] 114))).1;go_enter Tryz.func162,Tryz.ntmps162;go_wp2;go_ret;exact⟨rfl,hal⟩
theorem Ou (P Q:Nat→Prop)(ao:Option Addr)(c:Nat)(ab:Option Addr)(cb:Nat)(a b:List (List UInt8))(w:World)(h1:bC P w (.slice ao a.length c) a)(h2:bC Q w (.slice ab b.length cb) b)(hr:b.Pairwise (· < ·))(ha:a.length≤500000)(hb:b.length≤500000) :
  Calls Tryz.prog 98 #[.agg #[.slice ao a.length c],.agg #[.slice ab b.length cb]] w fun r w'=>r=.returned (.bool (decide ((a.filter fun x=>decide (x∈b)).length=a.length)))∧Below w.heap.size w w':=by
 have hal:=(aj w (.cells #[.slice ao a.length c] 114)).alloc (by simp) (.cells #[.slice ab b.length cb] 114);have hN:=(Lib.alloc_old (w.alloc (.cells #[.slice ao a.length c] 114)) (.cells #[.slice ab b.length cb] 114) w.heap.size (by simp)).trans (heap_alloc_new w (.cells #[.slice ao a.length c] 114));have hM:=heap_alloc_new (w.alloc (.cells #[.slice ao a.length c] 114)) (.cells #[.slice ab b.length cb] 114);rw[World.size_alloc] at hM;have HB:=ah (fun W (hW:Below w.heap.size w W)=>WW P Q ao c ab cb a b W (h1.below hW) (h2.below hW) hr ha hb);clear h1 h2 hr ha hb;generalize a.filter _=R at HB ⊢;generalize hn:a.length=n at *;generalize hm:b.length=m at *;clear hn hm
 have hd:decide (R.length=n)=((R.length:Int) == (n:Int)):=by rw[Bool.eq_iff_iff,decide_eq_true_eq,beq_iff_eq];omega
 rw[hd];have HD:=ah hd;clear hd;go_enter Tryz.func98,Tryz.ntmps98
 go_upto_region 1 with fail
 change Code.wp _ _ _ _ ((w.alloc (.cells #[.slice ao n c] 114)).alloc (.cells #[.slice ab m cb] 114));generalize (w.alloc _).alloc _=w1 at hal hN hM ⊢;have hl1:=(bG hN).1;have hl2:=(bG hM).1;have c0:=(aH hN).1;have d0:=(aH hM).1;have hz1:=hal.size;have HB1:=ah (HB.out w1.drew hal.drew);clear hN hM HB
 have p3:w1.drew.cell? ⟨w.heap.size,0,none⟩=some (.slice ao n c)∧w1.drew.cell? ⟨w.heap.size+1,0,none⟩=some (.slice ab m cb):=⟨c0,d0⟩
 go_region_held3 (fun W=>W.cell? ⟨w.heap.size,0,none⟩=some (.slice ao n c)∧W.cell? ⟨w.heap.size+1,0,none⟩=some (.slice ab m cb))
  (first|(with_reducible exact p3)|(go_keep;done))
  (first|(go_at_call 161;refine HB1.out.mono ?_;rintro e w2 ⟨ak,ck,rfl,-,hb2⟩;have yg:=(Below.refl w1.heap.size w1).drew.trans hb2;have p3:=And.intro (cell_later yg c0) (cell_later yg d0))|(go_at_call 162;refine(D7 ak R.length ck _).mono ?_;rintro e w3 ⟨rfl,hb3⟩;have vg:=yg.trans (hb3.mono yg.size);have p3:=And.intro (cell_later vg c0) (cell_later vg d0))|(go_at_call 162;refine(D7 ao n c _).mono ?_;rintro e w4 ⟨rfl,hb4⟩;have Le:=vg.trans (hb4.mono vg.size);have p3:=And.intro (cell_later Le c0) (cell_later Le d0)))
 all_goals
  clear p3 c0 d0;go_wp2;go_ret;exact⟨rfl,hal.trans (Le.mono hz1)⟩
end Go.Proofs.YtknicmmigbhpcaaGreatDoor

namespace Go.Proofs.YtknicmmigbhpcaaGreatDoor
open Go.RowKit Go
theorem rC {w:World}{b:Nat}{c0 c1 c2 c3 c4 c5 c6 c7:Value}(h:w.heap[b]?=some (.cells #[c0,c1,c2,c3,c4,c5,c6,c7] 46 (0,0))) :
  w.cell? ⟨b,0,none⟩=some c0∧w.cell? ⟨b,1,none⟩=some c1∧w.cell? ⟨b,2,none⟩=some c2∧w.cell? ⟨b,3,none⟩=some c3∧w.cell? ⟨b,4,none⟩=some c4∧w.cell? ⟨b,5,none⟩=some c5∧w.cell? ⟨b,6,none⟩=some c6∧w.cell? ⟨b,7,none⟩=some c7∧∀ j,w.frozen? ⟨b,j,none⟩=false:=by
 refine⟨?_,?_,?_,?_,?_,?_,?_,?_,fun j=>by simp[World.frozen?,h]⟩<;>(rw[Lib.cell_of_heap h];rfl)
end Go.Proofs.YtknicmmigbhpcaaGreatDoor

namespace Go.Proofs.YtknicmmigbhpcaaGreatDoor
open Go.RowKit Go Go.Sort
theorem Ae (op:Nat)(nm:List UInt8)(l:List (List UInt8)):∀ (a:List (List (List UInt8))) (acc:List (List UInt8)) (i:Nat),ug op nm acc i (a++[l])=bF (ug op nm acc i a++lu op nm (i+a.length) l)
  | [],acc,i=>rfl
  | x :: a,acc,i=>by rw[List.cons_append,ug,ug,Ae op nm l a,dX,show i+1+a.length=i+(a.length+1) by omega]
mutual
theorem PE.qL:∀ e:PE,e.bI.length≤e.size
  | .mk op nm m n t y kids a=>by
    rw[PE.bI,PE.size];have h1:=D5 (op:=op) (nm:=nm) (iQ kids) (iP op nm) 0;have h2:=zF kids
    have h3:(iP op nm).length≤1:=by
      unfold iP
      split
      · exact kY [nm]
      · simp
    omega
theorem zF:∀ l:List PE,Oo (iQ l)≤jT l
  | []=>Nat.le_refl _
  | e :: l=>by
    have h1:=PE.qL e;have h2:=zF l;rw[iQ,Oo,jT];omega
end
theorem Ov (op:Nat)(nm:List UInt8):(iP op nm).length≤1:=by
  unfold iP
  split
  · exact kY [nm]
  · simp
theorem Gp (op:Nat)(nm:List UInt8)(i:Nat)(l:List (List UInt8)):(lu op nm i l).length≤l.length:=by
  unfold lu
  split
  · exact List.length_filter_le _ _
  · exact Nat.le_refl _
theorem SB (op:Nat)(nm:List UInt8)(i:Nat)(l:List (List UInt8))(h:op=22∧i=1):(l.filter fun x=>decide (x ∉ bF [nm]))=lu op nm i l:=by
  unfold lu;rw[if_pos h]
  congr 1
  funext x
  simp[VI]
def PY (P:Nat→Prop)(w:World)(B:Nat)(l:List (List UInt8)):Prop:=∃ ao c,w.heap[B]?=some (.cells #[.slice ao l.length c] 114 (0,0))∧bC P w (.slice ao l.length c) l
theorem WX (w:World)(x:List UInt8):bC (fun _=>True) (w.alloc (.cells #[.string ⟨x.toArray⟩] 9)) (.slice (some ⟨w.heap.size,0,none⟩) 1 1) [x]:=by
  refine⟨⟨_,1,rfl,Nat.le_refl _,rfl,fun _=>⟨w.heap.size,0,rfl,trivial,by simp,fun i hi=>?_⟩⟩,fun n c q=>by cases q⟩
  obtain rfl:i=0:=by simpa using hi
  rw[Lib.cell_of_heap (heap_alloc_new w _)]
  rfl
theorem Ll:∀ (n:Nat) (e:PE),SizeOf.sizeOf e<n→∀ (B:Nat) (am:Option Addr) (wn cm:Nat) (ae:Option Addr) (ce:Nat) (w:World),kI XA (fun b=>b<B) w (.slice am wn cm) (.slice ae e.kids.length ce) e→B≤w.heap.size→e.size≤400000 →
    Calls Tryz.prog 159 #[.agg #[.int .i64 e.op,.string ⟨e.name.toArray⟩,.string ⟨e.module.toArray⟩,.bool (decide (e.num<0)),.slice am wn cm,.bool e.yes,.slice ae e.kids.length ce,.int .i64 e.at_]] w (nG e.bI w)
  | 0,e,hs,_,_,_,_,_,_,_,_,_,_=>absurd hs (by omega)
  | n+1,e,hs,B,am,wn,cm,ae,ce,w,h,hB,hz=>by
    have hsub:=iT e;have hdef:=e.tq;have hfd:=e.Sy;obtain⟨Ap,ae',ce',hv,hcap,hf⟩:=h.form;simp only[Value.slice.injEq] at hv;obtain⟨rfl,-,rfl⟩:=hv;have Ev:=FJ e.kids;have IH:=ah (fun (x:PE) (hx:x∈e.kids)=>Ll n x (by have:=hsub x hx;omega));have HF:=ah hf;have HFD:=ah hfd
    have hkl:e.kids.length≤400000:=by omega
    have hzk:jT e.kids+1≤400000:=by omega
    clear h Ap hf hsub hs hdef hz hfd;have hal:=(aj w (.cells #[.int .i64 e.op,.string ⟨e.name.toArray⟩,.string ⟨e.module.toArray⟩,.bool (decide (e.num<0)),.slice am wn cm,.bool e.yes,.slice ae e.kids.length ce,.int .i64 e.at_] 46)).alloc (by simp) (.cells #[.slice none 0 0] 114);have g0:=(Lib.alloc_old (w.alloc (.cells #[.int .i64 e.op,.string ⟨e.name.toArray⟩,.string ⟨e.module.toArray⟩,.bool (decide (e.num<0)),.slice am wn cm,.bool e.yes,.slice ae e.kids.length ce,.int .i64 e.at_] 46)) (.cells #[.slice none 0 0] 114) w.heap.size (by simp)).trans (heap_alloc_new w (.cells #[.int .i64 e.op,.string ⟨e.name.toArray⟩,.string ⟨e.module.toArray⟩,.bool (decide (e.num<0)),.slice am wn cm,.bool e.yes,.slice ae e.kids.length ce,.int .i64 e.at_] 46));have g1:=heap_alloc_new (w.alloc (.cells #[.int .i64 e.op,.string ⟨e.name.toArray⟩,.string ⟨e.module.toArray⟩,.bool (decide (e.num<0)),.slice am wn cm,.bool e.yes,.slice ae e.kids.length ce,.int .i64 e.at_] 46)) (.cells #[.slice none 0 0] 114);rw[World.size_alloc] at g1;generalize hop:e.op=op at *;generalize hnm:e.name=nm at *;generalize hkk:e.kids=ks at *;clear hop hnm;go_enter Tryz.func159,Tryz.ntmps159
    go_upto_region 1 with fail
    change Code.wp _ _ _ _ ((w.alloc _).alloc (.cells #[.slice none 0 0] 114));generalize (w.alloc _).alloc _=w1 at hal g0 g1 ⊢;have hz1:=hal.size;have hl1:=(bG g1).1;have gT:=heap_alloc_new w1 (.cells #[.slice none 0 0] 114);have G0:=(Lib.alloc_old w1 (.cells #[.slice none 0 0] 114) w.heap.size (by omega)).trans g0;have G1:=(Lib.alloc_old w1 (.cells #[.slice none 0 0] 114) _ hl1).trans g1;have hb2:=hal.alloc hz1 (.cells #[.slice none 0 0] 114)
    have hlT:w1.heap.size<(w1.alloc (.cells #[.slice none 0 0] 114)).heap.size:=by simp
    go_upto_region 2 with fail
    generalize w1.alloc _=w2 at *;generalize hTT:w1.heap.size=T at *;clear g0 g1 hal hTT hz1;obtain⟨r0,r1,r2,r3,r4,r5,r6,r7,rz⟩:=rC G0
    go_upto_if 9 with fail
    go_cut [] (fun wc=>PY (fun b=>T<b) wc T (iP op nm)∧Below T w2 wc)
    case first =>
      by_cases h3:op=3
      · have h3I:((op:Int) == 3)=true:=by simp[h3]
        have hst:iP op nm=bF [nm]:=by rw[iP,if_pos h3]
        have HO:=ah ((Iw _ _ [nm] _ (WX w2 nm) (by simp)).mono fun e w' q=>(show ∃ ao c,e=.returned (.agg #[.slice ao (bF [nm]).length c])∧bC (fun b=>T<b) w' (.slice ao (bF [nm]).length c) (bF [nm])∧Below w2.heap.size w2 w' from by obtain⟨ao,c,q1,q2,q3⟩:=q;exact⟨ao,c,q1,q2.imp fun k hk _=>by simp at hk;omega,(aj w2 _).trans (q3.mono (by simp))⟩));have HST:=ah hst;clear IH HF HFD h3 hst;generalize bF [nm]=S at *;go_wp2_with (go_at_call 93;refine HO.out.mono ?_;rintro r w3 ⟨ao,c,rfl,htx,hb3⟩;have gT3:=(hb3.block T hlT).trans gT;have hfz:=(aH gT3).2;have hc0:=(aH gT3).1)
        go_meet
        have gT4:=heap_setCell_same w3 T 0 _ _ (.slice ao S.length c) gT3;rw[HST.out];exact⟨⟨ao,c,gT4,htx.frame (aQ.set _ fun k hk=>by show k≠T;omega)⟩,(hb3.mono (Nat.le_of_lt hlT)).setCell (Nat.le_refl _) _⟩
      · have h3I:((op:Int) == 3)=false:=by simp;omega
        have hst:iP op nm=[]:=by rw[iP,if_neg h3]
        have HST:=ah hst;clear hst;go_wp2
        go_meet
        rw[HST.out];exact⟨⟨none,0,gT,bC.nil _ _⟩,Below.refl _ _⟩
    case rest =>
      obtain⟨hset,hbc⟩:=hcut
      obtain⟨w3,rfl⟩:∃ w3:World,w3=wc:=⟨_,rfl⟩
      have hz3:=hbc.size;have hb3:=hb2.trans (hbc.mono (by omega:w.heap.size≤T));have G03:=(hbc.block w.heap.size (by omega)).trans G0;have G13:=(hbc.block (w.heap.size+1) (by omega)).trans G1;clear r0 r1 r2 r3 r4 r5 r6 r7 rz G0 G1 gT hbc hb2;obtain⟨r0,r1,r2,r3,r4,r5,r6,r7,rz⟩:=rC G03
      have afC:T<w3.heap.size:=by omega
      clear hlT hz3
      go_upto_region 5 with fail
      clear r0 r1 r2 r3 r4 r5 r6 r7 rz
      have hl0:w.heap.size<w3.heap.size:=by omega
      go_loopw [17] (fun q wr=>∃ k:Nat,k≤ks.length∧q=.int .i64 k∧PY (fun b=>T<b) wr T (ug op nm (iP op nm) 0 (iQ (ks.take k)))∧Below T w3 wr) (fun q _=>ks.length - (intOf q).toNat)
      case atStart=>exact⟨0,Nat.zero_le _,rfl,hset,Below.refl _ _⟩
      case round =>
        obtain⟨k,hk,rfl,⟨ao,c,ZV,htk⟩,hbl⟩:=hrel;have hw:=hbl.size;have hbw:=hb3.trans (hbl.mono (by omega:w.heap.size≤T));have G0:=(hbl.block w.heap.size (by omega)).trans G03;have G1:=(hbl.block (w.heap.size+1) (by omega)).trans G13
        by_cases hlt:k<ks.length
        · obtain⟨w4,rfl⟩:∃ w4:World,w4=wr:=⟨_,rfl⟩
          obtain⟨b,off,rfl,ZY,hbb,qy⟩:=HF.out (by omega);obtain⟨m,kv,hE,hc⟩:=qy k hlt;have hmem:ks[k]∈ks:=List.getElem_mem hlt
          have hsn:iQ (ks.take (k+1))=iQ (ks.take k)++[ks[k].bI]:=by rw[l9,l9,List.take_succ_eq_append_getElem hlt,List.map_append];rfl
          have hfl:(iQ (ks.take k)).length=k:=by rw[l9,List.length_map,List.length_take];omega
          have hle:=FI ks _ hmem
          have hsum:Oo (iQ (ks.take k))≤jT ks:=by
            have h1:=zF (ks.take k);have h2:=xJ (ks.take k) (ks.drop k);rw[List.take_append_drop] at h2;omega
          have hacc:=D5 (op:=op) (nm:=nm) (iQ (ks.take k)) (iP op nm) 0;have aew:=Ov op nm;have hxl:=ks[k].qL
          have SC:ug op nm (iP op nm) 0 (iQ (ks.take (k+1)))=bF (ug op nm (iP op nm) 0 (iQ (ks.take k))++lu op nm k ks[k].bI):=by rw[hsn,Ae,hfl,Nat.zero_add]
          generalize ug op nm (iP op nm) 0 (iQ (ks.take k))=acc at *;obtain⟨FP,FQ,FR,ae1,ce1,rfl,rfl⟩:=hE.slX;have IHx:=IH.out _ hmem B FP FQ FR ae1 ce1
          have nJ:(k:Int)<(ks.length:Int):=by omega
          generalize ks[k]=x at hE hc hle IHx hxl SC;have y0:=(hbw.cell (p:=⟨b,off+k * 8,none⟩) hbb).trans (hc 0 _ rfl);have y1:=(hbw.cell (p:=⟨b,off+k * 8+1,none⟩) hbb).trans (hc 1 _ rfl);have y2:=(hbw.cell (p:=⟨b,off+k * 8+2,none⟩) hbb).trans (hc 2 _ rfl);have y3:=(hbw.cell (p:=⟨b,off+k * 8+3,none⟩) hbb).trans (hc 3 _ rfl);have y4:=(hbw.cell (p:=⟨b,off+k * 8+4,none⟩) hbb).trans (hc 4 _ rfl);have y5:=(hbw.cell (p:=⟨b,off+k * 8+5,none⟩) hbb).trans (hc 5 _ rfl);have y6:=(hbw.cell (p:=⟨b,off+k * 8+6,none⟩) hbb).trans (hc 6 _ rfl);have y7:=(hbw.cell (p:=⟨b,off+k * 8+7,none⟩) hbb).trans (hc 7 _ rfl);simp only[bY] at y1 y2;have HI:=ah (fun o=>IHx (w4.alloc o) (hE.frame (aQ.sI (hbw.alloc hbw.size o) (fun b hb=>by omega))) (by simp;have:=hbw.size;omega) (by omega));have pQ:=ah SC;have Wo:=ah htk;have aex:=hbw.size;have aey:=(bG ZV).1
          have hA4:acc.length≤400000:=by omega
          have hX4:x.bI.length≤400000:=by omega
          clear hacc hxl hle;clear qy hc hE IHx hsn SC htk hfl hsum hmem aew
          go_upto_region 8 with (go_at_call 159;refine(HI.out _).mono ?_;rintro r w5 ⟨au,cu,rfl,htu,hb5⟩)
          have Mr:=hb5.size;have zP:Below w4.heap.size w4 w5:=(aj w4 _).trans (hb5.mono (by simp));have hU6:=heap_alloc_new w5 (.cells #[.slice au x.bI.length cu] 114);have hq6:Below w4.heap.size w4 (w5.alloc (.cells #[.slice au x.bI.length cu] 114)):=zP.alloc zP.size _;have Zr:bC (fun b=>T<b∧b≠w5.heap.size) (w5.alloc (.cells #[.slice au x.bI.length cu] 114)) (.slice au x.bI.length cu) x.bI:=(htu.imp (Q:=fun b=>T<b∧b≠w5.heap.size) (fun b hb hl=>⟨by have:=zP.size;simp at hb;omega,by omega⟩)).below (aj w5 _)
          have hUw:T<w5.heap.size:=by have:=zP.size;omega
          have hU4:w4.heap.size≤w5.heap.size:=zP.size
          have hUl:w5.heap.size<(w5.alloc (.cells #[.slice au x.bI.length cu] 114)).heap.size:=by simp
          clear y0 y1 y2 y3 y4 y5 y6 y7 htu hb5 Mr;generalize hUU:w5.heap.size=U at *;generalize w5.alloc _=w6 at *;have hz6:=hq6.size;have ac3:=(hq6.block T aey).trans ZV;have abt:=(Wo.out.imp (Q:=fun b=>T<b∧b<U) fun b hb hl=>⟨hb,by omega⟩).below hq6;have NZ:=hbw.trans (hq6.mono aex);have yQ:=hbl.trans (hq6.mono (by omega:T≤w4.heap.size));have g06:=(hq6.block w.heap.size (by omega)).trans G0;have g16:=(hq6.block (w.heap.size+1) (by omega)).trans G1;obtain⟨r0,r1,r2,r3,r4,r5,r6,r7,rz⟩:=rC g06;clear hUU zP ZV Wo HI G0 G1 hbw hbl hq6
          obtain⟨bb,WJ⟩:∃ bb,decide (op=22∧k=1)=bb:=⟨_,rfl⟩
          have WK:=ah WJ;clear WJ
          go_cut [30] (fun v wc=>v=.bool bb∧w6=wc)
          case first =>
            go_wp2
            all_goals
              go_meet
              refine⟨?_,rfl⟩;rw[← WK.out]
              congr 1
              first
                | (have hh:op=22:=by omega
                   by_cases hk1:k=1
                   · subst hk1;simp[hh]
                   · have hk2:((k:Int) == 1)=false:=by simp;omega
                     rw[hk2];simp[hk1])
                | (have hh:¬ op=22:=by omega
                   simp[hh])
          case rest =>
            obtain⟨rfl,rfl⟩:=hcut
            go_upto_if 30 with fail
            go_cut [] (fun wc=>PY (fun b=>T<b∧b≠U) wc U (lu op nm k x.bI)∧Below U w6 wc)
            case first =>
              cases bb with
              | true =>
                have hlet:op=22∧k=1:=of_decide_eq_true WK.out;have hq:=SB op nm k x.bI hlet;have hll:=Gp op nm k x.bI;have HWO:=Ld (fun _=>True) au cu (.slice (some ⟨w6.heap.size,0,none⟩) 1 1) x.bI [nm] (w6.alloc (.cells #[.string ⟨nm.toArray⟩] 9)) ((Zr.below (aj w6 _)).imp fun _ _ _=>trivial) (WX w6 nm) (by omega) (by simp);rw[hq] at HWO;have HW1:=ah (HWO.mono fun e w' q=>(show ∃ ao c,e=.returned (.agg #[.slice ao (lu op nm k x.bI).length c])∧bC (fun b=>T<b∧b≠U) w' (.slice ao (lu op nm k x.bI).length c) (lu op nm k x.bI)∧Below w6.heap.size w6 w' from by obtain⟨ao,c,q1,q2,q3⟩:=q;exact⟨ao,c,q1,q2.imp fun k hk _=>by simp at hk;omega,(aj w6 _).trans (q3.mono (by simp))⟩));obtain⟨u0,uz⟩:=aH hU6;clear IH HF HFD hq HWO pQ Zr abt hlet;generalize lu op nm k x.bI=L at *;go_wp2_with (go_at_call 229;refine HW1.out.mono ?_;rintro r w7 ⟨al,cl,rfl,htl,pI⟩;have gU7:=(pI.block U hUl).trans hU6;have hfz:=(aH gU7).2;have hc0:=(aH gU7).1)
                go_meet
                have gU8:=heap_setCell_same w7 U 0 _ _ (.slice al L.length cl) gU7;exact⟨⟨al,cl,gU8,htl.frame (aQ.set _ fun k hk=>hk.2)⟩,(pI.mono (Nat.le_of_lt hUl)).setCell (Nat.le_refl U) _⟩
              | false =>
                have hlet:¬(op=22∧k=1):=of_decide_eq_false WK.out
                have hq:lu op nm k x.bI=x.bI:=by rw[lu,if_neg hlet]
                have HQ:=ah hq;clear hq hlet;go_wp2
                go_meet
                rw[HQ.out];exact⟨⟨au,cu,hU6,Zr⟩,Below.refl _ _⟩
            case rest =>
              obtain⟨⟨al,cl,hU7,htl⟩,Ow⟩:=hcut
              obtain⟨w7,rfl⟩:∃ w7:World,w7=wc:=⟨_,rfl⟩
              have hll:=Gp op nm k x.bI;generalize lu op nm k x.bI=L at *;have afD:=Ow.size;have VP:=(Ow.block T hUw).trans ac3
              have ht7:bC (fun b=>T<b) w7 (.slice ao acc.length c) acc:=(abt.frame (aQ.sI Ow fun b hb=>hb.2)).imp fun b hb _=>hb.1
              have aaR:=yQ.trans (Ow.mono (Nat.le_of_lt hUw));have WY:=(bG VP).1;have aez:=(bG hU7).1;have c0:=(aH VP).1;have c1:=(aH hU7).1;have HIT:=ah (fun W (hW:Below w7.heap.size w7 W)=>Gg _ al cl L W (htl.below hW) (by omega));have HWI:=ah (fun W v (hW:Below w7.heap.size w7 W) (hv:bC (fun b=>T<b) W v L)=>DF (fun b=>T<b) ao c v acc L W (ht7.below hW) hv (by omega) (by omega));clear r0 r1 r2 r3 r4 r5 r6 r7 rz g06 g16 ac3 hU6 Zr abt
              go_upto_region 10 with fail
              go_region_with (first
                  | (go_at_call 160;refine(HIT.out _ (Below.refl _ _).drew).mono ?_;rintro e wI ⟨ai,ci,rfl,hti,hbI⟩;have Vj:Below w7.heap.size w7 wI:=(Below.refl _ _).drew.trans hbI;have d0:=(Vj.cell (p:=⟨T,0,none⟩) WY).trans c0;have d1:=(Vj.cell (p:=⟨U,0,none⟩) aez).trans c1)
                  | (go_at_call 61;refine(HWI.out wI _ Vj (hti.imp fun k hk _=>Nat.lt_of_lt_of_le WY hk)).mono ?_;rintro e w8 ⟨a8,c8,rfl,ht8,jr⟩;have hq8:=Vj.trans (jr.mono Vj.size);have hT8:=(hq8.block T WY).trans VP;have hfz:=(aH hT8).2;have hc0:=(aH hT8).1))
              all_goals
                have gT9:=heap_setCell_same w8 T 0 _ _ (.slice a8 (bF (acc++L)).length c8) hT8
                have htT:PY (fun b=>T<b) (w8.setCell ⟨T,0,none⟩ (.slice a8 (bF (acc++L)).length c8)) T (bF (acc++L)):=⟨a8,c8,gT9,(ht8.imp fun k hk _=>Nat.lt_of_lt_of_le WY (Nat.le_trans Vj.size hk)).frame (aQ.set _ fun k hk=>by show k≠T;omega)⟩
                have hbT:Below T w3 (w8.setCell ⟨T,0,none⟩ (.slice a8 (bF (acc++L)).length c8)):=(aaR.trans (hq8.mono (Nat.le_of_lt WY))).setCell (Nat.le_refl T) _;have LU:=ah htT;clear htT gT9 hT8 hti ht8 c0 c1;go_wp2_with fail
                go_roundw
                case rel=>exact⟨k+1,by omega,by go_num,by rw[pQ.out];exact LU.out,hbT⟩
                case measure=>simp[intOf];omega
        · obtain rfl:k=ks.length:=by omega
          have nJ:decide ((ks.length:Int)<(ks.length:Int))=false:=decide_eq_false (by omega);rw[List.take_length] at ZV htk;have HFE:Hid (e.bI=ug op nm (iP op nm) 0 (iQ ks)):=ah (by rw[HFD.out,l9]);generalize ug op nm (iP op nm) 0 (iQ ks)=acc at *;have c0:=(aH ZV).1;obtain⟨c1,cz⟩:=aH G1;have Wo:=ah htk;clear IH HF HFD hset htk;go_wp2;have hs0:=zB (u:=.slice ao acc.length c) G1;rw[HFE.out];refine bodyPost_ret (v:=.agg #[.slice ao acc.length c]) (by simp[results,Tryz.results159,go_sem,hs0]) rfl ⟨_,_,rfl,?_,hbw.setCell (by show w.heap.size≤w.heap.size+1;omega) _⟩
          exact(Wo.out.imp (Q:=fun b=>w.heap.size+1<b) fun b hb _=>by omega).frame (aQ.set _ fun k hk=>by show k≠w.heap.size+1;omega) |>.imp fun b hb _=>by omega
theorem SF (e:PE)(B:Nat)(am:Option Addr)(wn cm:Nat)(ae:Option Addr)(ce:Nat)(w:World)(h:kI XA (fun b=>b<B) w (.slice am wn cm) (.slice ae e.kids.length ce) e)(hB:B≤w.heap.size)(hz:e.size≤400000) :
  Calls Tryz.prog 97 #[.agg #[.int .i64 e.op,.string ⟨e.name.toArray⟩,.string ⟨e.module.toArray⟩,.bool (decide (e.num<0)),.slice am wn cm,.bool e.yes,.slice ae e.kids.length ce,.int .i64 e.at_]] w (Iy e.bI w):=by
 have hlen:=e.qL;have g0:=heap_alloc_new w (.cells #[.int .i64 e.op,.string ⟨e.name.toArray⟩,.string ⟨e.module.toArray⟩,.bool (decide (e.num<0)),.slice am wn cm,.bool e.yes,.slice ae e.kids.length ce,.int .i64 e.at_] 46);have hb1:=aj w (.cells #[.int .i64 e.op,.string ⟨e.name.toArray⟩,.string ⟨e.module.toArray⟩,.bool (decide (e.num<0)),.slice am wn cm,.bool e.yes,.slice ae e.kids.length ce,.int .i64 e.at_] 46);have HFR:=ah (fun W (hW:Below w.heap.size w W)=>Ll (SizeOf.sizeOf e+1) e (by omega) B am wn cm ae ce W (h.frame (aQ.sI hW fun b hb=>Nat.lt_of_lt_of_le hb hB)) (Nat.le_trans hB hW.size) hz);clear h;go_enter Tryz.func97,Tryz.ntmps97
 go_upto_region 1 with fail
 generalize e.bI=L at *;generalize w.alloc _=w1 at *;obtain⟨r0,r1,r2,r3,r4,r5,r6,r7,rz⟩:=rC g0;have Sn:=ah (HFR.out w1 hb1);clear HFR;go_wp2_with (first|(go_at_call 159;refine Sn.out.mono ?_;rintro r w2 ⟨a2,c2,rfl,ht2,hb2⟩;have HIT:=ah (Gg _ a2 c2 L w2 ht2 (by omega)))|(go_at_call 160;refine HIT.out.mono ?_;rintro r w3 ⟨a3,c3,rfl,ht3,hb3⟩));go_ret;exact⟨a3,c3,rfl,ht3.imp fun b hb _=>Nat.le_trans (hb1.trans (hb2.mono hb1.size)).size hb,(hb1.trans (hb2.mono hb1.size)).trans (hb3.mono (hb1.trans (hb2.mono hb1.size)).size)⟩
end Go.Proofs.YtknicmmigbhpcaaGreatDoor

namespace Go.Proofs.YtknicmmigbhpcaaGreatDoor
open Go.RowKit Go
mutual
theorem kI.ofZ {P:Nat→Prop}{w:World}:∀ {e:PE} {m k:Value},oI YA P w m k e.z→kI XA P w m k e
 | .mk op nm md num txt yes kids at_,m,k,h=>by
  rw[PE.z,oI] at h;obtain⟨h1,l,h2,h3⟩:=h;rw[kI];refine⟨h1,l,?_,fJ.ofZ h3⟩;rw[Cy,wV,List.length_map] at h2;exact h2
theorem fJ.ofZ {P:Nat→Prop}{w:World}:∀ {es:List PE} {l:List (Value × Value)},iM YA P w l (EW es)→fJ XA P w l es
 | [],l,h=>by rw[EW,iM] at h;rw[fJ];exact h
 | e :: es,l,h=>by
  rw[EW,iM] at h;obtain⟨p,l',h1,h2,h3⟩:=h;rw[fJ];exact⟨p,l',h1,kI.ofZ h2,fJ.ofZ h3⟩
end
end Go.Proofs.YtknicmmigbhpcaaGreatDoor
