/- Walks and plain laws: BagW3, BagW4, BagW5, ScopeW1, ScopeW2. -/
import Derived.Test.YtknicmmigbhpcaaGreatDoorF28
set_option maxHeartbeats 16000000
set_option maxRecDepth 100000
set_option linter.unusedVariables false
set_option linter.unusedSimpArgs false
namespace Go.Proofs.YtknicmmigbhpcaaGreatDoor
open Go.RowKit Go Go.Sort
theorem Tryz.yc:(Tryz.prog.info? 9).map (fun i=>(i.zero,i.size,i.bytes))=some (some (.string ⟨#[]⟩),1,16):=by kernel_rfl
def qJ (B:Nat)(w:World)(v:Value)(l:List (List UInt8)):Prop:=w.ownsRow B 9 1 v l.length (l.map encStr)
theorem qJ.slice {B:Nat}{w:World}{v:Value}{l:List (List UInt8)}(h:qJ B w v l):∃ ak ck,v=.slice ak l.length ck:=by
 obtain⟨ao,cap,e,_,_⟩:=(bC.owns (P:=fun _=>True) h (fun _ _=>trivial)).slice;exact⟨ao,cap,e⟩
def Lc (w:World)(e:Ending)(w':World):Prop:=∃ v,e=.returned v∧qJ w.heap.size w' v []∧Below w.heap.size w w'
theorem Si (n:Nat)(w:World)(hn:n≤4000000):Calls Tryz.prog 157 #[.slice none 0 0,.int .i64 n] w (Lc w):=by
 rcases Nat.eq_zero_or_pos n with h0|h0
 ·subst h0
  go_enter Tryz.func157,Tryz.ntmps157;go_wp2;go_ret;exact⟨_,rfl,World.ownsRow_nil _ _ _ _,Below.refl _ _⟩
 ·obtain⟨i0,hi,hz0,hz1,hz2⟩:=info_parts Tryz.yc
  have hrz:=Lib.run_append_grow_zeros (P:=Tryz.prog) w 22 3 22 9 i0 _ .i64 .i64 Tryz.underlying22 Tryz.underlying3 hi hz0 none 0 0 [] (run_firstCells_none _ _ _ _ _) n h0 (by omega) (by omega) (by omega) (by rw[hz2];omega) (by rw[hz2];exact growslice_fits (by omega) (by omega));rw[Nat.zero_add] at hrz;have hG1:=grownCap_ge w n 0 9;have hG2:=grownCap_le_maxLen w n 0 9 (by unfold maxLen;omega);generalize grownCap w n 0 9=G at *
  have hown:((w.alloc (.cells (Builtin.zeroCells #[Value.string ⟨#[]⟩] n++Builtin.zeroCells #[Value.string ⟨#[]⟩] (G - n)) 9)).drew).ownsRow w.heap.size 9 1 (.slice (some ⟨w.heap.size,0,none⟩) 0 G) 0 [] :=
   ⟨rfl,.inr ⟨w.heap.size,G,_,rfl,Nat.le_refl _,heap_alloc_new w _,by omega,hG2,by simp[size_zeroCells];omega,by simp⟩⟩
  have hbel:Below w.heap.size w ((w.alloc (.cells (Builtin.zeroCells #[Value.string ⟨#[]⟩] n++Builtin.zeroCells #[Value.string ⟨#[]⟩] (G - n)) 9)).drew):=((Below.refl _ w).alloc (Nat.le_refl _) _).drew;have HO:=ah hown;have HB:=ah hbel
  have hG3:G≤9223372036854775807:=by unfold maxLen at hG2;omega
  have Vk:(0:Int)<(n:Int):=by omega
  have hn0:¬ ((n:Int)<0):=by omega
  clear hown hbel;go_enter Tryz.func157,Tryz.ntmps157;go_wp2_with (at_builtin;refine Lib.wpList_append_run _ rfl _ _ _ _ rfl _ _ rfl rfl _ _ hrz ?_)
  all_goals (go_ret;exact⟨_,rfl,HO.out,HB.out⟩)
theorem bC.news {P:Nat→Prop}{w:World}{ad:Addr}{n c:Nat}{l:List (List UInt8)}(h:bC P w (.slice (some ad) n c) l):∀ j u,(l.map encStr)[j]?=some u→w.cell? (ad.add j)=some u:=by
 obtain⟨ao,cap,hv,_,hc⟩:=h.slice;simp only[Value.slice.injEq] at hv;obtain⟨rfl,rfl,rfl⟩:=hv;intro j u hj;rw[List.getElem?_map] at hj;obtain⟨x,hx,rfl⟩:=Option.map_eq_some_iff.1 hj;obtain⟨hjl,rfl⟩:=mR hx;obtain⟨b,off,e,_,_,hcell⟩:=hc (by omega)
 injection e with e
 subst e;rw[Addr.add_lit];exact hcell j hjl
def Zh (l:List (List UInt8))(w:World)(e:Ending)(w':World):Prop:=∃ v,e=.returned v∧qJ w.heap.size w' v l∧Below w.heap.size w w'
theorem PN (l:List (List UInt8)):∀ u∈l.map encStr,u.oneCell'=true:=by
 intro u hu;obtain⟨x,_,rfl⟩:=List.mem_map.1 hu
 rfl
theorem qJ.app {B:Nat}{w:World}{v:Value}{l a:List (List UInt8)}(h:w.ownsRow B 9 1 v (l.length+a.length) (l.map encStr++a.map encStr)):qJ B w v (l++a):=by
 unfold qJ;rw[bP,List.map_append];exact h
theorem Oi (P:Nat→Prop)(v1 v2:Value)(a b:List (List UInt8))(sb:Nat)(w:World)(h1:bC P w v1 a)(h2:bC P w v2 b)(hs:w.heap[sb]?=some (.cells #[v1,v2] 22 (0,0)))(ha:a.length≤1000000)(hb:b.length≤1000000) :
  Calls Tryz.prog 94 #[.slice (some ⟨sb,0,none⟩) 2 2] w (Zh (a++b) w):=by
 obtain⟨i0,hi,hz0,hz1,hz2⟩:=info_parts Tryz.yc;obtain⟨a1,c1,rfl,hc1,-⟩:=h1.slice;obtain⟨a2,c2,rfl,hc2,-⟩:=h2.slice;have hsl:=(bG hs).1
 have x0:w.cell? ⟨sb,0,none⟩=some (.slice a1 a.length c1):=by rw[Lib.cell_of_heap hs];rfl
 have x1:w.cell? ⟨sb,1,none⟩=some (.slice a2 b.length c2):=by rw[Lib.cell_of_heap hs];rfl
 have HG:Hid (Calls Tryz.prog 157 #[.slice none 0 0,.int .i64 ((a.length:Int)+(b.length:Int))] w (Lc w)):=ah (by
  have:=Si (a.length+b.length) w (by omega);rw[Int.natCast_add] at this
  exact this)
 have H1:=ah h1;have H2:=ah h2;have HS:=ah hs
 have haI:(a.length:Int)≤1000000:=by omega
 have hbI:(b.length:Int)≤1000000:=by omega
 have hnn:¬ ((a.length:Int)+(b.length:Int)<0):=by omega
 have hn1:¬ ((a.length:Int)<0):=by omega
 clear h1 h2 hs;go_enter Tryz.func94,Tryz.ntmps94;go_wp2
 go_loopw [3,5,11] (fun s _ q wr=>wr=w∧((q=.int .i64 0∧s=.int .i64 0)∨(q=.int .i64 1∧s=.int .i64 a.length)∨(q=.int .i64 2∧s=.int .i64 ((a.length:Int)+(b.length:Int))))) (fun _ _ q _=>(2 - intOf q).toNat)
 case atStart=>exact⟨rfl,.inl ⟨rfl,rfl⟩⟩
 case round =>
  obtain⟨rfl,⟨rfl,rfl⟩|⟨rfl,rfl⟩|⟨rfl,rfl⟩⟩:=hrel
  ·clear HG H1 H2 HS
   go_wp2
   go_roundw
   case rel=>exact⟨by trivial,.inr (.inl ⟨rfl,by simp⟩)⟩
   case measure=>simp[intOf]
  ·clear HG H1 H2 HS
   go_wp2
   go_roundw
   case rel=>exact⟨by trivial,.inr (.inr ⟨rfl,rfl⟩)⟩
   case measure=>simp[intOf]
  ·clear x0 x1
   obtain⟨w0,rfl⟩:∃ w0:World,w0=wr:=⟨_,rfl⟩
   go_upto_region 10 with (go_at_call 157;refine HG.out.mono ?_;rintro e w2 ⟨v,rfl,hown,hb2⟩)
   obtain⟨ak0,ck0,rfl⟩:=hown.slice;have HO:=ah hown;have HB2:=ah hb2;clear hown hb2 HG;go_wp2
   go_loopw [6,8,27] (fun kv _ q w3=>∃ (ak:Option Addr) (ck:Nat) (l:List (List UInt8)),kv=.slice ak l.length ck∧qJ w0.heap.size w3 (.slice ak l.length ck) l∧Below w0.heap.size w0 w3∧((q=.int .i64 0∧l=[])∨(q=.int .i64 1∧l=a)∨(q=.int .i64 2∧l=a++b))) (fun _ _ q _=>(2 - intOf q).toNat)
   case atStart=>exact⟨ak0,ck0,[],rfl,HO.out,HB2.out,.inl ⟨rfl,rfl⟩⟩
   case round =>
    obtain⟨ak,ck,l,rfl,hown,hbl,⟨rfl,rfl⟩|⟨rfl,hla⟩|⟨rfl,rfl⟩⟩:=hrel
    ·-- round 0
     have hsc:wr.cell? ⟨sb,0,none⟩=some (.slice a1 a.length c1):=by rw[Lib.cell_of_heap ((hbl.block sb hsl).trans HS.out)];rfl
     have ht:=H1.out.below hbl;have uU:=hbl.size
     cases a1 with
     | none =>
      obtain rfl:=ht.2 _ _ rfl
      have hl0:a.length=0:=by
       obtain⟨ao,cap,hv,_,hc⟩:=ht.slice
       rcases Nat.eq_zero_or_pos a.length with q|q
       ·exact q
       ·obtain⟨b,off,e,_⟩:=hc q
        simp only[Value.slice.injEq] at hv;rw[← hv.1] at e;cases e
      have he:=List.eq_nil_of_length_eq_zero hl0;rw[hl0] at hsc;have HW:=ah hown;have HE:=ah he;clear ht hown he hl0 H1 H2;go_wp2_with (at_builtin;refine wpList_append_own_none rfl _ _ 22 rfl w0.heap.size 9 i0 1 Tryz.underlying22 hi _ ([]:List (List UInt8)).length _ rfl HW.out rfl ?_)
      go_roundw
      case rel =>
       repeat apply Exists.intro
       exact⟨⟨_,_,_,rfl,HW.out,hbl,.inr (.inl ⟨rfl,HE.out.symm⟩)⟩,rfl⟩
      case measure=>simp[intOf]
     | some ad =>
      have hnews:=ht.news;have HW:=ah hown;clear ht H1 H2;go_wp2_with (at_builtin;refine wpList_append_own _ rfl _ _ 22 rfl w0.heap.size 9 i0 _ 1 16 Tryz.underlying22 hi hz0 hz1 hz2 rfl (by decide) _ ([]:List (List UInt8)).length _ rfl HW.out ad a.length c1 (a.map encStr) rfl ?q1 hnews (PN _) ?q2 ?q3 uU ?_)
      case q1=>simp
      case q2=>unfold maxLen;first|omega|(simp only[List.length_nil];omega)
      case q3=>first|omega|(simp only[List.length_nil];omega)
      intro v' w' hown' hgrow hiff;have hb':=hbl.grown hgrow uU (fun b q=>(HW.out.lt b q).1);have Oj:Hid (qJ w0.heap.size w' v' a):=ah hown';obtain⟨xM,xO,rfl⟩:=Oj.out.slice;clear hown' hgrow hiff hown HW hnews;go_wp2
      go_roundw
      case rel =>
       repeat apply Exists.intro
       exact⟨⟨_,_,_,rfl,Oj.out,hb',.inr (.inl ⟨rfl,rfl⟩)⟩,rfl⟩
      case measure=>simp[intOf]
    ·-- round 1
     have afw:l.length≤1000000:=by rw[hla];exact ha
     have HLA:=ah hla;clear hla
     have hsc:wr.cell? ⟨sb,1,none⟩=some (.slice a2 b.length c2):=by rw[Lib.cell_of_heap ((hbl.block sb hsl).trans HS.out)];rfl
     have ht:=H2.out.below hbl;have uU:=hbl.size
     cases a2 with
     | none =>
      obtain rfl:=ht.2 _ _ rfl
      have hl0:b.length=0:=by
       obtain⟨ao,cap,hv,_,hc⟩:=ht.slice
       rcases Nat.eq_zero_or_pos b.length with q|q
       ·exact q
       ·obtain⟨b,off,e,_⟩:=hc q
        simp only[Value.slice.injEq] at hv;rw[← hv.1] at e;cases e
      have he:=List.eq_nil_of_length_eq_zero hl0;rw[hl0] at hsc;have HW:=ah hown;have HE:=ah he;clear ht hown he hl0 H1 H2;go_wp2_with (at_builtin;refine wpList_append_own_none rfl _ _ 22 rfl w0.heap.size 9 i0 1 Tryz.underlying22 hi _ l.length _ rfl HW.out rfl ?_)
      go_roundw
      case rel =>
       repeat apply Exists.intro
       exact⟨⟨_,_,_,rfl,HW.out,hbl,.inr (.inr ⟨rfl,by rw[HE.out,List.append_nil,HLA.out]⟩)⟩,rfl⟩
      case measure=>simp[intOf]
     | some ad =>
      have hnews:=ht.news;have HW:=ah hown;clear ht H1 H2;go_wp2_with (at_builtin;refine wpList_append_own _ rfl _ _ 22 rfl w0.heap.size 9 i0 _ 1 16 Tryz.underlying22 hi hz0 hz1 hz2 rfl (by decide) _ l.length _ rfl HW.out ad b.length c2 (b.map encStr) rfl ?q1 hnews (PN _) ?q2 ?q3 uU ?_)
      case q1=>simp
      case q2=>unfold maxLen;first|omega|(simp only[List.length_nil];omega)
      case q3=>first|omega|(simp only[List.length_nil];omega)
      intro v' w' hown' hgrow hiff;have hb':=hbl.grown hgrow uU (fun b q=>(HW.out.lt b q).1);have Oj:=ah (qJ.app (l:=l) (a:=b) hown');obtain⟨xM,xO,rfl⟩:=Oj.out.slice;clear hown' hgrow hiff hown HW hnews;go_wp2
      go_roundw
      case rel =>
       repeat apply Exists.intro
       exact⟨⟨_,_,_,rfl,Oj.out,hb',.inr (.inr ⟨rfl,by rw[HLA.out]⟩)⟩,rfl⟩
      case measure=>simp[intOf]
    ·have HW:=ah hown
     clear hown H1 H2;go_wp2;go_ret;exact⟨_,rfl,HW.out,hbl⟩
theorem zB {w:World}{b:Nat}{v u:Value}(h:w.heap[b]?=some (.cells #[v] 114 (0,0))):(w.setCell ⟨b,0,none⟩ u).cell? ⟨b,0,none⟩=some u:=by
 have:=heap_setCell_same w b 0 _ _ u h;rw[Lib.cell_of_heap this];rfl
theorem DF (P:Nat→Prop)(ao:Option Addr)(c:Nat)(v2:Value)(a b:List (List UInt8))(w:World)(h1:bC P w (.slice ao a.length c) a)(h2:bC P w v2 b)(ha:a.length≤500000)(hb:b.length≤500000) :
  Calls Tryz.prog 61 #[.agg #[.slice ao a.length c],v2] w (nG (bF (a++b)) w):=by
 obtain⟨a2,c2,rfl,-,-⟩:=h2.slice;have hal:=(aj w (.cells #[.slice ao a.length c] 114)).alloc (by simp) (.cells #[.slice none 0 0] 114);have hN:=(Lib.alloc_old (w.alloc (.cells #[.slice ao a.length c] 114)) (.cells #[.slice none 0 0] 114) w.heap.size (by simp)).trans (heap_alloc_new w (.cells #[.slice ao a.length c] 114));have hR:=heap_alloc_new (w.alloc (.cells #[.slice ao a.length c] 114)) (.cells #[.slice none 0 0] 114);rw[World.size_alloc] at hR;have HC:=ah (fun W (hW:Below w.heap.size w W)=>Oi P (.slice ao a.length c) (.slice a2 b.length c2) a b W.heap.size (W.alloc (.cells #[.slice ao a.length c,.slice a2 b.length c2] 22)) ((h1.below hW).below (aj W _)) ((h2.below hW).below (aj W _)) (heap_alloc_new W _) (by omega) (by omega))
 have hlen:(a++b).length≤1000000:=by rw[bP];omega
 clear h1 h2;go_enter Tryz.func61,Tryz.ntmps61
 go_upto_region 1 with fail
 change Code.wp _ _ _ _ ((w.alloc (.cells #[.slice ao a.length c] 114)).alloc (.cells #[.slice none 0 0] 114));generalize (w.alloc _).alloc _=w1 at hal hN hR ⊢;have Sj:=(bG hR).1;have c0:=(aH hN).1;have hz1:=hal.size;have LM:=ah (HC.out w1 hal);clear HC hN;go_wp2_with (first|(go_at_call 94;refine LM.out.mono ?_;rintro e w2 ⟨v,rfl,hown,hb2⟩;have yg:=(aj w1 (.cells #[.slice ao a.length c,.slice a2 b.length c2] 22)).trans (hb2.mono (by simp));have hz2:=yg.size;have PO:=ah (Iw (fun _=>True) v (a++b) w2 (bC.owns hown (fun _ _=>trivial)) hlen))|(go_at_call 93;refine PO.out.mono ?_;rintro e w3 ⟨ar,cr,rfl,htx,hb3⟩;have vg:=yg.trans (hb3.mono hz2);have PL:=(vg.block _ Sj).trans hR;have hfz:=(aH PL).2;have hc0:=(aH PL).1));have hs0:=zB (u:=.slice ar (bF (a++b)).length cr) PL;have hbw:Below w.heap.size w (w3.setCell ⟨w.heap.size+1,0,none⟩ (.slice ar (bF (a++b)).length cr)):=(hal.trans (vg.mono hz1)).setCell (by show w.heap.size≤w.heap.size+1;omega) _
 have Oe:bC (fun b=>w.heap.size≤b) (w3.setCell ⟨w.heap.size+1,0,none⟩ (.slice ar (bF (a++b)).length cr)) (.slice ar (bF (a++b)).length cr) (bF (a++b)):=(htx.frame (aQ.set _ fun k hk=>by show k≠w.heap.size+1;omega)).imp fun k hk _=>by omega
 exact bodyPost_ret (v:=.agg #[.slice ar (bF (a++b)).length cr]) (by simp[results,Tryz.results61,go_sem,hs0]) rfl ⟨_,_,rfl,Oe,hbw⟩
def aec (f:FuncId)(lb:Array Value)(p:List UInt8→Bool)(w:World)(x:List UInt8):Prop:=∀ W,Below w.heap.size w W→Calls Tryz.prog f (#[.string ⟨x.toArray⟩]++lb) W fun r w'=>r=.returned (.bool (p x))∧Below W.heap.size W w'
theorem Ac {p:List UInt8→Bool}{l:List (List UInt8)}{k:Nat}(h:k<l.length):(l.take (k+1)).filter p=(l.take k).filter p++if p l[k]=true then [l[k]] else []:=by
 rw[List.take_succ_eq_append_getElem h,List.filter_append]
 congr 1
 cases h':p l[k]<;>simp[h']
theorem WB (f:FuncId)(lb:Array Value)(p:List UInt8→Bool)(eg:∀ args w,(callFunc f args).run Tryz.prog w=.ok (.enter f args) w)(P:Nat→Prop)(ao:Option Addr)(c:Nat)(l:List (List UInt8))(w:World)(h:bC P w (.slice ao l.length c) l)(hl:l.length≤1000000)(hk:∀ x∈l,aec f lb p w x) :
  Calls Tryz.prog 230 #[.agg #[.slice ao l.length c],.func (.func f) #[] lb] w (nG (l.filter p) w):=by
 obtain⟨i0,hi,hz0,hz1',hz2'⟩:=info_parts Tryz.yc;have hal:=(aj w (.cells #[.slice ao l.length c] 114)).alloc (by simp) (.cells #[.slice none 0 0] 114);have hN:=(Lib.alloc_old (w.alloc (.cells #[.slice ao l.length c] 114)) (.cells #[.slice none 0 0] 114) w.heap.size (by simp)).trans (heap_alloc_new w (.cells #[.slice ao l.length c] 114));have hR:=heap_alloc_new (w.alloc (.cells #[.slice ao l.length c] 114)) (.cells #[.slice none 0 0] 114);rw[World.size_alloc] at hR;have HT:=ah (fun W (hW:Below w.heap.size w W)=>h.below hW);have HK:=ah hk;clear h hk;go_enter Tryz.func230,Tryz.ntmps230
 go_upto_region 1 with fail
 change Code.wp _ _ _ _ ((w.alloc (.cells #[.slice ao l.length c] 114)).alloc (.cells #[.slice none 0 0] 114));generalize (w.alloc _).alloc _=w1 at hal hN hR ⊢;have Sj:=(bG hR).1;have c0:=(aH hN).1;have hz1:=hal.size;go_wp2
 go_loopw [5,7,11] (fun kv _ q wr=>∃ (k:Nat) (ak:Option Addr) (ck:Nat),k≤l.length∧q=.int .i64 k∧kv=.slice ak ((l.take k).filter p).length ck∧qJ w1.heap.size wr (.slice ak ((l.take k).filter p).length ck) ((l.take k).filter p)∧Below w1.heap.size w1 wr) (fun _ _ q _=>l.length - (intOf q).toNat)
 case atStart=>exact⟨0,none,0,Nat.zero_le _,rfl,rfl,World.ownsRow_nil _ _ _ _,Below.refl _ _⟩
 case round =>
  obtain⟨k,ak,ck,hkl,rfl,rfl,hown,hbl⟩:=hrel;have uU:=hbl.size;have hbw:=hal.trans (hbl.mono hz1)
  by_cases hlt:k<l.length
  ·obtain⟨Tf,cap,hv,_,hc⟩:=(HT.out wr hbw).slice
   simp only[Value.slice.injEq] at hv;obtain⟨rfl,-,rfl⟩:=hv;obtain⟨b,off,rfl,_,_,hcell⟩:=hc (by omega);have x0:=hcell k hlt;have hA:=HK.out _ (List.getElem_mem hlt) wr hbw;have hsn:=Ac (p:=p) hlt;have hfl:((l.take k).filter p).length≤1000000:=Nat.le_trans (List.length_filter_le _ _) (by rw[List.length_take];omega);have pQ:=ah hsn;have HA:=ah hA;have HW:=ah hown
   have nJ:(k:Int)<(l.length:Int):=by omega
   clear hcell hA hsn hown;generalize hzs:(l.take k).filter p=zs at *;generalize l[k]=x at *;clear hzs
   cases hp:p x with
   | false =>
    have HN:Hid ((l.take (k+1)).filter p=zs):=ah (by rw[pQ.out,hp];simp);have HA2:Hid (Calls Tryz.prog f (#[.string ⟨x.toArray⟩]++lb) wr fun r w'=>r=.returned (.bool false)∧Below wr.heap.size wr w'):=ah (by have:=HA.out;rw[hp] at this;exact this);clear pQ hp HA;go_wp2_with (go_at_fn f;refine HA2.out.mono ?_;rintro r w2 ⟨rfl,hb2⟩)
    go_roundw
    case rel =>
     exact⟨k+1,ak,ck,by omega,by go_num,by rw[HN.out],by rw[HN.out];exact own_below HW.out hb2,hbl.trans (hb2.mono uU)⟩
    case measure=>simp[intOf];omega
   | true =>
    have HN:Hid ((l.take (k+1)).filter p=zs++[x]):=ah (by rw[pQ.out,hp];simp);have HA2:Hid (Calls Tryz.prog f (#[.string ⟨x.toArray⟩]++lb) wr fun r w'=>r=.returned (.bool true)∧Below wr.heap.size wr w'):=ah (by have:=HA.out;rw[hp] at this;exact this);clear pQ hp HA
    go_upto_region 6 with (go_at_fn f;refine HA2.out.mono ?_;rintro r w2 ⟨rfl,hb2⟩)
    have hz2:=hb2.size;have HW2:=ah (own_below HW.out hb2);clear HW HA2;go_wp2_with (at_builtin;refine wpList_append_own _ rfl _ _ 22 rfl w1.heap.size 9 i0 _ 1 16 Tryz.underlying22 hi hz0 hz1' hz2' rfl (by decide) _ zs.length _ rfl (HW2.out.alloc _) ⟨w2.heap.size,0,none⟩ 1 1 [.string ⟨x.toArray⟩] rfl rfl ?q0 ?q00 ?q2 ?q3 ?q4 ?_)
    case q0=>exact World.news_of_block (cs:=#[.string ⟨x.toArray⟩]) (t:=9) (fr:=(0,0)) (heap_alloc_new w2 _)
    case q00=>simp[Value.oneCell']
    case q2=>unfold maxLen;omega
    case q3=>omega
    case q4=>simp;omega
    intro v' w' hown' hgrow hiff;have hb':Below w1.heap.size w1 w':=((hbl.trans (hb2.mono uU)).alloc (by omega) _).grown hgrow (by simp;omega) (fun b q=>(HW2.out.lt b q).1);have Oj:Hid (qJ w1.heap.size w' v' (zs++[x])):=ah (qJ.app (l:=zs) (a:=[x]) hown');obtain⟨xM,xO,rfl⟩:=Oj.out.slice;clear hown' hgrow hiff HW2;go_wp2
    go_roundw
    case rel =>
     exact⟨k+1,xM,xO,by omega,by go_num,by rw[HN.out],by rw[HN.out];exact Oj.out,hb'⟩
    case measure=>simp[intOf];omega
  ·obtain rfl:k=l.length:=by omega
   have nJ:decide ((l.length:Int)<(l.length:Int))=false:=decide_eq_false (by omega);rw[List.take_length] at hown ⊢;have HW:=ah hown;have PL:=(hbl.block _ Sj).trans hR;have hfz:=(aH PL).2;have hc0:=(aH PL).1;have hs0:=zB (u:=.slice ak (l.filter p).length ck) PL;have hbw2:Below w.heap.size w (wr.setCell ⟨w.heap.size+1,0,none⟩ (.slice ak (l.filter p).length ck)):=hbw.setCell (by show w.heap.size≤w.heap.size+1;omega) _
   have Oe:bC (fun b=>w.heap.size≤b) (wr.setCell ⟨w.heap.size+1,0,none⟩ (.slice ak (l.filter p).length ck)) (.slice ak (l.filter p).length ck) (l.filter p):=((bC.owns (P:=fun b=>w1.heap.size≤b) hown (fun _ hb=>hb)).frame (aQ.set _ fun k hk=>by show k≠w.heap.size+1;omega)).imp fun k hk _=>by omega
   clear hown hN hR;go_wp2;exact bodyPost_ret (v:=.agg #[.slice ak (l.filter p).length ck]) (by simp[results,Tryz.results230,go_sem,hs0]) rfl ⟨ak,ck,rfl,Oe,hbw2⟩
theorem Tryz.WC:∀ args w,(callFunc 275 args).run Tryz.prog w=.ok (.enter 275 args) w:=Go.Proofs.enters_of Tryz.func275 (by kernel_rfl) rfl
theorem IB (P:Nat→Prop)(b:Nat)(ao:Option Addr)(c:Nat)(l:List (List UInt8))(x:List UInt8)(w:World)(hb:w.heap[b]?=some (.cells #[.slice ao l.length c] 114 (0,0)))(h:bC P w (.slice ao l.length c) l)(hr:l.Pairwise (· < ·))(hl:l.length≤1000000) :
  Calls Tryz.prog 275 (#[.string ⟨x.toArray⟩]++#[.pointer (some ⟨b,0,none⟩)]) w fun r w'=>r=.returned (.bool (decide (x ∉ l)))∧Below w.heap.size w w':=by
 have c0:=(aH hb).1;have HH:=ah (xZ P ao c l ⟨x.toArray⟩ w h hr hl)
 have e:decide (x ∉ l)=!decide (x∈l):=by simp
 rw[e];simp only at HH;generalize decide (x∈l)=r at *;show Calls Tryz.prog 275 #[.string ⟨x.toArray⟩,.pointer (some ⟨b,0,none⟩)] w _;clear h hr hl hb e;go_enter Tryz.func275,Tryz.ntmps275;go_wp2_with (go_at_call 60;refine HH.out.mono ?_;rintro e w2 ⟨rfl,hb2⟩);go_ret;exact⟨rfl,hb2⟩
theorem Ld (P:Nat→Prop)(ao:Option Addr)(c:Nat)(v2:Value)(a b:List (List UInt8))(w:World)(h1:bC P w (.slice ao a.length c) a)(h2:bC P w v2 b)(ha:a.length≤500000)(hb:b.length≤500000) :
  Calls Tryz.prog 229 #[.agg #[.slice ao a.length c],v2] w (nG (a.filter fun x=>decide (x ∉ bF b)) w):=by
 have hmf:∀ (fn:Fn) (first cap:Array Value) (w:World),(Instr.makeFunc fn first cap).run Tryz.prog w=.ok (.func fn first cap) w:=fun _ _ _ _=>rfl
 have hal:=(aj w (.cells #[.slice ao a.length c] 114)).alloc (by simp) (.cells #[.slice none 0 0] 114);have hN:=(Lib.alloc_old (w.alloc (.cells #[.slice ao a.length c] 114)) (.cells #[.slice none 0 0] 114) w.heap.size (by simp)).trans (heap_alloc_new w (.cells #[.slice ao a.length c] 114));have hR:=heap_alloc_new (w.alloc (.cells #[.slice ao a.length c] 114)) (.cells #[.slice none 0 0] 114);rw[World.size_alloc] at hR;have PO:=ah (fun W (hW:Below w.heap.size w W)=>Iw P v2 b W (h2.below hW) (by omega))
 have HK:Hid (∀ W,Below w.heap.size w W→∀ (B:Nat) (ab:Option Addr) (cs:Nat),W.heap[B]?=some (.cells #[.slice ab (bF b).length cs] 114 (0,0))→bC (fun k=>w.heap.size≤k) W (.slice ab (bF b).length cs) (bF b)→Calls Tryz.prog 230 #[.agg #[.slice ao a.length c],.func (.func 275) #[] #[.pointer (some ⟨B,0,none⟩)]] W (nG (a.filter fun x=>decide (x ∉ bF b)) W)) :=
  ah (fun W hW B ab cs hB hs=>WB 275 #[.pointer (some ⟨B,0,none⟩)] (fun x=>decide (x ∉ bF b)) Tryz.WC P ao c a W (h1.below hW) (by omega) (fun x _ W' hW'=>IB _ B ab cs (bF b) x W' ((hW'.block B (bG hB).1).trans hB) (hs.below hW') (tJ b) (by have:=kY b;omega)))
 clear h1 h2 ha hb;generalize a.filter _=R at HK ⊢;generalize bF b=S at *;go_enter Tryz.func229,Tryz.ntmps229
 go_upto_region 1 with fail
 change Code.wp _ _ _ _ ((w.alloc (.cells #[.slice ao a.length c] 114)).alloc (.cells #[.slice none 0 0] 114));generalize (w.alloc _).alloc _=w1 at hal hN hR ⊢;have Sj:=(bG hR).1;have hz1:=hal.size;have acX:=ah (PO.out w1 hal);clear PO
 go_upto_region 2 with (go_at_call 93;refine acX.out.mono ?_;rintro e w3 ⟨ar,cr,rfl,htx,hb3⟩)
 have hz3:=hb3.size;have hB4:=heap_alloc_new w3 (.cells #[.slice ar S.length cr] 114);have Le:Below w1.heap.size w1 (w3.alloc (.cells #[.slice ar S.length cr] 114)):=hb3.alloc hz3 _
 have acY:bC (fun k=>w.heap.size≤k) (w3.alloc (.cells #[.slice ar S.length cr] 114)) (.slice ar S.length cr) S:=(htx.below (aj w3 _)).imp fun k hk _=>by omega
 generalize w3.alloc _=w4 at *;have Kv:=Le.size;have qP:=hal.trans (Le.mono hz1);have HK1:=ah (HK.out w4 qP _ _ _ hB4 acY);have Vb:=(Le.block w.heap.size (by omega)).trans hN;have hR4:=(Le.block _ Sj).trans hR;have c0:=(aH Vb).1;clear htx acY HK hb3 acX hN hR hB4;go_wp2_with (go_at_call 230;refine HK1.out.mono ?_;rintro e w5 ⟨ak,ck,rfl,abj,hb5⟩;have hR5:=(hb5.block _ (by omega)).trans hR4;have hfz:=(aH hR5).2;have hc0:=(aH hR5).1);have hs0:=zB (u:=.slice ak R.length ck) hR5;have hbw:Below w.heap.size w (w5.setCell ⟨w.heap.size+1,0,none⟩ (.slice ak R.length ck)):=(qP.trans (hb5.mono qP.size)).setCell (by show w.heap.size≤w.heap.size+1;omega) _
 have abk:bC (fun b=>w.heap.size≤b) (w5.setCell ⟨w.heap.size+1,0,none⟩ (.slice ak R.length ck)) (.slice ak R.length ck) R:=(abj.frame (aQ.set _ fun k hk=>by show k≠w.heap.size+1;omega)).imp fun k hk _=>by omega
 exact bodyPost_ret (v:=.agg #[.slice ak R.length ck]) (by simp[results,Tryz.results229,go_sem,hs0]) rfl ⟨_,_,rfl,abk,hbw⟩
end Go.Proofs.YtknicmmigbhpcaaGreatDoor

namespace Go.Proofs.YtknicmmigbhpcaaGreatDoor
open Go.RowKit Go
def flE (f:Fl):Int:=match f with
 | none=>0
 | some x=>x.1
def flA (f:Fl):Int:=match f with
 | none=>0
 | some x=>x.2
def nH (f:Fl):Prop:=∀ x,f=some x→x.1≠0
theorem nH.none:nH none:=fun _ h=>by cases h
theorem nH.some {e a:Int}(h:e≠0):nH (some (e,a)):=fun x q=>by injection q with q;subst q;exact h
theorem nH.or {f g:Fl}(h:nH f)(k:nH g):nH (rY f g):=by cases f<;>assumption
structure WE where
 md:List UInt8
 pi:Value
 pd:Value
 fs:Value
 db:Nat
def Zi (C:WE)(im:Value)(f:Fl):Array Value:=#[.string ⟨C.md.toArray⟩,C.pi,C.pd,C.fs,im,.pointer (some ⟨C.db,0,none⟩),.int .i64 (flE f),.int .i64 (flA f)]
def qK (C:WE)(lb:Nat)(im:Value)(f:Fl)(w:World):Prop:=w.heap[lb]?=some (.cells (Zi C im f) 116 (0,0))
theorem qK.cells {C:WE}{lb:Nat}{im:Value}{f:Fl}{w:World}(h:qK C lb im f w):(w.cell? ⟨lb,0,none⟩=some (.string ⟨C.md.toArray⟩)∧w.cell? ⟨lb,1,none⟩=some C.pi∧w.cell? ⟨lb,2,none⟩=some C.pd∧w.cell? ⟨lb,3,none⟩=some C.fs∧w.cell? ⟨lb,4,none⟩=some im∧w.cell? ⟨lb,5,none⟩=some (.pointer (some ⟨C.db,0,none⟩))∧w.cell? ⟨lb,6,none⟩=some (.int .i64 (flE f))∧w.cell? ⟨lb,7,none⟩=some (.int .i64 (flA f)))∧∀ i,w.frozen? ⟨lb,i,none⟩=false:=by
 refine⟨⟨?_,?_,?_,?_,?_,?_,?_,?_⟩,fun i=>by rw[qK] at h;simp[World.frozen?,h]⟩
 all_goals (rw[Lib.cell_of_heap h];rfl)
theorem qK.lt {C:WE}{lb:Nat}{im:Value}{f:Fl}{w:World}(h:qK C lb im f w):lb<w.heap.size:=(bG h).1
theorem qK.below {C:WE}{lb:Nat}{im:Value}{f:Fl}{w w':World}(h:qK C lb im f w)(hb:Below w.heap.size w w'):qK C lb im f w':=(hb.block lb h.lt).trans h
def gW (lb:Nat)(w w':World):Prop:=(∀ B,B≤lb→Below B w w')∧aQ (fun b=>b≠lb) w w'
theorem gW.refl (lb:Nat)(w:World):gW lb w w:=⟨fun B _=>Below.refl B w,aQ.refl _ _⟩
theorem gW.trans {lb:Nat}{a b c:World}(h:gW lb a b)(k:gW lb b c):gW lb a c:=⟨fun B hB=>(h.1 B hB).trans (k.1 B hB),h.2.trans k.2⟩
theorem gW.of {lb:Nat}{w w':World}(h:Below w.heap.size w w')(hl:lb<w.heap.size):gW lb w w':=⟨fun B hB=>h.mono (by omega),aQ.of h⟩
theorem gW.set {lb:Nat}(w:World)(i:Nat)(v:Value):gW lb w (w.setCell ⟨lb,i,none⟩ v):=⟨fun B hB=>(Below.refl B w).setCell hB v,aQ.set v fun b hb=>hb⟩
def IC (C:WE)(lb:Nat)(im:Value)(f:Fl)(w:World)(r:Ending)(w':World):Prop:=r=.returned (.tuple #[])∧qK C lb im f w'∧gW lb w w'
theorem Gh (C:WE)(lb:Nat)(im:Value)(f:Fl)(e a:Int)(w:World)(h:qK C lb im f w)(hf:nH f) :
  Calls Tryz.prog 56 #[.pointer (some ⟨lb,0,none⟩),.int .i64 e,.int .i64 a] w (IC C lb im (rY f (some (e,a))) w):=by
 obtain⟨⟨-,-,-,-,-,-,c6,c7⟩,hz⟩:=h.cells;have z6:=hz 6;have z7:=hz 7;have H:=ah h;clear hz h
 cases f with
 | none =>
  simp only[flE,flA] at c6 c7;have h2:qK C lb im (rY none (some (e,a))) ((w.setCell ⟨lb,6,none⟩ (.int .i64 e)).setCell ⟨lb,7,none⟩ (.int .i64 a)):=heap_setCell_same _ lb 7 _ _ _ (heap_setCell_same w lb 6 _ _ _ H.out);have H2:=ah h2;clear h2;go_enter Tryz.func56,Tryz.ntmps56;go_wp2
  go_end0
  exact⟨rfl,H2.out,(gW.set w 6 _).trans (gW.set _ 7 _)⟩
 | some x =>
  have hx:(x.1 == 0)=false:=by
   have:=hf x rfl
   simpa using this
  simp only[flE,flA] at c6 c7;generalize x.1=xe at c6 hx
  have hx':¬ xe=0:=by simpa using hx
  clear hx c7;go_enter Tryz.func56,Tryz.ntmps56;go_wp2
  go_end0
  exact⟨rfl,H.out,gW.refl _ _⟩
def aan:RK (List UInt8) Unit where
 sz:=2
 cells m _:=[.string ⟨m.toArray⟩,.slice none 0 0]
 inn _ _ _ _:=True
 len _ _:=rfl
 frame _ _:=trivial
 imp _ _:=trivial
theorem DI {w:World}{b:Nat}{u v:Value}(h:w.heap[b]?=some (.cells #[u,v] 27 (0,0))):w.cell? ⟨b,0,none⟩=some u∧w.cell? ⟨b,1,none⟩=some v:=⟨by rw[Lib.cell_of_heap h];rfl,by rw[Lib.cell_of_heap h];rfl⟩
theorem Sk (P:Nat→Prop)(af:Option Addr)(cf:Nat)(ms:List (List UInt8))(m n:List UInt8)(w:World)(h:RowK aan P w (.slice af ms.length cf) ms)(hl:ms.length≤1000000) :
  Calls Tryz.prog 11 #[.slice af ms.length cf,.string ⟨m.toArray⟩,.string ⟨n.toArray⟩] w fun e w'=>e=.returned (.tuple #[.agg #[.string ⟨#[]⟩,.slice none 0 0,.int .i64 0,.slice none 0 0],.bool false])∧Below w.heap.size w w':=by
 obtain⟨Tf,cap,hv,_,hf⟩:=h.form;simp only[Value.slice.injEq] at hv;obtain⟨rfl,-,rfl⟩:=hv;have hal:=aj w (.cells #[.string ⟨#[]⟩,.slice none 0 0,.int .i64 0,.slice none 0 0] 31);have hR:=heap_alloc_new w (.cells #[.string ⟨#[]⟩,.slice none 0 0,.int .i64 0,.slice none 0 0] 31);have HF:=ah hf;clear h hf;go_enter Tryz.func11,Tryz.ntmps11
 go_upto_region 1 with fail
 change Code.wp _ _ _ _ (w.alloc (.cells #[.string ⟨#[]⟩,.slice none 0 0,.int .i64 0,.slice none 0 0] 31))
 have hz:w.heap.size<(w.alloc (.cells #[.string ⟨#[]⟩,.slice none 0 0,.int .i64 0,.slice none 0 0] 31)).heap.size:=by simp
 generalize w.alloc _=w1 at *;have hz1:=hal.size
 have acZ:Hid (∀ W,Below w1.heap.size w1 W→W.heap[w.heap.size]?=some (.cells #[.string ⟨#[]⟩,.slice none 0 0,.int .i64 0,.slice none 0 0] 31 (0,0))∧Below w.heap.size w W):=ah fun W hW=>⟨(hW.block _ hz).trans hR,hal.trans (hW.mono hz1)⟩
 clear hR;go_wp2
 go_loopw [9,11,14] (fun _ _ q wr=>∃ k:Nat,k≤ms.length∧q=.int .i64 k∧Below w1.heap.size w1 wr) (fun _ _ q _=>ms.length - (intOf q).toNat)
 case atStart=>exact⟨0,Nat.zero_le _,rfl,Below.refl _ _⟩
 case round =>
  obtain⟨k,hk,rfl,hbl⟩:=hrel;have uU:=hbl.size
  by_cases hlt:k<ms.length
  ·obtain⟨b,off,rfl,_,hbw,hcell⟩:=HF.out (by omega)
   obtain⟨_,_,hc⟩:=hcell k hlt;have x0:=((hal.trans (hbl.mono hz1)).cell (p:=⟨b,off+k * 2+0,none⟩) hbw).trans (hc 0 _ rfl);have x1:=((hal.trans (hbl.mono hz1)).cell (p:=⟨b,off+k * 2+1,none⟩) hbw).trans (hc 1 _ rfl);rw[Nat.add_zero] at x0
   have nJ:(k:Int)<(ms.length:Int):=by omega
   clear hc hcell;generalize ms[k]=y at *;have bq:=aj wr (.cells #[.string ⟨y.toArray⟩,.slice none 0 0] 27);have hN:=heap_alloc_new wr (.cells #[.string ⟨y.toArray⟩,.slice none 0 0] 27)
   go_upto_region 4 with fail
   change Code.wp _ _ _ _ (wr.alloc (.cells #[.string ⟨y.toArray⟩,.slice none 0 0] 27));clear x0 x1;generalize wr.alloc (.cells #[.string ⟨y.toArray⟩,.slice none 0 0] 27)=w2 at *;have hb2:=hbl.trans (bq.mono uU);obtain⟨y0,y1⟩:=DI hN
   go_upto_if 21 with fail
   cases hym:y == m with
   | false =>
    clear hym;go_wp2
    go_roundw
    case rel=>exact⟨k+1,by omega,by go_num,hb2⟩
    case measure=>simp[intOf];omega
   | true =>
    clear hym;obtain⟨hRr,hbw2⟩:=acZ.out w2 hb2;obtain⟨⟨c0,c1,c2,c3⟩,f0,f1,f2,f3⟩:=fA hRr;go_wp2
    go_loopw [25] (fun q wr=>q=.int .i64 0∧wr=w2) (fun q _=>0)
    case atStart=>exact⟨rfl,rfl⟩
    case round =>
     obtain⟨rfl,rfl⟩:=hrel;go_wp2;change bodyPost _ _ _ _ _ (jN wr w.heap.size (.string ⟨#[]⟩) (.slice none 0 0) (.int .i64 0) (.slice none 0 0));have hP:=fI hRr (.string ⟨#[]⟩) (.slice none 0 0) (.int .i64 0) (.slice none 0 0);have Ef:=eF hbw2 (Nat.le_refl _) (.string ⟨#[]⟩) (.slice none 0 0) (.int .i64 0) (.slice none 0 0);generalize jN wr _ _ _ _ _=w4 at *;obtain⟨⟨d0,d1,d2,d3⟩,-⟩:=fA hP;exact bodyPost_ret (v:=.tuple #[.agg #[.string ⟨#[]⟩,.slice none 0 0,.int .i64 0,.slice none 0 0],.bool false]) (by simp[results,Tryz.results11,go_sem,d0,d1,d2,d3]) rfl ⟨rfl,Ef⟩
  ·obtain rfl:k=ms.length:=by omega
   have nJ:decide ((ms.length:Int)<(ms.length:Int))=false:=decide_eq_false (by omega);obtain⟨hRr,hbw⟩:=acZ.out wr hbl;obtain⟨⟨c0,c1,c2,c3⟩,f0,f1,f2,f3⟩:=fA hRr;go_wp2;change bodyPost _ _ _ _ _ (jN wr w.heap.size (.string ⟨#[]⟩) (.slice none 0 0) (.int .i64 0) (.slice none 0 0));have hP:=fI hRr (.string ⟨#[]⟩) (.slice none 0 0) (.int .i64 0) (.slice none 0 0);have Ef:=eF hbw (Nat.le_refl _) (.string ⟨#[]⟩) (.slice none 0 0) (.int .i64 0) (.slice none 0 0);generalize jN wr _ _ _ _ _=w4 at *;obtain⟨⟨d0,d1,d2,d3⟩,-⟩:=fA hP;exact bodyPost_ret (v:=.tuple #[.agg #[.string ⟨#[]⟩,.slice none 0 0,.int .i64 0,.slice none 0 0],.bool false]) (by simp[results,Tryz.results11,go_sem,d0,d1,d2,d3]) rfl ⟨rfl,Ef⟩
end Go.Proofs.YtknicmmigbhpcaaGreatDoor
