/- Walks and plain laws: BagW3, BagW4, BagW5, FreePlain, SizeL, ReadW1. -/
import Derived.Test.YtbodlpoomfefcaaGreatDoorA08
import Derived.Lib.AppendZerosOnto
import Derived.Laws.AppendOwnNone
set_option maxHeartbeats 16000000
set_option maxRecDepth 100000
set_option linter.unusedVariables false
set_option linter.unusedSimpArgs false
namespace Go.Proofs.YtbodlpoomfefcaaGreatDoor
open Go.RowKit Go Go.Sort
theorem Tryz.infoBag:(Tryz.prog.info? 9).map (fun i=>(i.zero,i.size,i.bytes))=some (some (.string ⟨#[]⟩),1,16):=by kernel_rfl
def OwnT (B:Nat)(w:World)(v:Value)(l:List (List UInt8)):Prop:=w.ownsRow B 9 1 v l.length (l.map encStr)
theorem OwnT.slice {B:Nat}{w:World}{v:Value}{l:List (List UInt8)}(h:OwnT B w v l):∃ ak ck,v=.slice ak l.length ck:=by
 obtain ⟨ao,cap,e,_,_⟩:=(TxAt.owns (P:=fun _=>True) h (fun _ _=>trivial)).slice
 exact ⟨ao,cap,e⟩
def GrowPost (w:World)(e:Ending)(w':World):Prop:=∃ v,e=.returned v∧OwnT w.heap.size w' v []∧Below w.heap.size w w'
theorem growT_any (n:Nat)(w:World)(hn:n≤4000000):Calls Tryz.prog 241 #[.slice none 0 0,.int .i64 n] w (GrowPost w):=by
 rcases Nat.eq_zero_or_pos n with h0|h0
 ·subst h0
  go_enter Tryz.func241,Tryz.ntmps241
  go_wp2
  go_ret
  exact ⟨_,rfl,World.ownsRow_nil _ _ _ _,Below.refl _ _⟩
 ·obtain ⟨i0,hi,hz0,hz1,hz2⟩:=info_parts Tryz.infoBag
  have hrz:=Lib.run_append_grow_zeros (P:=Tryz.prog) w 54 3 54 9 i0 _ .i64 .i64 Tryz.underlying54 Tryz.underlying3 hi hz0 none 0 0 [] (run_firstCells_none _ _ _ _ _) n h0 (by omega) (by omega) (by omega) (by rw [hz2];omega) (by rw [hz2];exact growslice_fits (by omega) (by omega))
  rw [Nat.zero_add] at hrz
  have hG1:=grownCap_ge w n 0 9
  have hG2:=grownCap_le_maxLen w n 0 9 (by unfold maxLen;omega)
  generalize grownCap w n 0 9=G at *
  have hown:((w.alloc (.cells (Builtin.zeroCells #[Value.string ⟨#[]⟩] n++Builtin.zeroCells #[Value.string ⟨#[]⟩] (G - n)) 9)).drew).ownsRow w.heap.size 9 1 (.slice (some ⟨w.heap.size,0,none⟩) 0 G) 0 [] :=
   ⟨rfl,.inr ⟨w.heap.size,G,_,rfl,Nat.le_refl _,heap_alloc_new w _,by omega,hG2,by simp [size_zeroCells];omega,by simp⟩⟩
  have hbel:Below w.heap.size w ((w.alloc (.cells (Builtin.zeroCells #[Value.string ⟨#[]⟩] n++Builtin.zeroCells #[Value.string ⟨#[]⟩] (G - n)) 9)).drew):=((Below.refl _ w).alloc (Nat.le_refl _) _).drew
  have HO:=Lib.hid hown
  have HB:=Lib.hid hbel
  have hG3:G≤9223372036854775807:=by unfold maxLen at hG2;omega
  have hnI:(0:Int)<(n:Int):=by omega
  have hn0:¬ ((n:Int)<0):=by omega
  clear hown hbel
  go_enter Tryz.func241,Tryz.ntmps241
  go_wp2_with (at_builtin;refine Lib.wpList_append_run _ rfl _ _ _ _ rfl _ _ rfl rfl _ _ hrz ?_)
  all_goals (go_ret;exact ⟨_,rfl,HO.out,HB.out⟩)
theorem TxAt.news {P:Nat→Prop}{w:World}{ad:Addr}{n c:Nat}{l:List (List UInt8)}(h:TxAt P w (.slice (some ad) n c) l):∀ j u,(l.map encStr)[j]?=some u→w.cell? (ad.add j)=some u:=by
 obtain ⟨ao,cap,hv,_,hc⟩:=h.slice
 simp only [Value.slice.injEq] at hv
 obtain ⟨rfl,rfl,rfl⟩:=hv
 intro j u hj
 rw [List.getElem?_map] at hj
 obtain ⟨x,hx,rfl⟩:=Option.map_eq_some_iff.1 hj
 obtain ⟨hjl,rfl⟩:=List.getElem?_eq_some_iff.1 hx
 obtain ⟨b,off,e,_,_,hcell⟩:=hc (by omega)
 injection e with e
 subst e
 rw [Addr.add_lit]
 exact hcell j hjl
def ConPost (l:List (List UInt8))(w:World)(e:Ending)(w':World):Prop:=∃ v,e=.returned v∧OwnT w.heap.size w' v l∧Below w.heap.size w w'
theorem enc_one (l:List (List UInt8)):∀ u∈l.map encStr,u.oneCell'=true:=by
 intro u hu
 obtain ⟨x,_,rfl⟩:=List.mem_map.1 hu
 rfl
theorem OwnT.app {B:Nat}{w:World}{v:Value}{l a:List (List UInt8)}(h:w.ownsRow B 9 1 v (l.length+a.length) (l.map encStr++a.map encStr)):OwnT B w v (l++a):=by
 unfold OwnT
 rw [List.length_append,List.map_append]
 exact h
theorem concat_any (P:Nat→Prop)(v1 v2:Value)(a b:List (List UInt8))(sb:Nat)(w:World)(h1:TxAt P w v1 a)(h2:TxAt P w v2 b)(hs:w.heap[sb]?=some (.cells #[v1,v2] 54 (0,0)))(ha:a.length≤1000000)(hb:b.length≤1000000) :
  Calls Tryz.prog 179 #[.slice (some ⟨sb,0,none⟩) 2 2] w (ConPost (a++b) w):=by
 obtain ⟨i0,hi,hz0,hz1,hz2⟩:=info_parts Tryz.infoBag
 obtain ⟨a1,c1,rfl,hc1,-⟩:=h1.slice
 obtain ⟨a2,c2,rfl,hc2,-⟩:=h2.slice
 have hsl:=(Array.getElem?_eq_some_iff.1 hs).1
 have x0:w.cell? ⟨sb,0,none⟩=some (.slice a1 a.length c1):=by rw [Lib.cell_of_heap hs];rfl
 have x1:w.cell? ⟨sb,1,none⟩=some (.slice a2 b.length c2):=by rw [Lib.cell_of_heap hs];rfl
 have HG:Hid (Calls Tryz.prog 241 #[.slice none 0 0,.int .i64 ((a.length:Int)+(b.length:Int))] w (GrowPost w)):=Lib.hid (by
  have:=growT_any (a.length+b.length) w (by omega)
  rw [Int.natCast_add] at this
  exact this)
 have H1:=Lib.hid h1
 have H2:=Lib.hid h2
 have HS:=Lib.hid hs
 have haI:(a.length:Int)≤1000000:=by omega
 have hbI:(b.length:Int)≤1000000:=by omega
 have hnn:¬ ((a.length:Int)+(b.length:Int)<0):=by omega
 have hn1:¬ ((a.length:Int)<0):=by omega
 clear h1 h2 hs
 go_enter Tryz.func179,Tryz.ntmps179
 go_wp2
 go_loopw [3,5,11] (fun s _ q wr=>wr=w∧((q=.int .i64 0∧s=.int .i64 0)∨(q=.int .i64 1∧s=.int .i64 a.length)∨(q=.int .i64 2∧s=.int .i64 ((a.length:Int)+(b.length:Int))))) (fun _ _ q _=>(2 - intOf q).toNat)
 case atStart=>exact ⟨rfl,.inl ⟨rfl,rfl⟩⟩
 case round =>
  obtain ⟨rfl,⟨rfl,rfl⟩|⟨rfl,rfl⟩|⟨rfl,rfl⟩⟩:=hrel
  ·clear HG H1 H2 HS
   go_wp2
   go_roundw
   case rel=>exact ⟨by trivial,.inr (.inl ⟨rfl,by simp⟩)⟩
   case measure=>simp [intOf]
  ·clear HG H1 H2 HS
   go_wp2
   go_roundw
   case rel=>exact ⟨by trivial,.inr (.inr ⟨rfl,rfl⟩)⟩
   case measure=>simp [intOf]
  ·clear x0 x1
   obtain ⟨w0,rfl⟩:∃ w0:World,w0=wr:=⟨_,rfl⟩
   go_upto_region 10 with (go_at_call 241;refine HG.out.mono ?_;rintro e w2 ⟨v,rfl,hown,hb2⟩)
   obtain ⟨ak0,ck0,rfl⟩:=hown.slice
   have HO:=Lib.hid hown
   have HB2:=Lib.hid hb2
   clear hown hb2 HG
   go_wp2
   go_loopw [6,8,27] (fun kv _ q w3=>∃ (ak:Option Addr) (ck:Nat) (l:List (List UInt8)),kv=.slice ak l.length ck∧OwnT w0.heap.size w3 (.slice ak l.length ck) l∧Below w0.heap.size w0 w3∧((q=.int .i64 0∧l=[])∨(q=.int .i64 1∧l=a)∨(q=.int .i64 2∧l=a++b))) (fun _ _ q _=>(2 - intOf q).toNat)
   case atStart=>exact ⟨ak0,ck0,[],rfl,HO.out,HB2.out,.inl ⟨rfl,rfl⟩⟩
   case round =>
    obtain ⟨ak,ck,l,rfl,hown,hbl,⟨rfl,rfl⟩|⟨rfl,hla⟩|⟨rfl,rfl⟩⟩:=hrel
    ·-- round 0
     have hsc:wr.cell? ⟨sb,0,none⟩=some (.slice a1 a.length c1):=by rw [Lib.cell_of_heap ((hbl.block sb hsl).trans HS.out)];rfl
     have ht:=H1.out.below hbl
     have hzr:=hbl.size
     cases a1 with
     | none =>
      obtain rfl:=ht.2 _ _ rfl
      have hl0:a.length=0:=by
       obtain ⟨ao,cap,hv,_,hc⟩:=ht.slice
       rcases Nat.eq_zero_or_pos a.length with q|q
       ·exact q
       ·obtain ⟨b,off,e,_⟩:=hc q
        simp only [Value.slice.injEq] at hv
        rw [← hv.1] at e;cases e
      have he:=List.eq_nil_of_length_eq_zero hl0
      rw [hl0] at hsc
      have HW:=Lib.hid hown
      have HE:=Lib.hid he
      clear ht hown he hl0 H1 H2
      go_wp2_with (at_builtin;refine wpList_append_own_none rfl _ _ 54 rfl w0.heap.size 9 i0 1 Tryz.underlying54 hi _ ([]:List (List UInt8)).length _ rfl HW.out rfl ?_)
      go_roundw
      case rel =>
       repeat apply Exists.intro
       exact ⟨⟨_,_,_,rfl,HW.out,hbl,.inr (.inl ⟨rfl,HE.out.symm⟩)⟩,rfl⟩
      case measure=>simp [intOf]
     | some ad =>
      have hnews:=ht.news
      have HW:=Lib.hid hown
      clear ht H1 H2
      go_wp2_with (at_builtin;refine wpList_append_own _ rfl _ _ 54 rfl w0.heap.size 9 i0 _ 1 16 Tryz.underlying54 hi hz0 hz1 hz2 rfl (by decide) _ ([]:List (List UInt8)).length _ rfl HW.out ad a.length c1 (a.map encStr) rfl ?q1 hnews (enc_one _) ?q2 ?q3 hzr ?_)
      case q1=>simp
      case q2=>unfold maxLen;first|omega|(simp only [List.length_nil];omega)
      case q3=>first|omega|(simp only [List.length_nil];omega)
      intro v' w' hown' hgrow hiff
      have hb':=hbl.grown hgrow hzr (fun b q=>(HW.out.lt b q).1)
      have HO':Hid (OwnT w0.heap.size w' v' a):=Lib.hid hown'
      obtain ⟨ak',ck',rfl⟩:=HO'.out.slice
      clear hown' hgrow hiff hown HW hnews
      go_wp2
      go_roundw
      case rel =>
       repeat apply Exists.intro
       exact ⟨⟨_,_,_,rfl,HO'.out,hb',.inr (.inl ⟨rfl,rfl⟩)⟩,rfl⟩
      case measure=>simp [intOf]
    ·-- round 1
     have hla2:l.length≤1000000:=by rw [hla];exact ha
     have HLA:=Lib.hid hla
     clear hla
     have hsc:wr.cell? ⟨sb,1,none⟩=some (.slice a2 b.length c2):=by rw [Lib.cell_of_heap ((hbl.block sb hsl).trans HS.out)];rfl
     have ht:=H2.out.below hbl
     have hzr:=hbl.size
     cases a2 with
     | none =>
      obtain rfl:=ht.2 _ _ rfl
      have hl0:b.length=0:=by
       obtain ⟨ao,cap,hv,_,hc⟩:=ht.slice
       rcases Nat.eq_zero_or_pos b.length with q|q
       ·exact q
       ·obtain ⟨b,off,e,_⟩:=hc q
        simp only [Value.slice.injEq] at hv
        rw [← hv.1] at e;cases e
      have he:=List.eq_nil_of_length_eq_zero hl0
      rw [hl0] at hsc
      have HW:=Lib.hid hown
      have HE:=Lib.hid he
      clear ht hown he hl0 H1 H2
      go_wp2_with (at_builtin;refine wpList_append_own_none rfl _ _ 54 rfl w0.heap.size 9 i0 1 Tryz.underlying54 hi _ l.length _ rfl HW.out rfl ?_)
      go_roundw
      case rel =>
       repeat apply Exists.intro
       exact ⟨⟨_,_,_,rfl,HW.out,hbl,.inr (.inr ⟨rfl,by rw [HE.out,List.append_nil,HLA.out]⟩)⟩,rfl⟩
      case measure=>simp [intOf]
     | some ad =>
      have hnews:=ht.news
      have HW:=Lib.hid hown
      clear ht H1 H2
      go_wp2_with (at_builtin;refine wpList_append_own _ rfl _ _ 54 rfl w0.heap.size 9 i0 _ 1 16 Tryz.underlying54 hi hz0 hz1 hz2 rfl (by decide) _ l.length _ rfl HW.out ad b.length c2 (b.map encStr) rfl ?q1 hnews (enc_one _) ?q2 ?q3 hzr ?_)
      case q1=>simp
      case q2=>unfold maxLen;first|omega|(simp only [List.length_nil];omega)
      case q3=>first|omega|(simp only [List.length_nil];omega)
      intro v' w' hown' hgrow hiff
      have hb':=hbl.grown hgrow hzr (fun b q=>(HW.out.lt b q).1)
      have HO':=Lib.hid (OwnT.app (l:=l) (a:=b) hown')
      obtain ⟨ak',ck',rfl⟩:=HO'.out.slice
      clear hown' hgrow hiff hown HW hnews
      go_wp2
      go_roundw
      case rel =>
       repeat apply Exists.intro
       exact ⟨⟨_,_,_,rfl,HO'.out,hb',.inr (.inr ⟨rfl,by rw [HLA.out]⟩)⟩,rfl⟩
      case measure=>simp [intOf]
    ·have HW:=Lib.hid hown
     clear hown H1 H2
     go_wp2
     go_ret
     exact ⟨_,rfl,HW.out,hbl⟩
theorem setRes {w:World}{b:Nat}{v u:Value}(h:w.heap[b]?=some (.cells #[v] 131 (0,0))):(w.setCell ⟨b,0,none⟩ u).cell? ⟨b,0,none⟩=some u:=by
 have:=heap_setCell_same w b 0 _ _ u h
 rw [Lib.cell_of_heap this];rfl
theorem with_any (P:Nat→Prop)(ao:Option Addr)(c:Nat)(v2:Value)(a b:List (List UInt8))(w:World)(h1:TxAt P w (.slice ao a.length c) a)(h2:TxAt P w v2 b)(ha:a.length≤500000)(hb:b.length≤500000) :
  Calls Tryz.prog 113 #[.agg #[.slice ao a.length c],v2] w (SetPost (setT (a++b)) w):=by
 obtain ⟨a2,c2,rfl,-,-⟩:=h2.slice
 have hal:=(below_new w (.cells #[.slice ao a.length c] 131)).alloc (by simp) (.cells #[.slice none 0 0] 131)
 have hN:=(Lib.alloc_old (w.alloc (.cells #[.slice ao a.length c] 131)) (.cells #[.slice none 0 0] 131) w.heap.size (by simp)).trans (heap_alloc_new w (.cells #[.slice ao a.length c] 131))
 have hR:=heap_alloc_new (w.alloc (.cells #[.slice ao a.length c] 131)) (.cells #[.slice none 0 0] 131)
 rw [World.size_alloc] at hR
 have HC:=Lib.hid (fun W (hW:Below w.heap.size w W)=>concat_any P (.slice ao a.length c) (.slice a2 b.length c2) a b W.heap.size (W.alloc (.cells #[.slice ao a.length c,.slice a2 b.length c2] 54)) ((h1.below hW).below (below_new W _)) ((h2.below hW).below (below_new W _)) (heap_alloc_new W _) (by omega) (by omega))
 have hlen:(a++b).length≤1000000:=by rw [List.length_append];omega
 clear h1 h2
 go_enter Tryz.func113,Tryz.ntmps113
 go_upto_region 1 with fail
 change Code.wp _ _ _ _ ((w.alloc (.cells #[.slice ao a.length c] 131)).alloc (.cells #[.slice none 0 0] 131))
 generalize (w.alloc _).alloc _=w1 at hal hN hR ⊢
 have hlR:=(Array.getElem?_eq_some_iff.1 hR).1
 have c0:=(setBox_cell hN).1
 have hz1:=hal.size
 have HC1:=Lib.hid (HC.out w1 hal)
 clear HC hN
 go_wp2_with (first|(go_at_call 179;refine HC1.out.mono ?_;rintro e w2 ⟨v,rfl,hown,hb2⟩;have hb12:=(below_new w1 (.cells #[.slice ao a.length c,.slice a2 b.length c2] 54)).trans (hb2.mono (by simp));have hz2:=hb12.size;have HOF:=Lib.hid (of_any (fun _=>True) v (a++b) w2 (TxAt.owns hown (fun _ _=>trivial)) hlen))|(go_at_call 174;refine HOF.out.mono ?_;rintro e w3 ⟨ar,cr,rfl,htx,hb3⟩;have hb13:=hb12.trans (hb3.mono hz2);have hR3:=(hb13.block _ hlR).trans hR;have hfz:=(setBox_cell hR3).2;have hc0:=(setBox_cell hR3).1))
 have hs0:=setRes (u:=.slice ar (setT (a++b)).length cr) hR3
 have hbw:Below w.heap.size w (w3.setCell ⟨w.heap.size+1,0,none⟩ (.slice ar (setT (a++b)).length cr)):=(hal.trans (hb13.mono hz1)).setCell (by show w.heap.size≤w.heap.size+1;omega) _
 have htx2:TxAt (fun b=>w.heap.size≤b) (w3.setCell ⟨w.heap.size+1,0,none⟩ (.slice ar (setT (a++b)).length cr)) (.slice ar (setT (a++b)).length cr) (setT (a++b)):=(htx.frame (Alk.set _ fun k hk=>by show k≠w.heap.size+1;omega)).imp fun k hk _=>by omega
 exact bodyPost_ret (v:=.agg #[.slice ar (setT (a++b)).length cr]) (by simp [results,Tryz.results113,go_sem,hs0]) rfl ⟨_,_,rfl,htx2,hbw⟩
def AskT (f:FuncId)(lb:Array Value)(p:List UInt8→Bool)(w:World)(x:List UInt8):Prop:=∀ W,Below w.heap.size w W→Calls Tryz.prog f (#[.string ⟨x.toArray⟩]++lb) W fun r w'=>r=.returned (.bool (p x))∧Below W.heap.size W w'
theorem filter_take {p:List UInt8→Bool}{l:List (List UInt8)}{k:Nat}(h:k<l.length):(l.take (k+1)).filter p=(l.take k).filter p++if p l[k]=true then [l[k]] else []:=by
 rw [List.take_succ_eq_append_getElem h,List.filter_append]
 congr 1
 cases h':p l[k] <;> simp [h']
theorem kept_any (f:FuncId)(lb:Array Value)(p:List UInt8→Bool)(eg:∀ args w,(callFunc f args).run Tryz.prog w=.ok (.enter f args) w)(P:Nat→Prop)(ao:Option Addr)(c:Nat)(l:List (List UInt8))(w:World)(h:TxAt P w (.slice ao l.length c) l)(hl:l.length≤1000000)(hk:∀ x∈l,AskT f lb p w x) :
  Calls Tryz.prog 236 #[.agg #[.slice ao l.length c],.func (.func f) #[] lb] w (SetPost (l.filter p) w):=by
 obtain ⟨i0,hi,hz0,hz1',hz2'⟩:=info_parts Tryz.infoBag
 have hal:=(below_new w (.cells #[.slice ao l.length c] 131)).alloc (by simp) (.cells #[.slice none 0 0] 131)
 have hN:=(Lib.alloc_old (w.alloc (.cells #[.slice ao l.length c] 131)) (.cells #[.slice none 0 0] 131) w.heap.size (by simp)).trans (heap_alloc_new w (.cells #[.slice ao l.length c] 131))
 have hR:=heap_alloc_new (w.alloc (.cells #[.slice ao l.length c] 131)) (.cells #[.slice none 0 0] 131)
 rw [World.size_alloc] at hR
 have HT:=Lib.hid (fun W (hW:Below w.heap.size w W)=>h.below hW)
 have HK:=Lib.hid hk
 clear h hk
 go_enter Tryz.func236,Tryz.ntmps236
 go_upto_region 1 with fail
 change Code.wp _ _ _ _ ((w.alloc (.cells #[.slice ao l.length c] 131)).alloc (.cells #[.slice none 0 0] 131))
 generalize (w.alloc _).alloc _=w1 at hal hN hR ⊢
 have hlR:=(Array.getElem?_eq_some_iff.1 hR).1
 have c0:=(setBox_cell hN).1
 have hz1:=hal.size
 go_wp2
 go_loopw [5,7,11] (fun kv _ q wr=>∃ (k:Nat) (ak:Option Addr) (ck:Nat),k≤l.length∧q=.int .i64 k∧kv=.slice ak ((l.take k).filter p).length ck∧OwnT w1.heap.size wr (.slice ak ((l.take k).filter p).length ck) ((l.take k).filter p)∧Below w1.heap.size w1 wr) (fun _ _ q _=>l.length - (intOf q).toNat)
 case atStart=>exact ⟨0,none,0,Nat.zero_le _,rfl,rfl,World.ownsRow_nil _ _ _ _,Below.refl _ _⟩
 case round =>
  obtain ⟨k,ak,ck,hkl,rfl,rfl,hown,hbl⟩:=hrel
  have hzr:=hbl.size
  have hbw:=hal.trans (hbl.mono hz1)
  by_cases hlt:k<l.length
  ·obtain ⟨ao',cap,hv,_,hc⟩:=(HT.out wr hbw).slice
   simp only [Value.slice.injEq] at hv
   obtain ⟨rfl,-,rfl⟩:=hv
   obtain ⟨b,off,rfl,_,_,hcell⟩:=hc (by omega)
   have x0:=hcell k hlt
   have hA:=HK.out _ (List.getElem_mem hlt) wr hbw
   have hsn:=filter_take (p:=p) hlt
   have hfl:((l.take k).filter p).length≤1000000:=Nat.le_trans (List.length_filter_le _ _) (by rw [List.length_take];omega)
   have HSN:=Lib.hid hsn
   have HA:=Lib.hid hA
   have HW:=Lib.hid hown
   have hkI:(k:Int)<(l.length:Int):=by omega
   clear hcell hA hsn hown
   generalize hzs:(l.take k).filter p=zs at *
   generalize l[k]=x at *
   clear hzs
   cases hp:p x with
   | false =>
    have HN:Hid ((l.take (k+1)).filter p=zs):=Lib.hid (by rw [HSN.out,hp];simp)
    have HA2:Hid (Calls Tryz.prog f (#[.string ⟨x.toArray⟩]++lb) wr fun r w'=>r=.returned (.bool false)∧Below wr.heap.size wr w'):=Lib.hid (by have:=HA.out;rw [hp] at this;exact this)
    clear HSN hp HA
    go_wp2_with (go_at_fn f;refine HA2.out.mono ?_;rintro r w2 ⟨rfl,hb2⟩)
    go_roundw
    case rel =>
     exact ⟨k+1,ak,ck,by omega,by go_num,by rw [HN.out],by rw [HN.out];exact own_below HW.out hb2,hbl.trans (hb2.mono hzr)⟩
    case measure=>simp [intOf];omega
   | true =>
    have HN:Hid ((l.take (k+1)).filter p=zs++[x]):=Lib.hid (by rw [HSN.out,hp];simp)
    have HA2:Hid (Calls Tryz.prog f (#[.string ⟨x.toArray⟩]++lb) wr fun r w'=>r=.returned (.bool true)∧Below wr.heap.size wr w'):=Lib.hid (by have:=HA.out;rw [hp] at this;exact this)
    clear HSN hp HA
    go_upto_region 6 with (go_at_fn f;refine HA2.out.mono ?_;rintro r w2 ⟨rfl,hb2⟩)
    have hz2:=hb2.size
    have HW2:=Lib.hid (own_below HW.out hb2)
    clear HW HA2
    go_wp2_with (at_builtin;refine wpList_append_own _ rfl _ _ 54 rfl w1.heap.size 9 i0 _ 1 16 Tryz.underlying54 hi hz0 hz1' hz2' rfl (by decide) _ zs.length _ rfl (HW2.out.alloc _) ⟨w2.heap.size,0,none⟩ 1 1 [.string ⟨x.toArray⟩] rfl rfl ?q0 ?q00 ?q2 ?q3 ?q4 ?_)
    case q0=>exact World.news_of_block (cs:=#[.string ⟨x.toArray⟩]) (t:=9) (fr:=(0,0)) (heap_alloc_new w2 _)
    case q00=>simp [Value.oneCell']
    case q2=>unfold maxLen;omega
    case q3=>omega
    case q4=>simp;omega
    intro v' w' hown' hgrow hiff
    have hb':Below w1.heap.size w1 w':=((hbl.trans (hb2.mono hzr)).alloc (by omega) _).grown hgrow (by simp;omega) (fun b q=>(HW2.out.lt b q).1)
    have HO':Hid (OwnT w1.heap.size w' v' (zs++[x])):=Lib.hid (OwnT.app (l:=zs) (a:=[x]) hown')
    obtain ⟨ak',ck',rfl⟩:=HO'.out.slice
    clear hown' hgrow hiff HW2
    go_wp2
    go_roundw
    case rel =>
     exact ⟨k+1,ak',ck',by omega,by go_num,by rw [HN.out],by rw [HN.out];exact HO'.out,hb'⟩
    case measure=>simp [intOf];omega
  ·obtain rfl:k=l.length:=by omega
   have hkI:decide ((l.length:Int)<(l.length:Int))=false:=decide_eq_false (by omega)
   rw [List.take_length] at hown ⊢
   have HW:=Lib.hid hown
   have hR3:=(hbl.block _ hlR).trans hR
   have hfz:=(setBox_cell hR3).2
   have hc0:=(setBox_cell hR3).1
   have hs0:=setRes (u:=.slice ak (l.filter p).length ck) hR3
   have hbw2:Below w.heap.size w (wr.setCell ⟨w.heap.size+1,0,none⟩ (.slice ak (l.filter p).length ck)):=hbw.setCell (by show w.heap.size≤w.heap.size+1;omega) _
   have htx2:TxAt (fun b=>w.heap.size≤b) (wr.setCell ⟨w.heap.size+1,0,none⟩ (.slice ak (l.filter p).length ck)) (.slice ak (l.filter p).length ck) (l.filter p):=((TxAt.owns (P:=fun b=>w1.heap.size≤b) hown (fun _ hb=>hb)).frame (Alk.set _ fun k hk=>by show k≠w.heap.size+1;omega)).imp fun k hk _=>by omega
   clear hown hN hR
   go_wp2
   exact bodyPost_ret (v:=.agg #[.slice ak (l.filter p).length ck]) (by simp [results,Tryz.results236,go_sem,hs0]) rfl ⟨ak,ck,rfl,htx2,hbw2⟩
theorem Tryz.entersWo:∀ args w,(callFunc 237 args).run Tryz.prog w=.ok (.enter 237 args) w:=Go.Proofs.enters_of Tryz.func237 (by kernel_rfl) rfl
theorem without1_any (P:Nat→Prop)(b:Nat)(ao:Option Addr)(c:Nat)(l:List (List UInt8))(x:List UInt8)(w:World)(hb:w.heap[b]?=some (.cells #[.slice ao l.length c] 131 (0,0)))(h:TxAt P w (.slice ao l.length c) l)(hr:l.Pairwise (· < ·))(hl:l.length≤1000000) :
  Calls Tryz.prog 237 (#[.string ⟨x.toArray⟩]++#[.pointer (some ⟨b,0,none⟩)]) w fun r w'=>r=.returned (.bool (decide (x ∉ l)))∧Below w.heap.size w w':=by
 have c0:=(setBox_cell hb).1
 have HH:=Lib.hid (has_any P ao c l ⟨x.toArray⟩ w h hr hl)
 have e:decide (x ∉ l)=!decide (x∈l):=by simp
 rw [e]
 simp only at HH
 generalize decide (x∈l)=r at *
 show Calls Tryz.prog 237 #[.string ⟨x.toArray⟩,.pointer (some ⟨b,0,none⟩)] w _
 clear h hr hl hb e
 go_enter Tryz.func237,Tryz.ntmps237
 go_wp2_with (go_at_call 112;refine HH.out.mono ?_;rintro e w2 ⟨rfl,hb2⟩)
 go_ret
 exact ⟨rfl,hb2⟩
theorem without_any (P:Nat→Prop)(ao:Option Addr)(c:Nat)(v2:Value)(a b:List (List UInt8))(w:World)(h1:TxAt P w (.slice ao a.length c) a)(h2:TxAt P w v2 b)(ha:a.length≤500000)(hb:b.length≤500000) :
  Calls Tryz.prog 175 #[.agg #[.slice ao a.length c],v2] w (SetPost (a.filter fun x=>decide (x ∉ setT b)) w):=by
 have hmf:∀ (fn:Fn) (first cap:Array Value) (w:World),(Instr.makeFunc fn first cap).run Tryz.prog w=.ok (.func fn first cap) w:=fun _ _ _ _=>rfl
 have hal:=(below_new w (.cells #[.slice ao a.length c] 131)).alloc (by simp) (.cells #[.slice none 0 0] 131)
 have hN:=(Lib.alloc_old (w.alloc (.cells #[.slice ao a.length c] 131)) (.cells #[.slice none 0 0] 131) w.heap.size (by simp)).trans (heap_alloc_new w (.cells #[.slice ao a.length c] 131))
 have hR:=heap_alloc_new (w.alloc (.cells #[.slice ao a.length c] 131)) (.cells #[.slice none 0 0] 131)
 rw [World.size_alloc] at hR
 have HOF:=Lib.hid (fun W (hW:Below w.heap.size w W)=>of_any P v2 b W (h2.below hW) (by omega))
 have HK:Hid (∀ W,Below w.heap.size w W→∀ (B:Nat) (ab:Option Addr) (cs:Nat),W.heap[B]?=some (.cells #[.slice ab (setT b).length cs] 131 (0,0))→TxAt (fun k=>w.heap.size≤k) W (.slice ab (setT b).length cs) (setT b)→Calls Tryz.prog 236 #[.agg #[.slice ao a.length c],.func (.func 237) #[] #[.pointer (some ⟨B,0,none⟩)]] W (SetPost (a.filter fun x=>decide (x ∉ setT b)) W)) :=
  Lib.hid (fun W hW B ab cs hB hs=>kept_any 237 #[.pointer (some ⟨B,0,none⟩)] (fun x=>decide (x ∉ setT b)) Tryz.entersWo P ao c a W (h1.below hW) (by omega) (fun x _ W' hW'=>without1_any _ B ab cs (setT b) x W' ((hW'.block B (Array.getElem?_eq_some_iff.1 hB).1).trans hB) (hs.below hW') (setT_rising b) (by have:=setT_len b;omega)))
 clear h1 h2 ha hb
 generalize a.filter _=R at HK ⊢
 generalize setT b=S at *
 go_enter Tryz.func175,Tryz.ntmps175
 go_upto_region 1 with fail
 change Code.wp _ _ _ _ ((w.alloc (.cells #[.slice ao a.length c] 131)).alloc (.cells #[.slice none 0 0] 131))
 generalize (w.alloc _).alloc _=w1 at hal hN hR ⊢
 have hlR:=(Array.getElem?_eq_some_iff.1 hR).1
 have hz1:=hal.size
 have HOF1:=Lib.hid (HOF.out w1 hal)
 clear HOF
 go_upto_region 2 with (go_at_call 174;refine HOF1.out.mono ?_;rintro e w3 ⟨ar,cr,rfl,htx,hb3⟩)
 have hz3:=hb3.size
 have hB4:=heap_alloc_new w3 (.cells #[.slice ar S.length cr] 131)
 have hb14:Below w1.heap.size w1 (w3.alloc (.cells #[.slice ar S.length cr] 131)):=hb3.alloc hz3 _
 have htx4:TxAt (fun k=>w.heap.size≤k) (w3.alloc (.cells #[.slice ar S.length cr] 131)) (.slice ar S.length cr) S:=(htx.below (below_new w3 _)).imp fun k hk _=>by omega
 generalize w3.alloc _=w4 at *
 have hz4:=hb14.size
 have hbw4:=hal.trans (hb14.mono hz1)
 have HK1:=Lib.hid (HK.out w4 hbw4 _ _ _ hB4 htx4)
 have hN4:=(hb14.block w.heap.size (by omega)).trans hN
 have hR4:=(hb14.block _ hlR).trans hR
 have c0:=(setBox_cell hN4).1
 clear htx htx4 HK hb3 HOF1 hN hR hB4
 go_wp2_with (go_at_call 236;refine HK1.out.mono ?_;rintro e w5 ⟨ak,ck,rfl,htx5,hb5⟩;have hR5:=(hb5.block _ (by omega)).trans hR4;have hfz:=(setBox_cell hR5).2;have hc0:=(setBox_cell hR5).1)
 have hs0:=setRes (u:=.slice ak R.length ck) hR5
 have hbw:Below w.heap.size w (w5.setCell ⟨w.heap.size+1,0,none⟩ (.slice ak R.length ck)):=(hbw4.trans (hb5.mono hbw4.size)).setCell (by show w.heap.size≤w.heap.size+1;omega) _
 have htx6:TxAt (fun b=>w.heap.size≤b) (w5.setCell ⟨w.heap.size+1,0,none⟩ (.slice ak R.length ck)) (.slice ak R.length ck) R:=(htx5.frame (Alk.set _ fun k hk=>by show k≠w.heap.size+1;omega)).imp fun k hk _=>by omega
 exact bodyPost_ret (v:=.agg #[.slice ak R.length ck]) (by simp [results,Tryz.results175,go_sem,hs0]) rfl ⟨_,_,rfl,htx6,hbw⟩
end Go.Proofs.YtbodlpoomfefcaaGreatDoor

namespace Go.Proofs.YtbodlpoomfefcaaGreatDoor
def lessF (op:Nat)(nm:List UInt8)(i:Nat)(l:List (List UInt8)):List (List UInt8):=if op=22∧i=1 then l.filter fun x=>decide (x≠nm) else l
def outF (op:Nat)(nm:List UInt8):List (List UInt8)→Nat→List (List (List UInt8))→List (List UInt8)
 | acc,_,[]=>acc
 | acc,i,l :: ls=>outF op nm (setT (acc++lessF op nm i l)) (i+1) ls
def startF (op:Nat)(nm:List UInt8):List (List UInt8):=if op=3 then setT [nm] else []
mutual
def PE.freeL:PE→List (List UInt8)
 | .mk op nm _ _ _ _ kids _=>outF op nm (startF op nm) 0 (freesE kids)
def freesE:List PE→List (List (List UInt8))
 | []=>[]
 | e :: l=>e.freeL :: freesE l
end
theorem freesE_map:∀ l:List PE,freesE l=l.map PE.freeL
 | []=>rfl
 | e :: l=>by rw [freesE,freesE_map l];rfl
theorem PE.freeL_def (e:PE):e.freeL=outF e.op e.name (startF e.op e.name) 0 (e.kids.map PE.freeL):=by cases e;rw [PE.freeL,freesE_map];rfl
theorem mem_lessF {op:Nat}{nm:List UInt8}{i:Nat}{l:List (List UInt8)}{x:List UInt8}:x∈lessF op nm i l↔x∈l∧(op=22∧i=1→x≠nm):=by
 unfold lessF
 by_cases h:op=22∧i=1
 ·rw [if_pos h,List.mem_filter,decide_eq_true_eq]
  exact ⟨fun q=>⟨q.1,fun _=>q.2⟩,fun q=>⟨q.1,q.2 h⟩⟩
 ·rw [if_neg h]
  exact ⟨fun q=>⟨q,fun r=>absurd r h⟩,fun q=>q.1⟩
theorem mem_outF {op:Nat}{nm x:List UInt8}:∀ (ls:List (List (List UInt8))) (acc:List (List UInt8)) (i:Nat),x∈outF op nm acc i ls↔x∈acc∨∃ k,∃ hk:k<ls.length,x∈ls[k]∧(op=22∧i+k=1→x≠nm)
 | [],acc,i=>by
  rw [outF]
  exact ⟨.inl,fun h=>h.elim id (fun ⟨k,hk,_⟩=>absurd hk (by simp))⟩
 | l :: ls,acc,i=>by
  rw [outF,mem_outF ls,mem_setT,List.mem_append,mem_lessF]
  constructor
  ·rintro ((h|h)|⟨k,hk,h1,h2⟩)
   ·exact .inl h
   ·exact .inr ⟨0,by simp,h.1,h.2⟩
   ·exact .inr ⟨k+1,by simpa using hk,by simpa using h1,fun q=>h2 ⟨q.1,by omega⟩⟩
  ·rintro (h|⟨k,hk,h1,h2⟩)
   ·exact .inl (.inl h)
   ·cases k with
    | zero=>exact .inl (.inr ⟨h1,h2⟩)
    | succ k=>exact .inr ⟨k,by simpa using hk,by simpa using h1,fun q=>h2 ⟨q.1,by omega⟩⟩
theorem outF_rising {op:Nat}{nm:List UInt8}:∀ (ls:List (List (List UInt8))) (acc:List (List UInt8)) (i:Nat),acc.Pairwise (· < ·)→(outF op nm acc i ls).Pairwise (· < ·)
 | [],acc,i,h=>by rw [outF];exact h
 | l :: ls,acc,i,h=>by rw [outF];exact outF_rising ls _ _ (setT_rising _)
theorem startF_rising (op:Nat)(nm:List UInt8):(startF op nm).Pairwise (· < ·):=by
 unfold startF
 split
 ·exact setT_rising _
 ·exact List.Pairwise.nil
theorem PE.freeL_rising (e:PE):e.freeL.Pairwise (· < ·):=by rw [e.freeL_def];exact outF_rising _ _ _ (startF_rising _ _)
theorem PE.mem_freeL {e:PE}{x:List UInt8}:x∈e.freeL↔(e.op=3∧x=e.name)∨∃ k,∃ hk:k<e.kids.length,x∈e.kids[k].freeL∧(e.op=22∧k=1→x≠e.name):=by
 rw [e.freeL_def,mem_outF]
 constructor
 ·rintro (h|⟨k,hk,h1,h2⟩)
  ·unfold startF at h
   split at h
   ·rename_i q;rw [mem_setT,List.mem_singleton] at h;exact .inl ⟨q,h⟩
   ·cases h
  ·rw [List.length_map] at hk
   rw [List.getElem_map] at h1
   exact .inr ⟨k,hk,h1,fun q=>h2 ⟨q.1,by omega⟩⟩
 ·rintro (h|⟨k,hk,h1,h2⟩)
  ·refine .inl ?_
   unfold startF
   rw [if_pos h.1,mem_setT,h.2];simp
  ·exact .inr ⟨k,by rw [List.length_map];exact hk,by rw [List.getElem_map];exact h1,fun q=>h2 ⟨q.1,by omega⟩⟩
def sumL:List (List (List UInt8))→Nat
 | []=>0
 | l :: ls=>l.length+sumL ls
theorem outF_len {op:Nat}{nm:List UInt8}:∀ (ls:List (List (List UInt8))) (acc:List (List UInt8)) (i:Nat),(outF op nm acc i ls).length≤acc.length+sumL ls
 | [],acc,i=>by rw [outF,sumL];omega
 | l :: ls,acc,i=>by
  have h1:=outF_len (op:=op) (nm:=nm) ls (setT (acc++lessF op nm i l)) (i+1)
  have h2:=setT_len (acc++lessF op nm i l)
  have h3:(lessF op nm i l).length≤l.length:=by
   unfold lessF
   split
   ·exact List.length_filter_le _ _
   ·exact Nat.le_refl _
  rw [List.length_append] at h2
  rw [outF,sumL]
  omega
mutual
def PE.letOk:PE→Prop
 | .mk op _ _ _ _ _ kids _=>(op=22→kids.length≤2)∧letOkE kids
def letOkE:List PE→Prop
 | []=>True
 | e :: l=>e.letOk∧letOkE l
end
mutual
theorem CE.letOk (toks:List Tok):∀ (e:CE) (u:Nat),(e.pe toks u).letOk
 | .num,u=>by rw [CE.pe,PE.letOk,letOkE];exact ⟨fun q=>by omega,trivial⟩
 | .truth,u=>by rw [CE.pe,PE.letOk,letOkE];exact ⟨fun q=>by omega,trivial⟩
 | .res,u=>by rw [CE.pe,PE.letOk,letOkE];exact ⟨fun q=>by omega,trivial⟩
 | .nam,u=>by rw [CE.pe,PE.letOk,letOkE];exact ⟨fun q=>by omega,trivial⟩
 | .group e,u=>by rw [CE.pe];exact CE.letOk toks e _
 | .un e,u=>by rw [CE.pe,PE.letOk,letOkE,letOkE];exact ⟨fun q=>by simp,CE.letOk toks e _,trivial⟩
 | .bin a b,u=>by rw [CE.pe,PE.letOk,letOkE,letOkE,letOkE];exact ⟨fun q=>by simp,CE.letOk toks a _,CE.letOk toks b _,trivial⟩
 | .iff a b c,u=>by rw [CE.pe,PE.letOk,letOkE,letOkE,letOkE,letOkE];exact ⟨fun q=>by omega,CE.letOk toks a _,CE.letOk toks b _,CE.letOk toks c _,trivial⟩
 | .lett a b,u=>by rw [CE.pe,PE.letOk,letOkE,letOkE,letOkE];exact ⟨fun q=>by simp,CE.letOk toks a _,CE.letOk toks b _,trivial⟩
 | .asrt a b,u=>by rw [CE.pe,PE.letOk,letOkE,letOkE,letOkE];exact ⟨fun q=>by omega,CE.letOk toks a _,CE.letOk toks b _,trivial⟩
 | .call q l,u=>by
  rw [CE.pe]
  split
  ·rw [PE.letOk];exact ⟨fun q=>by omega,argsLet toks l _⟩
  ·rw [PE.letOk];exact ⟨fun q=>by omega,argsLet toks l _⟩
theorem argsLet (toks:List Tok):∀ (l:List CE) (u:Nat),letOkE (argsPE toks u l)
 | [],u=>by rw [argsPE,letOkE];trivial
 | e :: l,u=>by rw [argsPE,letOkE];exact ⟨CE.letOk toks e _,argsLet toks l _⟩
end
theorem letOkE_mem:∀ {l:List PE} {e:PE},letOkE l→e∈l→e.letOk
 | x :: l,e,h,hm=>by
  rw [letOkE] at h
  rcases List.mem_cons.1 hm with rfl|hm
  ·exact h.1
  ·exact letOkE_mem h.2 hm
theorem PE.letOk_def {e:PE}(h:e.letOk):(e.op=22→e.kids.length≤2)∧∀ x∈e.kids,x.letOk:=by
 cases e
 rw [PE.letOk] at h
 exact ⟨h.1,fun x hx=>letOkE_mem h.2 hx⟩
end Go.Proofs.YtbodlpoomfefcaaGreatDoor

namespace Go.Proofs.YtbodlpoomfefcaaGreatDoor
open Go.RowKit Go
mutual
def PE.size:PE→Nat
 | .mk _ _ _ _ _ _ kids _=>1+sizeE kids
def sizeE:List PE→Nat
 | []=>0
 | e :: l=>e.size+sizeE l
end
theorem sizeE_append:∀ (a b:List PE),sizeE (a++b)=sizeE a+sizeE b
 | [],b=>by simp [sizeE]
 | e :: a,b=>by rw [List.cons_append,sizeE,sizeE,sizeE_append a b,Nat.add_assoc]
mutual
theorem PE.ats_len:∀ e:PE,e.ats.length=e.size
 | .mk _ _ _ _ _ _ kids _=>by rw [PE.ats,PE.size,List.length_cons,atsE_len kids,Nat.add_comm]
theorem atsE_len:∀ l:List PE,(atsE l).length=sizeE l
 | []=>rfl
 | e :: l=>by rw [atsE,sizeE,List.length_append,PE.ats_len e,atsE_len l]
end
theorem sizeE_mem:∀ (l:List PE) (e:PE),e∈l→e.size≤sizeE l
 | x :: l,e,h=>by
  rw [sizeE]
  rcases List.mem_cons.1 h with rfl|h
  ·omega
  ·have:=sizeE_mem l e h
   omega
theorem PE.size_def (e:PE):e.size=1+sizeE e.kids:=by cases e;rfl
theorem sizeE_few:∀ l:List PE,l.length≤sizeE l
 | []=>Nat.zero_le _
 | e :: l=>by
  have:=sizeE_few l
  rw [sizeE,e.size_def,List.length_cons]
  omega
theorem kids_sizeOf (e:PE):∀ x∈e.kids,SizeOf.sizeOf x<SizeOf.sizeOf e:=by
 intro x hx
 cases e with
 | mk op name module num txt yes kids at_ =>
  have:=List.sizeOf_lt_of_mem hx
  simp only [PE.mk.sizeOf_spec,PE.kids] at this ⊢
  omega
theorem EAt.slX {P:Nat→Prop}{w:World}{m k:Value}{x:PE}(h:EAt XA P w m k x):∃ am wn cm ae ce,m=.slice am wn cm∧k=.slice ae x.kids.length ce:=by
 obtain ⟨hnum,ae,ce,rfl,_,_⟩:=h.form
 obtain ⟨ws,hws,_⟩:=(hnum:NumAt _ _ _ _)
 obtain ⟨am,cm,rfl⟩:=hws.form
 exact ⟨am,_,cm,ae,ce,rfl,rfl⟩
end Go.Proofs.YtbodlpoomfefcaaGreatDoor

namespace Go.Proofs.YtbodlpoomfefcaaGreatDoor
open Go.RowKit
theorem Rep.leafAt {nodes:List Nd}{n:Int}{u:Nat}(h:Rep nodes n u .leaf):∃ i:Nat,n=i∧nodes[i]?=some ⟨19,(u:Nat),[]⟩:=by
 rw [Rep] at h
 exact ⟨n.toNat,by omega,h.2⟩
theorem TreeAt.tok {B:Nat}{w:World}{tv nv:Value}{toks:List Tok}{nodes:List Nd}(h:TreeAt B w (.agg #[tv,nv]) toks nodes){u:Nat}(hu:u<toks.length) :
  ∃ b off cap,tv=.slice (some ⟨b,off,none⟩) toks.length cap∧b<B∧w.cell? ⟨b,off+u * 4,none⟩=some (.int .i64 toks[u].kind)∧w.cell? ⟨b,off+u * 4+1,none⟩=some (strV toks[u].lead)∧w.cell? ⟨b,off+u * 4+2,none⟩=some (strV toks[u].text)∧w.cell? ⟨b,off+u * 4+3,none⟩=some (.int .i64 toks[u].place):=by
 obtain ⟨tv',nv',l,h1,h2,h3,h4,h5⟩:=h
 obtain ⟨rfl,rfl⟩:tv=tv'∧nv=nv':=by simpa using h1
 obtain ⟨ao,cap,rfl,_,hf⟩:=h2.form (fun _=>rfl)
 obtain ⟨b,off,rfl,hb,hc⟩:=hf (by omega)
 exact ⟨b,off,cap,rfl,hb,hc u 0 _ hu rfl,hc u 1 _ hu rfl,hc u 2 _ hu rfl,hc u 3 _ hu rfl⟩
def tokVal (t:Tok):Value:=.agg #[.int .i64 t.kind,strV t.lead,strV t.text,.int .i64 t.place]
theorem rtoken_any (B:Nat)(tv nv:Value)(toks:List Tok)(nodes:List Nd)(i u:Nat)(w:World)(h:TreeAt B w (.agg #[tv,nv]) toks nodes)(_hB:B≤w.heap.size)(hn:nodes[i]?=some ⟨19,(u:Nat),[]⟩)(hu:u<toks.length) :
  Calls Tryz.prog 40 #[.agg #[tv,nv],.int .i64 i] w fun e w'=>e=.returned (tokVal toks[u])∧Below w.heap.size w w':=by
 obtain ⟨hi,hni⟩:=List.getElem?_eq_some_iff.1 hn
 obtain ⟨b,off,cap,kv,rfl,hb,_,x1,_,_⟩:=h.node hi
 obtain ⟨b2,off2,cap2,rfl,hb2,t0,t1,t2,t3⟩:=h.tok hu
 rw [hni] at x1
 simp only at x1
 generalize toks[u]=t at t0 t1 t2 t3
 obtain ⟨c,x,y,q⟩:=t
 simp only [strV] at t0 t1 t2 t3
 have hal:=((Below.refl w.heap.size w).alloc (Nat.le_refl _) (.cells #[.slice (some ⟨b2,off2,none⟩) toks.length cap2,.slice (some ⟨b,off,none⟩) nodes.length cap] 86)).alloc (by simp) (.cells #[.int .i64 0,.string ⟨#[]⟩,.string ⟨#[]⟩,.int .i64 0] 80)
 have x1':=cell_later hal x1
 have y0:=cell_later hal t0
 have y1:=cell_later hal t1
 have y2:=cell_later hal t2
 have y3:=cell_later hal t3
 have i1:(i:Int)<(nodes.length:Int):=by omega
 have i2:(u:Int)<(toks.length:Int):=by omega
 have hnr:((w.alloc (.cells #[.slice (some ⟨b2,off2,none⟩) toks.length cap2,.slice (some ⟨b,off,none⟩) nodes.length cap] 86)).alloc (.cells #[.int .i64 0,.string ⟨#[]⟩,.string ⟨#[]⟩,.int .i64 0] 80)).heap[w.heap.size]?=some (.cells #[.slice (some ⟨b2,off2,none⟩) toks.length cap2,.slice (some ⟨b,off,none⟩) nodes.length cap] 86 (0,0)):=(Lib.alloc_old _ _ _ (by simp)).trans (heap_alloc_new w _)
 have hnw:=heap_alloc_new (w.alloc (.cells #[.slice (some ⟨b2,off2,none⟩) toks.length cap2,.slice (some ⟨b,off,none⟩) nodes.length cap] 86)) (.cells #[.int .i64 0,.string ⟨#[]⟩,.string ⟨#[]⟩,.int .i64 0] 80)
 rw [World.size_alloc] at hnw
 clear t0 t1 t2 t3 x1 hn hni h
 go_enter Tryz.func40,Tryz.ntmps40
 go_wp2
 generalize (w.alloc _).alloc _=w1 at hnr hnw hal x1' y0 y1 y2 y3 ⊢
 have r0:w1.cell? ⟨w.heap.size,0,none⟩=some (.slice (some ⟨b2,off2,none⟩) toks.length cap2):=by rw [Lib.cell_of_heap hnr];rfl
 have r1:w1.cell? ⟨w.heap.size,1,none⟩=some (.slice (some ⟨b,off,none⟩) nodes.length cap):=by rw [Lib.cell_of_heap hnr];rfl
 go_still_tail 12,(by kernel_rfl)
 change wpList _ _ _ _ _ w1.drew
 have hald:=hal.drew
 have hnw2:w1.drew.heap[w.heap.size+1]?=some (.cells #[.int .i64 0,.string ⟨#[]⟩,.string ⟨#[]⟩,.int .i64 0] 80 (0,0)):=hnw
 generalize w1.drew=w2 at hald hnw2 ⊢
 have f0:w2.cell? ⟨w.heap.size+1,0,none⟩=some (.int .i64 0):=by rw [Lib.cell_of_heap hnw2];rfl
 have f1:w2.cell? ⟨w.heap.size+1,1,none⟩=some (.string ⟨#[]⟩):=by rw [Lib.cell_of_heap hnw2];rfl
 have f2:w2.cell? ⟨w.heap.size+1,2,none⟩=some (.string ⟨#[]⟩):=by rw [Lib.cell_of_heap hnw2];rfl
 have f3:w2.cell? ⟨w.heap.size+1,3,none⟩=some (.int .i64 0):=by rw [Lib.cell_of_heap hnw2];rfl
 have z0:∀ j,w2.frozen? ⟨w.heap.size+1,j,none⟩=false:=by intro j;simp [World.frozen?,hnw2]
 clear hnw hnw2 i1 i2 y0 y1 y2 y3 r0 r1 x1'
 go_wp2
 refine bodyPost_ret (v:=.agg #[.int .i64 c,.string ⟨x.toArray⟩,.string ⟨y.toArray⟩,.int .i64 q]) (by simp [results,Tryz.results40,go_sem,f0,f1,f2,f3]) rfl ⟨rfl,?_⟩
 exact (((hald.setCell (by simp) _).setCell (by simp) _).setCell (by simp) _).setCell (by simp) _
theorem Tryz.tokField2 (a b c d:Value)(w:World):(Instr.field 80 (.agg #[a,b,c,d]) 2).run Tryz.prog w=.ok c w:=by kernel_rfl
theorem rtext_any (B:Nat)(tv nv:Value)(toks:List Tok)(nodes:List Nd)(i u:Nat)(w:World)(h:TreeAt B w (.agg #[tv,nv]) toks nodes)(hB:B≤w.heap.size)(hn:nodes[i]?=some ⟨19,(u:Nat),[]⟩)(hu:u<toks.length) :
  Calls Tryz.prog 74 #[.agg #[tv,nv],.int .i64 i] w fun e w'=>e=.returned (strV toks[u].text)∧Below w.heap.size w w':=by
 have hb1:=(Below.refl w.heap.size w).alloc (Nat.le_refl _) (.cells #[tv,nv] 86)
 have HT:=Lib.hid (rtoken_any B tv nv toks nodes i u _ (h.below (hb1.mono hB)) (by have:=hb1.size;omega) hn hu)
 obtain ⟨a1,c1,a2,c2,e⟩:=h.slices
 obtain ⟨rfl,rfl⟩:tv=_∧nv=_:=by simpa using e
 generalize toks[u]=t at HT ⊢
 have hf:=fun w=>Tryz.tokField2 (.int .i64 t.kind) (strV t.lead) (strV t.text) (.int .i64 t.place) w
 unfold tokVal at HT
 clear h hn e
 go_enter Tryz.func74,Tryz.ntmps74
 go_wp2_with (go_at_call 40;refine HT.out.mono ?_;rintro e w1 ⟨rfl,hb2⟩)
 go_ret
 exact ⟨rfl,hb1.trans (hb2.mono hb1.size)⟩
end Go.Proofs.YtbodlpoomfefcaaGreatDoor
