/- Walks and plain laws: ReadW2, ParseW7, ParseW8, ParseW9. -/
import Derived.Test.YtbodlpoomfefcaaGreatDoorA09
set_option maxHeartbeats 16000000
set_option maxRecDepth 100000
set_option linter.unusedVariables false
set_option linter.unusedSimpArgs false
namespace Go.Proofs.YtbodlpoomfefcaaGreatDoor
open Go.RowKit
theorem Tryz.infoInt:(Tryz.prog.info? 3).map (fun i=>(i.zero,i.size,i.bytes))=some (some (.int .i64 0),1,8):=by kernel_rfl
theorem partsF_snoc (nodes:List Nd)(ks:List Int)(k:Int):partsF nodes (ks++[k])=partsF nodes ks++if (nodes[k.toNat]?.map (·.kind)).getD 19 != 19 then [k] else []:=by
 unfold partsF
 rw [List.filter_append]
 congr 1
 rw [List.filter_cons,List.filter_nil]
def IPost (ks:List Int)(w:World)(e:Ending)(w':World):Prop:=∃ v,e=.returned v∧SlP (fun b=>w.heap.size≤b) w' v 1 ks.length (ks.map (Value.int .i64))∧Below w.heap.size w w'
theorem SlP.ints {P:Nat→Prop}{w:World}{v:Value}{ks:List Int}(h:SlP P w v 1 ks.length (ks.map (Value.int .i64))):∃ ao cap,v=.slice ao ks.length cap∧ks.length≤cap ∧
  (0<ks.length→∃ b off,ao=some ⟨b,off,none⟩∧P b∧b<w.heap.size∧∀ j,(hj:j<ks.length)→w.cell? ⟨b,off+j,none⟩=some (.int .i64 ks[j])):=by
 obtain ⟨ao,cap,hv,hn,hl,hc⟩:=h
 refine ⟨ao,cap,hv,hn,fun h0=>?_⟩
 obtain ⟨b,off,ha,hP,hlt,hcell⟩:=hc h0
 exact ⟨b,off,ha,hP,hlt,fun j hj=>by rw [hcell j (by simpa using hj)];simp⟩
theorem rparts_any (B:Nat)(tv nv:Value)(toks:List Tok)(nodes:List Nd)(i:Nat)(w:World)(h:TreeAt B w (.agg #[tv,nv]) toks nodes)(hB:B≤w.heap.size)(hi:i<nodes.length)
  (hk:∀ k∈nodes[i].kids,0≤k∧k<(nodes.length:Int)) (hl:nodes[i].kids.length≤1099511627776) :
  Calls Tryz.prog 128 #[.agg #[tv,nv],.int .i64 i] w (IPost (partsF nodes nodes[i].kids) w):=by
 obtain ⟨i0,hinf,hz0,hz1,hz2⟩:=info_parts Tryz.infoInt
 have HT:=Lib.hid h
 obtain ⟨a1,c1,_,_,e⟩:=h.slices
 obtain ⟨b,off,cap,kv,rfl,hb,_,_,x2,hkv⟩:=h.node hi
 obtain ⟨rfl,-⟩:tv=.slice a1 toks.length c1∧_:=by simpa using e
 generalize nodes[i].kids=ks at hk hl hkv ⊢
 obtain ⟨ak,ck,rfl,_,hf⟩:=hkv.form
 have HF:=Lib.hid hf
 have HK:=Lib.hid hk
 have hal:=(Below.refl w.heap.size w).alloc (Nat.le_refl _) (.cells #[.slice a1 toks.length c1,.slice (some ⟨b,off,none⟩) nodes.length cap] 86)
 have x2':=cell_later hal x2
 have hnr:=heap_alloc_new w (.cells #[.slice a1 toks.length c1,.slice (some ⟨b,off,none⟩) nodes.length cap] 86)
 have r0:(w.alloc (.cells #[.slice a1 toks.length c1,.slice (some ⟨b,off,none⟩) nodes.length cap] 86)).cell? ⟨w.heap.size,1,none⟩=some (.slice (some ⟨b,off,none⟩) nodes.length cap):=by rw [Lib.cell_of_heap hnr];rfl
 have i1:(i:Int)<(nodes.length:Int):=by omega
 clear hf hk h e hkv x2
 go_enter Tryz.func128,Tryz.ntmps128
 go_wp2
 generalize w.alloc _=w1 at hnr hal r0 x2' ⊢
 have hsz1:=hal.size
 go_loopw [5,16] (fun v k wr=>∃ j:Nat,j≤ks.length∧k=.int .i64 j∧wr.ownsRow w.heap.size 3 1 v (partsF nodes (ks.take j)).length ((partsF nodes (ks.take j)).map (Value.int .i64))∧wr.heap[w.heap.size]?=some (.cells #[.slice a1 toks.length c1,.slice (some ⟨b,off,none⟩) nodes.length cap] 86 (0,0))∧Below w.heap.size w wr) (fun _ k _=>ks.length - (intOf k).toNat)
 case atStart=>exact ⟨0,Nat.zero_le _,rfl,World.ownsRow_nil _ _ _ _,hnr,hal⟩
 case round =>
  obtain ⟨j,hj,rfl,hown,hrr,hbl⟩:=hrel
  have hz:=hbl.size
  have hlt:=(Array.getElem?_eq_some_iff.1 hrr).1
  by_cases hjl:j<ks.length
  ·obtain ⟨bk,ok,rfl,hbk,hcell⟩:=HF.out (by omega)
   have hx:=(hbl.cell (p:=⟨bk,ok+j,none⟩) (by show bk<_;omega)).trans (hcell j hjl)
   have hkj:=HK.out ks[j] (List.getElem_mem hjl)
   have hsn:=partsF_snoc nodes (ks.take j) ks[j]
   rw [← List.take_succ_eq_append_getElem hjl] at hsn
   have hjI:(j:Int)<(ks.length:Int):=by omega
   generalize ks[j]=q at hx hkj hsn
   obtain ⟨m,rfl⟩:∃ m:Nat,q=(m:Int):=⟨q.toNat,by omega⟩
   have hm:m<nodes.length:=by omega
   obtain ⟨b',off',cap',kv',e',_,y0,_,_,_⟩:=HT.out.node hm
   simp only [Value.slice.injEq,Option.some.injEq,Addr.mk.injEq,and_true] at e'
   obtain ⟨⟨rfl,rfl⟩,rfl⟩:(b=b'∧off=off')∧cap=cap':=by simpa using e'
   have y0':=(hbl.cell (p:=⟨b,off+m * 3,none⟩) (by show b<_;omega)).trans y0
   have hmI:(m:Int)<(nodes.length:Int):=by omega
   have r1:wr.cell? ⟨w.heap.size,1,none⟩=some (.slice (some ⟨b,off,none⟩) nodes.length cap):=by rw [Lib.cell_of_heap hrr];rfl
   have hlen:(partsF nodes (ks.take j)).length≤j:=by
    have:=List.length_filter_le (fun k:Int=>(nodes[k.toNat]?.map (·.kind)).getD 19 != 19) (ks.take j)
    rw [List.length_take] at this
    show (List.filter _ _).length≤j
    omega
   simp only [Int.toNat_natCast,List.getElem?_eq_getElem hm,Option.map_some,Option.getD_some] at hsn
   generalize nodes[m].kind=kd at y0' hsn
   clear y0 hcell e'
   by_cases hd:kd=19
   ·subst hd
    simp only [bne_self_eq_false,Bool.false_eq_true,if_false,List.append_nil] at hsn
    have HS:=Lib.hid hsn
    clear hsn
    go_wp2
    go_roundw
    case rel=>exact ⟨j+1,by omega,by go_num,by rw [HS.out];exact hown,hrr,hbl⟩
    case measure=>simp [intOf];omega
   ·have hd1:(kd != 19)=true:=by simp [hd]
    have hd2:(kd == 19)=false:=by simp [hd]
    rw [hd1] at hsn
    simp only [if_true] at hsn
    have HS:=Lib.hid hsn
    clear hsn
    generalize partsF nodes (ks.take j)=acc at hown hlen HS
    go_wp2_with (at_builtin;refine wpList_append_own _ rfl _ _ 81 rfl w.heap.size 3 i0 (.int .i64 0) 1 8 Tryz.underlying81 hinf hz0 hz1 hz2 rfl (by decide) _ _ _ rfl (hown.alloc _) ⟨wr.heap.size,0,none⟩ 1 1 [.int .i64 m] rfl rfl ?c1 ?c2 ?c3 ?c4 ?c5 ?_)
    case c1 =>
     intro j' u hj'
     have:=World.news_of_block (cs:=#[.int .i64 (m:Int)]) (t:=3) (fr:=(0,0)) (heap_alloc_new wr _) j' u (by simpa using hj')
     exact this
    case c2=>simp [Value.oneCell']
    case c3=>unfold maxLen;omega
    case c4=>omega
    case c5=>simp;omega
    intro v' w2 hown2 hgrow2 _
    have hb2:Below w.heap.size w w2:=(hbl.alloc hz _).grown hgrow2 (by simp;omega) (fun q hq=>by have:=(hown.lt q hq).1;omega)
    have hrr2:=own_block (hown.alloc _) hgrow2 ((Lib.alloc_old wr (.cells #[.int .i64 m] 3) _ hlt).trans hrr) (by decide)
    have H2:=Lib.hid hown2
    clear hgrow2 hown2 hown
    go_wp2
    go_roundw
    case rel=>exact ⟨j+1,by omega,by go_num,by rw [HS.out,List.length_append,List.map_append];exact H2.out,hrr2,hb2⟩
    case measure=>simp [intOf];omega
  ·have:j=ks.length:=by omega
   subst this
   rw [List.take_length] at hown
   have hjI:decide ((ks.length:Int)<(ks.length:Int))=false:=decide_eq_false (by omega)
   go_wp2
   go_ret
   exact ⟨_,rfl,SlP.ofOwns hown (fun b hb=>hb),hbl⟩
theorem expr_step (E:PEnv)(hE:E.ok)(g:Nat)(ih:AllT E g)(nest:Nat)(st:PSt)(r:Int × PSt)(w:World)(h:run E.toks E.depth (g+1) (.expr nest) st=some r)(hw:PW E st w)(hn:r.2.nodes.length+1≤1099511627776)(_hnest:nest≤E.depth+1) :
  Calls Tryz.prog 125 #[.pointer (some ⟨E.pb,0,none⟩),.int .i64 nest] w (PPost E r w):=by
 have hdep:=hE.2.2
 have HD:=Lib.hid (deep_any E hE nest st w hw)
 have hnd:(deepM E.toks E.depth nest st).fE=0→nest≤E.depth:=fun q=>by
  unfold deepM at q
  split at q
  ·exact (failM_fE (by decide) _ q).elim
  ·omega
 rw [run] at h
 generalize deepM E.toks E.depth nest st=s at HD h hnd
 by_cases hf:s.fE=0
 ·rw [if_neg (by simp [hf])] at h
  have hnest2:=hnd hf
  have hok:okB s=true:=decide_eq_true hf
  have HD':Hid (Calls Tryz.prog 194 #[.pointer (some ⟨E.pb,0,none⟩),.int .i64 nest] w (NPost E s false w)):=Lib.hid (HD.out.mono fun e w' ⟨he,hp⟩=>⟨by rw [he,hok];rfl,hp⟩)
  clear HD hnd hok
  by_cases hcl:s.clause=true
  ·rw [if_pos hcl] at h
   have HI:=Lib.hid (fun w' hp=>ih _ _ _ w' h hp hn hnest2)
   clear h
   go_enter Tryz.func125,Tryz.ntmps125
   go_wp2_with (go_at_call 194;refine HD'.out.mono ?_)
   rintro e w1 ⟨rfl,hp1,hk1⟩
   obtain ⟨_,_,c2,_,_,_⟩:=hp1.cells
   rw [hcl] at c2
   clear hcl
   go_wp2_with (go_at_call 195;refine (HI.out _ hp1).mono ?_)
   rintro e w2 ⟨rfl,hp2,hk2⟩
   go_wp2
   go_ret
   exact ⟨rfl,hp2,hk1.trans hk2⟩
  ·rw [if_neg hcl] at h
   have hcl':s.clause=false:=by simpa using hcl
   clear hcl
   have hHI:∀ (t:Task) (st:PSt) (r:Int × PSt),run E.toks E.depth g t st=some r→r.2.nodes.length+1≤1099511627776→nestOk E t→∀ w,PW E st w→taskCalls E r w t:=fun t st r h1 h2 h3 w h4=>ih t st r w h1 h4 h2 h3
   have ex:=run_ext E.toks E.depth g
   have fin:∀ a b:PSt,PExt a b→b.nodes.length+1≤1099511627776→a.nodes.length+1≤1099511627776:=fun a b h1 h2=>by have:=h1.2.2.2;omega
   have N1:=Lib.hid (fun w hp=>next_one E hE ⟨#[108,101,116]⟩ s w hp)
   have N2:=Lib.hid (fun w hp=>next_one E hE ⟨#[105,102]⟩ s w hp)
   have N3:=Lib.hid (fun w hp=>next_one E hE ⟨#[97,115,115,101,114,116]⟩ s w hp)
   by_cases hl:nextF E.toks s [tLet]=true
   ·rw [if_pos hl] at h
    have e1:nextF E.toks s [(⟨#[108,101,116]⟩:ByteArray).data.toList]=true:=hl
    obtain ⟨d,h1,h⟩:=Option.bind_eq_some_iff.1 h
    obtain ⟨f,h2,h⟩:=Option.bind_eq_some_iff.1 h
    injection h with h;subst h
    have n6:=fin _ _ (nodeM_ext _ _ _) hn
    have n5:=fin _ _ (ex _ _ _ h2) n6
    have n4:=fin _ _ (mustM_ext _ _ _) n5
    have n3:=fin _ _ (ex _ _ _ h1) n4
    have n2:=fin _ _ (mustM_ext _ _ _) n3
    have n1:=fin _ _ (kindM_ext _ _ _) n2
    have n0:=fin _ _ (leafM_ext _ _) n1
    have C1:=Lib.hid (fun w hp=>pleaf_any E s w hp hE.1 hE.2.1 n0)
    have C2:=Lib.hid (fun w hp=>kind_any E hE 1 (leafM E.toks s).2 w hp n1)
    have C3:=Lib.hid (fun w hp=>must_one E hE ⟨#[61]⟩ (kindM E.toks 1 (leafM E.toks s).2).2 w hp n2)
    have C4:=Lib.hid (hHI _ _ _ h1 n4 (by show nest+1≤_;omega))
    have C5:=Lib.hid (fun w hp=>must_one E hE ⟨#[105,110]⟩ d.2 w hp n4)
    have C6:=Lib.hid (hHI _ _ _ h2 n6 (by show nest+1≤_;omega))
    have C7:=Lib.hid (fun w hp=>node_lit E 7 [(leafM E.toks s).1,(kindM E.toks 1 (leafM E.toks s).2).1,(mustM E.toks [[61]] (kindM E.toks 1 (leafM E.toks s).2).2).1,d.1,(mustM E.toks [tIn] d.2).1,f.1] 6 _ f.2 w hp rfl rfl (by omega) n6)
    have E1:=Lib.hid e1
    clear h1 h2 hl e1 n0 n1 n2 n3 n4 n5 n6 hHI ex fin ih hn
    go_enter Tryz.func125,Tryz.ntmps125
    go_wp2_with (go_at_call 194;refine HD'.out.mono ?_)
    rintro e w1 ⟨rfl,hp1,hk1⟩
    obtain ⟨_,_,c2,_,_,_⟩:=hp1.cells
    rw [hcl'] at c2
    go_wp2_with (go_at_call 138;refine (N1.out w1 hp1).mono ?_)
    rintro e w2 ⟨rfl,hp2,hk2⟩
    rw [E1.out]
    obtain ⟨d0,_,_,_,_,_⟩:=hp2.cells
    clear c2
    go_wp2_with (go_at_call 140;refine (C1.out w2 hp2).mono ?_)
    rintro e w3 ⟨rfl,hp3,hk3⟩
    go_wp2_with (go_at_call 89;refine (C2.out w3 hp3).mono ?_)
    rintro e w4 ⟨rfl,hp4,hk4⟩
    go_wp2_with (go_at_call 141;refine (C3.out w4 hp4).mono ?_)
    rintro e w5 ⟨rfl,hp5,hk5⟩
    go_wp2_with (go_at_call 125;refine (C4.out w5 hp5).mono ?_)
    rintro e w6 ⟨rfl,hp6,hk6⟩
    go_wp2_with (go_at_call 141;refine (C5.out w6 hp6).mono ?_)
    rintro e w7 ⟨rfl,hp7,hk7⟩
    go_wp2_with (go_at_call 125;refine (C6.out w7 hp7).mono ?_)
    rintro e w8 ⟨rfl,hp8,hk8⟩
    go_wp2_with (go_at_call 88;refine (C7.out w8 hp8).mono ?_)
    rintro e w9 ⟨rfl,hp9,hk9⟩
    go_wp2
    go_ret
    exact ⟨rfl,hp9,((((((hk1.trans hk2).trans hk3).trans hk4).trans hk5).trans hk6).trans hk7).trans (hk8.trans hk9)⟩
   ·rw [if_neg hl] at h
    have e1:nextF E.toks s [(⟨#[108,101,116]⟩:ByteArray).data.toList]=false:=eq_false_of_ne_true hl
    clear hl
    by_cases hi:nextF E.toks s [tIf]=true
    ·rw [if_pos hi] at h
     have e2:nextF E.toks s [(⟨#[105,102]⟩:ByteArray).data.toList]=true:=hi
     obtain ⟨b,h0,h⟩:=Option.bind_eq_some_iff.1 h
     obtain ⟨d,h1,h⟩:=Option.bind_eq_some_iff.1 h
     obtain ⟨f,h2,h⟩:=Option.bind_eq_some_iff.1 h
     injection h with h;subst h
     have n6:=fin _ _ (nodeM_ext _ _ _) hn
     have n5:=fin _ _ (ex _ _ _ h2) n6
     have n4:=fin _ _ (mustM_ext _ _ _) n5
     have n3:=fin _ _ (ex _ _ _ h1) n4
     have n2:=fin _ _ (mustM_ext _ _ _) n3
     have n1:=fin _ _ (ex _ _ _ h0) n2
     have n0:=fin _ _ (leafM_ext _ _) n1
     have C1:=Lib.hid (fun w hp=>pleaf_any E s w hp hE.1 hE.2.1 n0)
     have C2:=Lib.hid (hHI _ _ _ h0 n2 (by show nest+1≤_;omega))
     have C3:=Lib.hid (fun w hp=>must_one E hE ⟨#[116,104,101,110]⟩ b.2 w hp n2)
     have C4:=Lib.hid (hHI _ _ _ h1 n4 (by show nest+1≤_;omega))
     have C5:=Lib.hid (fun w hp=>must_one E hE ⟨#[101,108,115,101]⟩ d.2 w hp n4)
     have C6:=Lib.hid (hHI _ _ _ h2 n6 (by show nest+1≤_;omega))
     have C7:=Lib.hid (fun w hp=>node_lit E 8 [(leafM E.toks s).1,b.1,(mustM E.toks [tThen] b.2).1,d.1,(mustM E.toks [tElse] d.2).1,f.1] 6 _ f.2 w hp rfl rfl (by omega) n6)
     have E1:=Lib.hid e1
     have E2:=Lib.hid e2
     clear h0 h1 h2 hi e1 e2 n0 n1 n2 n3 n4 n5 n6 hHI ex fin ih hn
     go_enter Tryz.func125,Tryz.ntmps125
     go_wp2_with (go_at_call 194;refine HD'.out.mono ?_)
     rintro e w1 ⟨rfl,hp1,hk1⟩
     obtain ⟨_,_,c2,_,_,_⟩:=hp1.cells
     rw [hcl'] at c2
     go_wp2_with (go_at_call 138;refine (N1.out w1 hp1).mono ?_)
     rintro e w2 ⟨rfl,hp2,hk2⟩
     rw [E1.out]
     obtain ⟨_,_,d2,_,_,_⟩:=hp2.cells
     rw [hcl'] at d2
     clear c2
     go_wp2_with (go_at_call 138;refine (N2.out w2 hp2).mono ?_)
     rintro e w3 ⟨rfl,hp3,hk3⟩
     rw [E2.out]
     obtain ⟨d0,_,_,_,_,_⟩:=hp3.cells
     clear d2
     go_wp2_with (go_at_call 140;refine (C1.out w3 hp3).mono ?_)
     rintro e w4 ⟨rfl,hp4,hk4⟩
     go_wp2_with (go_at_call 125;refine (C2.out w4 hp4).mono ?_)
     rintro e w5 ⟨rfl,hp5,hk5⟩
     go_wp2_with (go_at_call 141;refine (C3.out w5 hp5).mono ?_)
     rintro e w6 ⟨rfl,hp6,hk6⟩
     go_wp2_with (go_at_call 125;refine (C4.out w6 hp6).mono ?_)
     rintro e w7 ⟨rfl,hp7,hk7⟩
     go_wp2_with (go_at_call 141;refine (C5.out w7 hp7).mono ?_)
     rintro e w8 ⟨rfl,hp8,hk8⟩
     go_wp2_with (go_at_call 125;refine (C6.out w8 hp8).mono ?_)
     rintro e w9 ⟨rfl,hp9,hk9⟩
     go_wp2_with (go_at_call 88;refine (C7.out w9 hp9).mono ?_)
     rintro e w10 ⟨rfl,hp10,hk10⟩
     go_wp2
     go_ret
     exact ⟨rfl,hp10,((((((((hk1.trans hk2).trans hk3).trans hk4).trans hk5).trans hk6).trans hk7).trans hk8).trans hk9).trans hk10⟩
    ·rw [if_neg hi] at h
     have e2:nextF E.toks s [(⟨#[105,102]⟩:ByteArray).data.toList]=false:=eq_false_of_ne_true hi
     clear hi
     by_cases ha:nextF E.toks s [tAssert]=true
     ·rw [if_pos ha] at h
      have e3:nextF E.toks s [(⟨#[97,115,115,101,114,116]⟩:ByteArray).data.toList]=true:=ha
      obtain ⟨b,h0,h⟩:=Option.bind_eq_some_iff.1 h
      obtain ⟨d,h1,h⟩:=Option.bind_eq_some_iff.1 h
      injection h with h;subst h
      have n4:=fin _ _ (nodeM_ext _ _ _) hn
      have n3:=fin _ _ (ex _ _ _ h1) n4
      have n2:=fin _ _ (mustM_ext _ _ _) n3
      have n1:=fin _ _ (ex _ _ _ h0) n2
      have n0:=fin _ _ (leafM_ext _ _) n1
      have C1:=Lib.hid (fun w hp=>pleaf_any E s w hp hE.1 hE.2.1 n0)
      have C2:=Lib.hid (hHI _ _ _ h0 n2 (by show nest+1≤_;omega))
      have C3:=Lib.hid (fun w hp=>must_one E hE ⟨#[105,110]⟩ b.2 w hp n2)
      have C4:=Lib.hid (hHI _ _ _ h1 n4 (by show nest+1≤_;omega))
      have C5:=Lib.hid (fun w hp=>node_lit E 9 [(leafM E.toks s).1,b.1,(mustM E.toks [tIn] b.2).1,d.1] 4 _ d.2 w hp rfl rfl (by omega) n4)
      have E1:=Lib.hid e1
      have E2:=Lib.hid e2
      have E3:=Lib.hid e3
      clear h0 h1 ha e1 e2 e3 n0 n1 n2 n3 n4 hHI ex fin ih hn
      go_enter Tryz.func125,Tryz.ntmps125
      go_wp2_with (go_at_call 194;refine HD'.out.mono ?_)
      rintro e w1 ⟨rfl,hp1,hk1⟩
      obtain ⟨_,_,c2,_,_,_⟩:=hp1.cells
      rw [hcl'] at c2
      go_wp2_with (go_at_call 138;refine (N1.out w1 hp1).mono ?_)
      rintro e w2 ⟨rfl,hp2,hk2⟩
      rw [E1.out]
      go_wp2_with (go_at_call 138;refine (N2.out w2 hp2).mono ?_)
      rintro e w3 ⟨rfl,hp3,hk3⟩
      rw [E2.out]
      go_wp2_with (go_at_call 138;refine (N3.out w3 hp3).mono ?_)
      rintro e w4 ⟨rfl,hp4,hk4⟩
      rw [E3.out]
      obtain ⟨d0,_,_,_,_,_⟩:=hp4.cells
      clear c2
      go_wp2_with (go_at_call 140;refine (C1.out w4 hp4).mono ?_)
      rintro e w5 ⟨rfl,hp5,hk5⟩
      go_wp2_with (go_at_call 125;refine (C2.out w5 hp5).mono ?_)
      rintro e w6 ⟨rfl,hp6,hk6⟩
      go_wp2_with (go_at_call 141;refine (C3.out w6 hp6).mono ?_)
      rintro e w7 ⟨rfl,hp7,hk7⟩
      go_wp2_with (go_at_call 125;refine (C4.out w7 hp7).mono ?_)
      rintro e w8 ⟨rfl,hp8,hk8⟩
      go_wp2_with (go_at_call 88;refine (C5.out w8 hp8).mono ?_)
      rintro e w9 ⟨rfl,hp9,hk9⟩
      go_wp2
      go_ret
      exact ⟨rfl,hp9,(((((((hk1.trans hk2).trans hk3).trans hk4).trans hk5).trans hk6).trans hk7).trans hk8).trans hk9⟩
     ·rw [if_neg ha] at h
      have e3:nextF E.toks s [(⟨#[97,115,115,101,114,116]⟩:ByteArray).data.toList]=false:=eq_false_of_ne_true ha
      have HI:=Lib.hid (hHI _ _ _ h hn hnest2)
      have E1:=Lib.hid e1
      have E2:=Lib.hid e2
      have E3:=Lib.hid e3
      clear h ha e1 e2 e3 hHI ex fin ih hn
      go_enter Tryz.func125,Tryz.ntmps125
      go_wp2_with (go_at_call 194;refine HD'.out.mono ?_)
      rintro e w1 ⟨rfl,hp1,hk1⟩
      obtain ⟨_,_,c2,_,_,_⟩:=hp1.cells
      rw [hcl'] at c2
      go_wp2_with (go_at_call 138;refine (N1.out w1 hp1).mono ?_)
      rintro e w2 ⟨rfl,hp2,hk2⟩
      rw [E1.out]
      go_wp2_with (go_at_call 138;refine (N2.out w2 hp2).mono ?_)
      rintro e w3 ⟨rfl,hp3,hk3⟩
      rw [E2.out]
      go_wp2_with (go_at_call 138;refine (N3.out w3 hp3).mono ?_)
      rintro e w4 ⟨rfl,hp4,hk4⟩
      rw [E3.out]
      go_wp2_with (go_at_call 195;refine (HI.out w4 hp4).mono ?_)
      rintro e w5 ⟨rfl,hp5,hk5⟩
      go_wp2
      go_ret
      exact ⟨rfl,hp5,(((hk1.trans hk2).trans hk3).trans hk4).trans hk5⟩
 ·rw [if_pos hf] at h
  injection h with h
  subst h
  have hok:okB s=false:=decide_eq_false hf
  have HD':Hid (Calls Tryz.prog 194 #[.pointer (some ⟨E.pb,0,none⟩),.int .i64 nest] w (NPost E s true w)):=Lib.hid (HD.out.mono fun e w' ⟨he,hp⟩=>⟨by rw [he,hok];rfl,hp⟩)
  clear HD hnd hok hf
  go_enter Tryz.func125,Tryz.ntmps125
  go_wp2_with (go_at_call 194;refine HD'.out.mono ?_)
  rintro e w1 ⟨rfl,hp1,hk1⟩
  go_wp2
  go_ret
  exact ⟨rfl,hp1,hk1⟩
theorem ok_yes (E:PEnv)(st:PSt)(hf:st.fE=0)(w:World)(h:PW E st w):Calls Tryz.prog 83 #[.pointer (some ⟨E.pb,0,none⟩)] w (NPost E st true w) :=
 (ok_any E st w h).mono fun e w' ⟨he,hw⟩=>by subst hw;exact ⟨by rw [he,show okB st=true from decide_eq_true hf],h,Kp.refl _ _⟩
theorem ok_no (E:PEnv)(st:PSt)(hf:st.fE≠0)(w:World)(h:PW E st w):Calls Tryz.prog 83 #[.pointer (some ⟨E.pb,0,none⟩)] w (NPost E st false w) :=
 (ok_any E st w h).mono fun e w' ⟨he,hw⟩=>by subst hw;exact ⟨by rw [he,show okB st=false from decide_eq_false hf],h,Kp.refl _ _⟩
theorem deep_no (E:PEnv)(hE:E.ok)(nest:Nat)(st:PSt)(hf:(deepM E.toks E.depth nest st).fE=0)(w:World)(h:PW E st w) :
  Calls Tryz.prog 194 #[.pointer (some ⟨E.pb,0,none⟩),.int .i64 nest] w (NPost E (deepM E.toks E.depth nest st) false w) :=
 (deep_any E hE nest st w h).mono fun e w' ⟨he,hp⟩=>⟨by rw [he,show okB _=true from decide_eq_true hf];rfl,hp⟩
theorem deep_yes (E:PEnv)(hE:E.ok)(nest:Nat)(st:PSt)(hf:(deepM E.toks E.depth nest st).fE≠0)(w:World)(h:PW E st w) :
  Calls Tryz.prog 194 #[.pointer (some ⟨E.pb,0,none⟩),.int .i64 nest] w (NPost E (deepM E.toks E.depth nest st) true w) :=
 (deep_any E hE nest st w h).mono fun e w' ⟨he,hp⟩=>⟨by rw [he,show okB _=false from decide_eq_false hf];rfl,hp⟩
theorem deep_nest (E:PEnv)(nest:Nat)(st:PSt)(hf:(deepM E.toks E.depth nest st).fE=0):nest≤E.depth:=by
 unfold deepM at hf
 split at hf
 ·exact (failM_fE (by decide) _ hf).elim
 ·omega
theorem nodes_le {a b:PSt}(h1:PExt a b)(h2:b.nodes.length+1≤1099511627776):a.nodes.length+1≤1099511627776:=by have:=h1.2.2.2;omega
theorem next_is (E:PEnv)(hE:E.ok)(b:ByteArray)(st:PSt)(x:Bool)(hx:nextF E.toks st [b.data.toList]=x)(w:World)(h:PW E st w) :
  Calls Tryz.prog 138 #[.pointer (some ⟨E.pb,0,none⟩),.slice (some ⟨w.heap.size,0,none⟩) 1 1] (w.alloc (.cells #[.string b] 9)) (NPost E st x w):=by
 subst hx;exact next_one E hE b st w h
theorem formula_step (E:PEnv)(hE:E.ok)(g:Nat)(ih:AllT E g)(nest:Nat)(st:PSt)(r:Int × PSt)(w:World)(h:run E.toks E.depth (g+1) (.formula nest) st=some r)(hp:PW E st w)(hn:r.2.nodes.length+1≤1099511627776)(hnest:nest≤E.depth) :
  Calls Tryz.prog 195 #[.pointer (some ⟨E.pb,0,none⟩),.int .i64 nest] w (PPost E r w):=by
 have hdep:=hE.2.2
 have hHI:∀ (t:Task) (st:PSt) (r:Int × PSt),run E.toks E.depth g t st=some r→r.2.nodes.length+1≤1099511627776→nestOk E t→∀ w,PW E st w→taskCalls E r w t:=fun t st r h1 h2 h3 w h4=>ih t st r w h1 h4 h2 h3
 have ex:=run_ext E.toks E.depth g
 rw [run] at h
 obtain ⟨a,h0,h⟩:=Option.bind_eq_some_iff.1 h
 by_cases hf:a.2.fE=0
 ·by_cases hx:nextF E.toks a.2 [[61,62]]=true
  ·rw [if_pos ⟨hf,hx⟩] at h
   by_cases hd:(deepM E.toks E.depth (nest+1) (leafM E.toks a.2).2).fE=0
   ·rw [if_neg (by simp [hd])] at h
    obtain ⟨b,h1,h⟩:=Option.bind_eq_some_iff.1 h
    injection h with h;subst h
    have n4:=nodes_le (nodeM_ext _ _ _) hn
    have n3:=nodes_le (ex _ _ _ h1) n4
    have n2:=nodes_le (deepM_ext _ _ _ _) n3
    have n1:=nodes_le (leafM_ext _ _) n2
    have HR:=Lib.hid (hHI _ _ _ h0 n1 ⟨by decide,hnest⟩)
    have HO:=Lib.hid (ok_yes E a.2 hf)
    have HX:=Lib.hid (next_is E hE ⟨#[61,62]⟩ a.2 true hx)
    have HL:=Lib.hid (fun w hp=>pleaf_any E a.2 w hp hE.1 hE.2.1 n1)
    have HD:=Lib.hid (deep_no E hE (nest+1) _ hd)
    have HF:=Lib.hid (hHI _ _ _ h1 n4 (deep_nest E _ _ hd))
    have HN:=Lib.hid (fun w hp=>node_lit E 10 [a.1,(leafM E.toks a.2).1,b.1] 3 _ b.2 w hp rfl rfl (by omega) n4)
    clear h0 h1 hf hx hd n1 n2 n3 n4 hHI ex ih hn
    go_enter Tryz.func195,Tryz.ntmps195
    go_wp2_with (go_at_call 253;refine (HR.out w hp).mono ?_)
    rintro e w1 ⟨rfl,hp1,hk1⟩
    go_wp2_with (go_at_call 83;refine (HO.out w1 hp1).mono ?_)
    rintro e w2 ⟨rfl,hp2,hk2⟩
    go_wp2_with (go_at_call 138;refine (HX.out w2 hp2).mono ?_)
    rintro e w3 ⟨rfl,hp3,hk3⟩
    obtain ⟨d0,_,_,_,_,_⟩:=hp3.cells
    go_wp2_with (go_at_call 140;refine (HL.out w3 hp3).mono ?_)
    rintro e w4 ⟨rfl,hp4,hk4⟩
    clear d0
    go_wp2_with (go_at_call 194;refine (HD.out w4 hp4).mono ?_)
    rintro e w5 ⟨rfl,hp5,hk5⟩
    go_wp2_with (go_at_call 195;refine (HF.out w5 hp5).mono ?_)
    rintro e w6 ⟨rfl,hp6,hk6⟩
    go_wp2_with (go_at_call 88;refine (HN.out w6 hp6).mono ?_)
    rintro e w7 ⟨rfl,hp7,hk7⟩
    go_wp2
    go_ret
    exact ⟨rfl,hp7,(((((hk1.trans hk2).trans hk3).trans hk4).trans hk5).trans hk6).trans hk7⟩
   ·rw [if_pos hd] at h
    injection h with h;subst h
    have n2:=nodes_le (deepM_ext _ _ _ _) hn
    have n1:=nodes_le (leafM_ext _ _) n2
    have HR:=Lib.hid (hHI _ _ _ h0 n1 ⟨by decide,hnest⟩)
    have HO:=Lib.hid (ok_yes E a.2 hf)
    have HX:=Lib.hid (next_is E hE ⟨#[61,62]⟩ a.2 true hx)
    have HL:=Lib.hid (fun w hp=>pleaf_any E a.2 w hp hE.1 hE.2.1 n1)
    have HD:=Lib.hid (deep_yes E hE (nest+1) _ hd)
    clear h0 hf hx hd n1 n2 hHI ex ih hn
    go_enter Tryz.func195,Tryz.ntmps195
    go_wp2_with (go_at_call 253;refine (HR.out w hp).mono ?_)
    rintro e w1 ⟨rfl,hp1,hk1⟩
    go_wp2_with (go_at_call 83;refine (HO.out w1 hp1).mono ?_)
    rintro e w2 ⟨rfl,hp2,hk2⟩
    go_wp2_with (go_at_call 138;refine (HX.out w2 hp2).mono ?_)
    rintro e w3 ⟨rfl,hp3,hk3⟩
    obtain ⟨d0,_,_,_,_,_⟩:=hp3.cells
    go_wp2_with (go_at_call 140;refine (HL.out w3 hp3).mono ?_)
    rintro e w4 ⟨rfl,hp4,hk4⟩
    clear d0
    go_wp2_with (go_at_call 194;refine (HD.out w4 hp4).mono ?_)
    rintro e w5 ⟨rfl,hp5,hk5⟩
    go_wp2
    go_ret
    exact ⟨rfl,hp5,(((hk1.trans hk2).trans hk3).trans hk4).trans hk5⟩
  ·rw [if_neg (fun q=>hx q.2)] at h
   injection h with h;subst h
   have HR:=Lib.hid (hHI _ _ _ h0 hn ⟨by decide,hnest⟩)
   have HO:=Lib.hid (ok_yes E a.2 hf)
   have HX:=Lib.hid (next_is E hE ⟨#[61,62]⟩ a.2 false (eq_false_of_ne_true hx))
   clear h0 hf hx hHI ex ih hn
   go_enter Tryz.func195,Tryz.ntmps195
   go_wp2_with (go_at_call 253;refine (HR.out w hp).mono ?_)
   rintro e w1 ⟨rfl,hp1,hk1⟩
   go_wp2_with (go_at_call 83;refine (HO.out w1 hp1).mono ?_)
   rintro e w2 ⟨rfl,hp2,hk2⟩
   go_wp2_with (go_at_call 138;refine (HX.out w2 hp2).mono ?_)
   rintro e w3 ⟨rfl,hp3,hk3⟩
   go_wp2
   go_ret
   exact ⟨rfl,hp3,(hk1.trans hk2).trans hk3⟩
 ·rw [if_neg (fun q=>hf q.1)] at h
  injection h with h;subst h
  have HR:=Lib.hid (hHI _ _ _ h0 hn ⟨by decide,hnest⟩)
  have HO:=Lib.hid (ok_no E a.2 hf)
  clear h0 hf hHI ex ih hn
  go_enter Tryz.func195,Tryz.ntmps195
  go_wp2_with (go_at_call 253;refine (HR.out w hp).mono ?_)
  rintro e w1 ⟨rfl,hp1,hk1⟩
  go_wp2_with (go_at_call 83;refine (HO.out w1 hp1).mono ?_)
  rintro e w2 ⟨rfl,hp2,hk2⟩
  go_wp2
  go_ret
  exact ⟨rfl,hp2,hk1.trans hk2⟩
theorem part_step (E:PEnv)(g:Nat)(ih:AllT E g)(l nest:Nat)(st:PSt)(r:Int × PSt)(w:World)(h:run E.toks E.depth (g+1) (.part l nest) st=some r)(hp:PW E st w)(hn:r.2.nodes.length+1≤1099511627776)(hnest:l≤4∧nest≤E.depth) :
  Calls Tryz.prog 280 #[.pointer (some ⟨E.pb,0,none⟩),.int .i64 l,.int .i64 nest] w (PPost E r w):=by
 have hHI:∀ (t:Task) (st:PSt) (r:Int × PSt),run E.toks E.depth g t st=some r→r.2.nodes.length+1≤1099511627776→nestOk E t→∀ w,PW E st w→taskCalls E r w t:=fun t st r h1 h2 h3 w h4=>ih t st r w h1 h4 h2 h3
 rw [run] at h
 obtain ⟨hl,hnest⟩:=hnest
 by_cases h1:l=1
 ·rw [if_pos h1] at h
  subst h1
  have HR:=Lib.hid (hHI _ _ _ h hn hnest)
  clear h hHI ih hn
  go_enter Tryz.func280,Tryz.ntmps280
  go_wp2_with (go_at_call 306;refine (HR.out w hp).mono ?_)
  rintro e w1 ⟨rfl,hp1,hk1⟩
  go_wp2
  go_ret
  exact ⟨rfl,hp1,hk1⟩
 ·rw [if_neg h1] at h
  by_cases h4:l=4
  ·rw [if_pos h4] at h
   subst h4
   have HR:=Lib.hid (hHI _ _ _ h hn hnest)
   clear h hHI ih hn h1
   go_enter Tryz.func280,Tryz.ntmps280
   go_wp2_with (go_at_call 307;refine (HR.out w hp).mono ?_)
   rintro e w1 ⟨rfl,hp1,hk1⟩
   go_wp2
   go_ret
   exact ⟨rfl,hp1,hk1⟩
  ·rw [if_neg h4] at h
   have HR:=Lib.hid (hHI _ _ _ h hn ⟨by omega,hnest⟩)
   clear h hHI ih hn
   have h023:l=0∨l=2∨l=3:=by omega
   rcases h023 with rfl|rfl|rfl
   ·clear h1 h4 hl
    go_enter Tryz.func280,Tryz.ntmps280
    go_wp2_with (go_at_call 253;refine (HR.out w hp).mono ?_)
    rintro e w1 ⟨rfl,hp1,hk1⟩
    go_wp2
    go_ret
    exact ⟨rfl,hp1,hk1⟩
   ·clear h1 h4 hl
    go_enter Tryz.func280,Tryz.ntmps280
    go_wp2_with (go_at_call 253;refine (HR.out w hp).mono ?_)
    rintro e w1 ⟨rfl,hp1,hk1⟩
    go_wp2
    go_ret
    exact ⟨rfl,hp1,hk1⟩
   ·clear h1 h4 hl
    go_enter Tryz.func280,Tryz.ntmps280
    go_wp2_with (go_at_call 253;refine (HR.out w hp).mono ?_)
    rintro e w1 ⟨rfl,hp1,hk1⟩
    go_wp2
    go_ret
    exact ⟨rfl,hp1,hk1⟩
theorem neg_unary (E:PEnv)(hE:E.ok)(nest:Nat)(st:PSt)(b:Int × PSt)(w:World)(hp:PW E st w)(n1:st.nodes.length+1≤1099511627776)(n4:b.2.nodes.length+1≤1099511627776)(hnest:nest≤E.depth)
  (hd:(deepM E.toks E.depth (nest+1) (leafM E.toks st).2).fE=0)
  (hb:∀ w,PW E (deepM E.toks E.depth (nest+1) (leafM E.toks st).2) w→Calls Tryz.prog 306 #[.pointer (some ⟨E.pb,0,none⟩),.int .i64 ((nest+1:Nat):Int)] w (PPost E b w)) :
  Calls Tryz.prog 319 #[.pointer (some ⟨E.pb,0,none⟩),.int .i64 nest,.func (.func 306) #[.pointer (some ⟨E.pb,0,none⟩)] #[]] w (PPost E (nodeM 11 [(leafM E.toks st).1,b.1] b.2) w):=by
 have hdep:=hE.2.2
 have HL:=Lib.hid (fun w hp=>pleaf_any E st w hp hE.1 hE.2.1 n1)
 have HD:=Lib.hid (deep_no E hE (nest+1) _ hd)
 have HF:=Lib.hid hb
 have HN:=Lib.hid (fun w hp=>node_lit E 11 [(leafM E.toks st).1,b.1] 2 _ b.2 w hp rfl rfl (by omega) n4)
 clear hd hb n1 n4
 go_enter Tryz.func319,Tryz.ntmps319
 obtain ⟨d0,_,_,_,_,_⟩:=hp.cells
 go_wp2_with (go_at_call 140;refine (HL.out w hp).mono ?_)
 rintro e w1 ⟨rfl,hp1,hk1⟩
 clear d0
 go_wp2_with (go_at_call 194;refine (HD.out w1 hp1).mono ?_)
 rintro e w2 ⟨rfl,hp2,hk2⟩
 go_wp2_with (go_at_call 306;refine (HF.out w2 hp2).mono ?_)
 rintro e w3 ⟨rfl,hp3,hk3⟩
 go_wp2_with (go_at_call 88;refine (HN.out w3 hp3).mono ?_)
 rintro e w4 ⟨rfl,hp4,hk4⟩
 go_wp2
 go_ret
 exact ⟨rfl,hp4,((hk1.trans hk2).trans hk3).trans hk4⟩
theorem neg_unary0 (E:PEnv)(hE:E.ok)(nest:Nat)(st:PSt)(w:World)(hp:PW E st w)(n1:st.nodes.length+1≤1099511627776)(hnest:nest≤E.depth)
  (hd:(deepM E.toks E.depth (nest+1) (leafM E.toks st).2).fE≠0) :
  Calls Tryz.prog 319 #[.pointer (some ⟨E.pb,0,none⟩),.int .i64 nest,.func (.func 306) #[.pointer (some ⟨E.pb,0,none⟩)] #[]] w (PPost E (0,deepM E.toks E.depth (nest+1) (leafM E.toks st).2) w):=by
 have hdep:=hE.2.2
 have HL:=Lib.hid (fun w hp=>pleaf_any E st w hp hE.1 hE.2.1 n1)
 have HD:=Lib.hid (deep_yes E hE (nest+1) _ hd)
 clear hd n1
 go_enter Tryz.func319,Tryz.ntmps319
 obtain ⟨d0,_,_,_,_,_⟩:=hp.cells
 go_wp2_with (go_at_call 140;refine (HL.out w hp).mono ?_)
 rintro e w1 ⟨rfl,hp1,hk1⟩
 clear d0
 go_wp2_with (go_at_call 194;refine (HD.out w1 hp1).mono ?_)
 rintro e w2 ⟨rfl,hp2,hk2⟩
 go_wp2
 go_ret
 exact ⟨rfl,hp2,hk1.trans hk2⟩
theorem neg_step (E:PEnv)(hE:E.ok)(g:Nat)(ih:AllT E g)(nest:Nat)(st:PSt)(r:Int × PSt)(w:World)(h:run E.toks E.depth (g+1) (.neg nest) st=some r)(hp:PW E st w)(hn:r.2.nodes.length+1≤1099511627776)(hnest:nest≤E.depth) :
  Calls Tryz.prog 306 #[.pointer (some ⟨E.pb,0,none⟩),.int .i64 nest] w (PPost E r w):=by
 have hdep:=hE.2.2
 have hHI:∀ (t:Task) (st:PSt) (r:Int × PSt),run E.toks E.depth g t st=some r→r.2.nodes.length+1≤1099511627776→nestOk E t→∀ w,PW E st w→taskCalls E r w t:=fun t st r h1 h2 h3 w h4=>ih t st r w h1 h4 h2 h3
 have ex:=run_ext E.toks E.depth g
 rw [run] at h
 by_cases hf:st.fE=0
 ·by_cases hx:nextF E.toks st [tNot]=true
  ·rw [if_pos ⟨hf,hx⟩] at h
   by_cases hd:(deepM E.toks E.depth (nest+1) (leafM E.toks st).2).fE=0
   ·rw [if_neg (by simp [hd])] at h
    obtain ⟨b,h1,h⟩:=Option.bind_eq_some_iff.1 h
    injection h with h;subst h
    have n4:=nodes_le (nodeM_ext _ _ _) hn
    have n3:=nodes_le (ex _ _ _ h1) n4
    have n2:=nodes_le (deepM_ext _ _ _ _) n3
    have n1:=nodes_le (leafM_ext _ _) n2
    have HO:=Lib.hid (ok_yes E st hf)
    have HX:=Lib.hid (next_is E hE ⟨#[110,111,116]⟩ st true hx)
    have HU:=Lib.hid (fun w hp=>neg_unary E hE nest st b w hp n1 n4 hnest hd (hHI _ _ _ h1 n4 (deep_nest E _ _ hd)))
    clear h1 hf hx hd n1 n2 n3 n4 hHI ex ih hn
    go_enter Tryz.func306,Tryz.ntmps306
    go_wp2_with (go_at_call 83;refine (HO.out w hp).mono ?_)
    rintro e w1 ⟨rfl,hp1,hk1⟩
    go_wp2_with (go_at_call 138;refine (HX.out w1 hp1).mono ?_)
    rintro e w2 ⟨rfl,hp2,hk2⟩
    go_wp2_with (go_at_call 319;refine (HU.out w2 hp2).mono ?_)
    rintro e w3 ⟨rfl,hp3,hk3⟩
    go_wp2
    go_ret
    exact ⟨rfl,hp3,(hk1.trans hk2).trans hk3⟩
   ·rw [if_pos hd] at h
    injection h with h;subst h
    have n2:=nodes_le (deepM_ext _ _ _ _) hn
    have n1:=nodes_le (leafM_ext _ _) n2
    have HO:=Lib.hid (ok_yes E st hf)
    have HX:=Lib.hid (next_is E hE ⟨#[110,111,116]⟩ st true hx)
    have HU:=Lib.hid (fun w hp=>neg_unary0 E hE nest st w hp n1 hnest hd)
    clear hf hx hd n1 n2 hHI ex ih hn
    go_enter Tryz.func306,Tryz.ntmps306
    go_wp2_with (go_at_call 83;refine (HO.out w hp).mono ?_)
    rintro e w1 ⟨rfl,hp1,hk1⟩
    go_wp2_with (go_at_call 138;refine (HX.out w1 hp1).mono ?_)
    rintro e w2 ⟨rfl,hp2,hk2⟩
    go_wp2_with (go_at_call 319;refine (HU.out w2 hp2).mono ?_)
    rintro e w3 ⟨rfl,hp3,hk3⟩
    go_wp2
    go_ret
    exact ⟨rfl,hp3,(hk1.trans hk2).trans hk3⟩
  ·rw [if_neg (fun q=>hx q.2)] at h
   have HO:=Lib.hid (ok_yes E st hf)
   have HX:=Lib.hid (next_is E hE ⟨#[110,111,116]⟩ st false (eq_false_of_ne_true hx))
   have HR:=Lib.hid (hHI _ _ _ h hn ⟨by decide,hnest⟩)
   clear h hf hx hHI ex ih hn
   go_enter Tryz.func306,Tryz.ntmps306
   go_wp2_with (go_at_call 83;refine (HO.out w hp).mono ?_)
   rintro e w1 ⟨rfl,hp1,hk1⟩
   go_wp2_with (go_at_call 138;refine (HX.out w1 hp1).mono ?_)
   rintro e w2 ⟨rfl,hp2,hk2⟩
   go_wp2_with (go_at_call 253;refine (HR.out w2 hp2).mono ?_)
   rintro e w3 ⟨rfl,hp3,hk3⟩
   go_wp2
   go_ret
   exact ⟨rfl,hp3,(hk1.trans hk2).trans hk3⟩
 ·rw [if_neg (fun q=>hf q.1)] at h
  have HO:=Lib.hid (ok_no E st hf)
  have HR:=Lib.hid (hHI _ _ _ h hn ⟨by decide,hnest⟩)
  clear h hf hHI ex ih hn
  go_enter Tryz.func306,Tryz.ntmps306
  go_wp2_with (go_at_call 83;refine (HO.out w hp).mono ?_)
  rintro e w1 ⟨rfl,hp1,hk1⟩
  go_wp2_with (go_at_call 253;refine (HR.out w1 hp1).mono ?_)
  rintro e w2 ⟨rfl,hp2,hk2⟩
  go_wp2
  go_ret
  exact ⟨rfl,hp2,hk1.trans hk2⟩
theorem factor_unary (E:PEnv)(hE:E.ok)(nest:Nat)(st:PSt)(b:Int × PSt)(w:World)(hp:PW E st w)(n1:st.nodes.length+1≤1099511627776)(n4:b.2.nodes.length+1≤1099511627776)(hnest:nest≤E.depth)
  (hd:(deepM E.toks E.depth (nest+1) (leafM E.toks st).2).fE=0)
  (hb:∀ w,PW E (deepM E.toks E.depth (nest+1) (leafM E.toks st).2) w→Calls Tryz.prog 307 #[.pointer (some ⟨E.pb,0,none⟩),.int .i64 ((nest+1:Nat):Int)] w (PPost E b w)) :
  Calls Tryz.prog 319 #[.pointer (some ⟨E.pb,0,none⟩),.int .i64 nest,.func (.func 307) #[.pointer (some ⟨E.pb,0,none⟩)] #[]] w (PPost E (nodeM 11 [(leafM E.toks st).1,b.1] b.2) w):=by
 have hdep:=hE.2.2
 have HL:=Lib.hid (fun w hp=>pleaf_any E st w hp hE.1 hE.2.1 n1)
 have HD:=Lib.hid (deep_no E hE (nest+1) _ hd)
 have HF:=Lib.hid hb
 have HN:=Lib.hid (fun w hp=>node_lit E 11 [(leafM E.toks st).1,b.1] 2 _ b.2 w hp rfl rfl (by omega) n4)
 clear hd hb n1 n4
 go_enter Tryz.func319,Tryz.ntmps319
 obtain ⟨d0,_,_,_,_,_⟩:=hp.cells
 go_wp2_with (go_at_call 140;refine (HL.out w hp).mono ?_)
 rintro e w1 ⟨rfl,hp1,hk1⟩
 clear d0
 go_wp2_with (go_at_call 194;refine (HD.out w1 hp1).mono ?_)
 rintro e w2 ⟨rfl,hp2,hk2⟩
 go_wp2_with (go_at_call 307;refine (HF.out w2 hp2).mono ?_)
 rintro e w3 ⟨rfl,hp3,hk3⟩
 go_wp2_with (go_at_call 88;refine (HN.out w3 hp3).mono ?_)
 rintro e w4 ⟨rfl,hp4,hk4⟩
 go_wp2
 go_ret
 exact ⟨rfl,hp4,((hk1.trans hk2).trans hk3).trans hk4⟩
theorem factor_unary0 (E:PEnv)(hE:E.ok)(nest:Nat)(st:PSt)(w:World)(hp:PW E st w)(n1:st.nodes.length+1≤1099511627776)(hnest:nest≤E.depth)
  (hd:(deepM E.toks E.depth (nest+1) (leafM E.toks st).2).fE≠0) :
  Calls Tryz.prog 319 #[.pointer (some ⟨E.pb,0,none⟩),.int .i64 nest,.func (.func 307) #[.pointer (some ⟨E.pb,0,none⟩)] #[]] w (PPost E (0,deepM E.toks E.depth (nest+1) (leafM E.toks st).2) w):=by
 have hdep:=hE.2.2
 have HL:=Lib.hid (fun w hp=>pleaf_any E st w hp hE.1 hE.2.1 n1)
 have HD:=Lib.hid (deep_yes E hE (nest+1) _ hd)
 clear hd n1
 go_enter Tryz.func319,Tryz.ntmps319
 obtain ⟨d0,_,_,_,_,_⟩:=hp.cells
 go_wp2_with (go_at_call 140;refine (HL.out w hp).mono ?_)
 rintro e w1 ⟨rfl,hp1,hk1⟩
 clear d0
 go_wp2_with (go_at_call 194;refine (HD.out w1 hp1).mono ?_)
 rintro e w2 ⟨rfl,hp2,hk2⟩
 go_wp2
 go_ret
 exact ⟨rfl,hp2,hk1.trans hk2⟩
theorem factor_step (E:PEnv)(hE:E.ok)(g:Nat)(ih:AllT E g)(nest:Nat)(st:PSt)(r:Int × PSt)(w:World)(h:run E.toks E.depth (g+1) (.factor nest) st=some r)(hp:PW E st w)(hn:r.2.nodes.length+1≤1099511627776)(hnest:nest≤E.depth) :
  Calls Tryz.prog 307 #[.pointer (some ⟨E.pb,0,none⟩),.int .i64 nest] w (PPost E r w):=by
 have hdep:=hE.2.2
 have hHI:∀ (t:Task) (st:PSt) (r:Int × PSt),run E.toks E.depth g t st=some r→r.2.nodes.length+1≤1099511627776→nestOk E t→∀ w,PW E st w→taskCalls E r w t:=fun t st r h1 h2 h3 w h4=>ih t st r w h1 h4 h2 h3
 have ex:=run_ext E.toks E.depth g
 rw [run] at h
 by_cases hf:st.fE=0
 ·by_cases hx:nextF E.toks st [[45]]=true
  ·rw [if_pos ⟨hf,hx⟩] at h
   by_cases hd:(deepM E.toks E.depth (nest+1) (leafM E.toks st).2).fE=0
   ·rw [if_neg (by simp [hd])] at h
    obtain ⟨b,h1,h⟩:=Option.bind_eq_some_iff.1 h
    injection h with h;subst h
    have n4:=nodes_le (nodeM_ext _ _ _) hn
    have n3:=nodes_le (ex _ _ _ h1) n4
    have n2:=nodes_le (deepM_ext _ _ _ _) n3
    have n1:=nodes_le (leafM_ext _ _) n2
    have HO:=Lib.hid (ok_yes E st hf)
    have HX:=Lib.hid (next_is E hE ⟨#[45]⟩ st true hx)
    have HU:=Lib.hid (fun w hp=>factor_unary E hE nest st b w hp n1 n4 hnest hd (hHI _ _ _ h1 n4 (deep_nest E _ _ hd)))
    clear h1 hf hx hd n1 n2 n3 n4 hHI ex ih hn
    go_enter Tryz.func307,Tryz.ntmps307
    go_wp2_with (go_at_call 83;refine (HO.out w hp).mono ?_)
    rintro e w1 ⟨rfl,hp1,hk1⟩
    go_wp2_with (go_at_call 138;refine (HX.out w1 hp1).mono ?_)
    rintro e w2 ⟨rfl,hp2,hk2⟩
    go_wp2_with (go_at_call 319;refine (HU.out w2 hp2).mono ?_)
    rintro e w3 ⟨rfl,hp3,hk3⟩
    go_wp2
    go_ret
    exact ⟨rfl,hp3,(hk1.trans hk2).trans hk3⟩
   ·rw [if_pos hd] at h
    injection h with h;subst h
    have n2:=nodes_le (deepM_ext _ _ _ _) hn
    have n1:=nodes_le (leafM_ext _ _) n2
    have HO:=Lib.hid (ok_yes E st hf)
    have HX:=Lib.hid (next_is E hE ⟨#[45]⟩ st true hx)
    have HU:=Lib.hid (fun w hp=>factor_unary0 E hE nest st w hp n1 hnest hd)
    clear hf hx hd n1 n2 hHI ex ih hn
    go_enter Tryz.func307,Tryz.ntmps307
    go_wp2_with (go_at_call 83;refine (HO.out w hp).mono ?_)
    rintro e w1 ⟨rfl,hp1,hk1⟩
    go_wp2_with (go_at_call 138;refine (HX.out w1 hp1).mono ?_)
    rintro e w2 ⟨rfl,hp2,hk2⟩
    go_wp2_with (go_at_call 319;refine (HU.out w2 hp2).mono ?_)
    rintro e w3 ⟨rfl,hp3,hk3⟩
    go_wp2
    go_ret
    exact ⟨rfl,hp3,(hk1.trans hk2).trans hk3⟩
  ·rw [if_neg (fun q=>hx q.2)] at h
   have HO:=Lib.hid (ok_yes E st hf)
   have HX:=Lib.hid (next_is E hE ⟨#[45]⟩ st false (eq_false_of_ne_true hx))
   have HR:=Lib.hid (hHI _ _ _ h hn hnest)
   clear h hf hx hHI ex ih hn
   go_enter Tryz.func307,Tryz.ntmps307
   go_wp2_with (go_at_call 83;refine (HO.out w hp).mono ?_)
   rintro e w1 ⟨rfl,hp1,hk1⟩
   go_wp2_with (go_at_call 138;refine (HX.out w1 hp1).mono ?_)
   rintro e w2 ⟨rfl,hp2,hk2⟩
   go_wp2_with (go_at_call 320;refine (HR.out w2 hp2).mono ?_)
   rintro e w3 ⟨rfl,hp3,hk3⟩
   go_wp2
   go_ret
   exact ⟨rfl,hp3,(hk1.trans hk2).trans hk3⟩
 ·rw [if_neg (fun q=>hf q.1)] at h
  have HO:=Lib.hid (ok_no E st hf)
  have HR:=Lib.hid (hHI _ _ _ h hn hnest)
  clear h hf hHI ex ih hn
  go_enter Tryz.func307,Tryz.ntmps307
  go_wp2_with (go_at_call 83;refine (HO.out w hp).mono ?_)
  rintro e w1 ⟨rfl,hp1,hk1⟩
  go_wp2_with (go_at_call 320;refine (HR.out w1 hp1).mono ?_)
  rintro e w2 ⟨rfl,hp2,hk2⟩
  go_wp2
  go_ret
  exact ⟨rfl,hp2,hk1.trans hk2⟩
end Go.Proofs.YtbodlpoomfefcaaGreatDoor
