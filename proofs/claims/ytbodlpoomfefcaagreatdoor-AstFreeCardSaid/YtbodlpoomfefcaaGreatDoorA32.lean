/- Walks and plain laws: ListW, ProgramW1, ProgramW3. -/
import Derived.Test.YtbodlpoomfefcaaGreatDoorA24
set_option maxHeartbeats 16000000
set_option maxRecDepth 100000
set_option linter.unusedVariables false
set_option linter.unusedSimpArgs false
namespace Go.Proofs.YtbodlpoomfefcaaGreatDoor
open Go.RowKit Go
def ListAtC (E:PEnv)(one:PSt→Option (Int × PSt))(res:List Int × PSt)(w0:World)(kv nv:Value)(wr:World):Prop :=
 ∃ (r m:Nat) (kids:List Int) (s:PSt) (R:List Nat),nv=.int .i64 (m:Nat)∧m+r=9∧kids.length+2 * r≤16∧listLoop E.toks one r kids s=some res ∧
  wr.ownsRow w0.heap.size 3 1 kv kids.length (kids.map (Value.int .i64))∧(∀ b,kv.ownBlock=some b→b∈R)∧(∀ r∈E.R,r∈R)∧(kids=[]→kv=.slice none 0 0)∧PR E R s wr∧Kp E.B w0 wr∧s.clause=false
theorem list_param (E:PEnv)(hE:E.ok)(one:PSt→Option (Int × PSt))(st:PSt)(res:List Int × PSt)(w:World)(h:listM E.toks one st=some res)(hp:PW E st w)(hn:res.2.nodes.length+1≤1099511627776)
  (hcl:st.clause=false) (hext:∀ s k,one s=some k→PExt s k.2)
  (hone:∀ (R:List Nat) (s:PSt) (k:Int × PSt) (w':World),s.clause=false→one s=some k→PR E R s w'→Kp E.B w w'→k.2.nodes.length+1≤1099511627776 →
   Calls Tryz.prog 143 #[.pointer (some ⟨E.pb,0,none⟩)] w' (PPost { E with R:=R } k w')) :
  Calls Tryz.prog 142 #[.pointer (some ⟨E.pb,0,none⟩),.func (.func 143) #[.pointer (some ⟨E.pb,0,none⟩)] #[]] w (LPost E res w):=by
 have hdep:=hE.2.2
 obtain ⟨i0,hi,hz0,hz1,hz2⟩:=info_parts Tryz.infoInt
 unfold listM at h
 by_cases hx:nextF E.toks st [[41]]=true
 ·rw [if_pos hx] at h
  injection h with h;subst h
  have HX:=Lib.hid (next_is E hE ⟨#[41]⟩ st true hx)
  clear hx hone hext
  go_enter Tryz.func142,Tryz.ntmps142
  go_wp2_with (go_at_call 138;refine (HX.out w hp).mono ?_)
  rintro e w1 ⟨rfl,hp1,hk1⟩
  go_wp2
  go_ret
  exact ⟨_,rfl,⟨none,0,rfl,Nat.le_refl _,fun q=>absurd q (by simp)⟩,fun _=>rfl,hp1,hk1⟩
 ·rw [if_neg hx] at h
  have HX:=Lib.hid (next_is E hE ⟨#[41]⟩ st false (eq_false_of_ne_true hx))
  have H0:=Lib.hid h
  have HONE:=Lib.hid hone
  have HEXT:=Lib.hid hext
  have HN:=Lib.hid hn
  have HE:=Lib.hid hE
  clear hx hone hext h hn
  go_enter Tryz.func142,Tryz.ntmps142
  go_wp2_with (go_at_call 138;refine (HX.out w hp).mono ?_)
  rintro e w1 ⟨rfl,hp1,hk1⟩
  go_wp2
  go_loopw [5,6] (fun kv nv wr=>ListAtC E one res w kv nv wr) (fun _ nv _=>10 - (intOf nv).toNat)
  case atStart=>exact ⟨8,1,[],st,E.R,rfl,rfl,by simp,H0.out,World.ownsRow_nil _ _ _ _,fun _ q=>by simp [Value.ownBlock] at q,fun _ q=>q,fun _=>rfl,hp1,hk1,hcl⟩
  case round =>
   obtain ⟨r,m,kids,s,R,rfl,hm,hkl,hl,hown,hR,hER,hnil,hps,hks,hsc⟩:=hrel
   obtain ⟨ao,cap,rfl⟩:=own_form hown
   have HNIL:=Lib.hid hnil
   clear hnil
   have hBw:E.B≤w.heap.size:=hp.B_le
   by_cases hf:s.fE=0
   ·have HO:=Lib.hid (ok_yes { E with R:=R } s hf)
    cases r with
    | zero =>
     obtain rfl:m=9:=by omega
     rw [listLoop,if_pos hf] at hl
     injection hl with hl
     have HF:=Lib.hid (fun w hp=>pfail_any { E with R:=R } HE.out 15 s w hp)
     have HL:=Lib.hid hl
     clear hl hf
     go_wp2_with (go_at_call 83;refine (HO.out _ hps).mono ?_)
     rintro e w2 ⟨rfl,hp2,hk2⟩
     go_wp2_with (go_at_call 139;refine (HF.out _ hp2).mono ?_)
     rintro e w3 ⟨rfl,hp3,hk3⟩
     have hown3:=own_kp (own_kp hown hk2) hk3
     go_wp2
     go_ret
     exact list_done hown3 hER hp3 ((hks.trans hk2).trans hk3) HL.out HNIL.out
    | succ r =>
     rw [listLoop,if_neg (by simp [hf])] at hl
     obtain ⟨k,h1,hl⟩:=Option.bind_eq_some_iff.1 hl
     have d8:decide (8<(m:Int))=false:=decide_eq_false (by omega)
     have d8':decide (8<m)=false:=decide_eq_false (by omega)
     have hnk:k.2.nodes.length+1≤1099511627776:=by
      split at hl
      ·exact nodes_le ((leafM_ext _ _).trans (listLoop_ext _ one HEXT.out _ _ _ _ hl)) HN.out
      ·injection hl with hl;rw [← hl] at HN;exact HN.out
     have HCK:Hid (k.2.clause=false):=Lib.hid (by rw [(HEXT.out s k h1).2.2.1];exact hsc)
     have HK:=Lib.hid (fun w' hp hk=>HONE.out R s k w' hsc h1 hp hk hnk)
     have HL:=Lib.hid hl
     clear hl h1 hf
     go_wp2_with (go_at_call 83;refine (HO.out _ hps).mono ?_)
     rintro e w2 ⟨rfl,hp2,hk2⟩
     go_wp2_with (go_at_call 143;refine (HK.out _ hp2 (hks.trans hk2)).mono ?_)
     rintro e w3 ⟨rfl,hp3,hk3⟩
     have hp3':PR E R k.2 w3:=hp3
     clear hp3
     have hown3:=own_kp (own_kp hown hk2) hk3
     have hpA:PR E R k.2 (w3.alloc (.cells #[.int .i64 k.1] 3)):=PW.later hp3' (below_new w3 _)
     have hnw:=heap_alloc_new w3 (.cells #[.int .i64 k.1] 3)
     have hkA:Kp E.B w (w3.alloc (.cells #[.int .i64 k.1] 3)):=((hks.trans hk2).trans hk3).trans (Kp.of (below_new w3 _) hp3'.B_le)
     have hownA:=hown3.alloc (.cells #[.int .i64 k.1] 3)
     have hsz3:w.heap.size≤w3.heap.size:=((hks.trans hk2).trans hk3).size
     go_wp2_with (at_builtin;refine wpList_append_lies _ rfl _ _ 81 rfl w.heap.size 3 i0 (.int .i64 0) 1 8 Tryz.underlying81 hi hz0 hz1 hz2 rfl (by decide) _ _ _ rfl hownA ⟨w3.heap.size,0,none⟩ 1 1 [.int .i64 k.1] rfl rfl ?c1 ?c2 ?c3 ?c4 ?c5 ?c6 _ rfl ?_)
     case c1=>exact World.news_of_block (cs:=#[.int .i64 k.1]) (t:=3) (fr:=(0,0)) hnw
     case c2=>simp [Value.oneCell']
     case c3=>omega
     case c4=>unfold maxLen;omega
     case c5=>omega
     case c6=>simp;omega
     intro g cap4 w4 hown4 hgrow4 hat4 hlt4
     obtain ⟨R4,hR4,hg4,hp4⟩:=hpA.append hownA hBw hR hgrow4 hat4 (by simp) hlt4
     have hk4:=hkA.grown hownA (Nat.le_refl _) hBw hgrow4
     have hown4':w4.ownsRow w.heap.size 3 1 (.slice (some ⟨g,0,none⟩) (kids.length+1) cap4) (kids.length+1) ((kids++[k.1]).map (Value.int .i64)):=by rw [List.map_append];exact hown4
     have hER4:∀ r∈E.R,r∈R4:=fun r hr=>hR4 r (hER r hr)
     clear hpA hnw hkA hownA hgrow4 hat4 hlt4 hown3 hown4 hk2 hk3 hp2 hp3' hown hps hks HO HK HX H0 HONE hsz3 hR4
     by_cases hf4:k.2.fE=0
     ·have HO4:=Lib.hid (ok_yes { E with R:=R4 } k.2 hf4)
      by_cases hx4:nextF E.toks k.2 [[44]]=true
      ·have hl:=HL.out
       rw [if_pos ⟨hf4,hx4⟩] at hl
       have HX4:=Lib.hid (next_is { E with R:=R4 } HE.out ⟨#[44]⟩ k.2 true hx4)
       have HLF:=Lib.hid (fun w hp=>pleaf_any { E with R:=R4 } k.2 w hp HE.out.1 HE.out.2.1 hnk)
       have HL2:=Lib.hid hl
       clear hl HL hf4 hx4
       go_wp2_with (go_at_call 83;refine (HO4.out _ hp4).mono ?_)
       rintro e w5 ⟨rfl,hp5,hk5⟩
       go_wp2_with (go_at_call 138;refine (HX4.out _ hp5).mono ?_)
       rintro e w6 ⟨rfl,hp6,hk6⟩
       obtain ⟨d0,_,_,_,_,_⟩:=hp6.cells
       go_wp2_with (go_at_call 140;refine (HLF.out _ hp6).mono ?_)
       rintro e w7 ⟨rfl,hp7,hk7⟩
       clear d0
       have hp7':PR E R4 (leafM E.toks k.2).2 w7:=hp7
       clear hp7
       have hown7:=own_kp (own_kp (own_kp hown4' hk5) hk6) hk7
       have hk47:=((hk4.trans hk5).trans hk6).trans hk7
       have hpA:PR E R4 (leafM E.toks k.2).2 (w7.alloc (.cells #[.int .i64 (leafM E.toks k.2).1] 3)):=PW.later hp7' (below_new w7 _)
       have hnw:=heap_alloc_new w7 (.cells #[.int .i64 (leafM E.toks k.2).1] 3)
       have hkA:Kp E.B w (w7.alloc (.cells #[.int .i64 (leafM E.toks k.2).1] 3)):=hk47.trans (Kp.of (below_new w7 _) hp7'.B_le)
       have hownA:=hown7.alloc (.cells #[.int .i64 (leafM E.toks k.2).1] 3)
       have hsz7:w.heap.size≤w7.heap.size:=hk47.size
       have hv4:∀ b,(Value.slice (some ⟨g,0,none⟩) (kids.length+1) cap4).ownBlock=some b→b∈R4:=fun b hb=>by
        simp only [Value.ownBlock,Option.some.injEq] at hb;subst hb;exact hg4
       go_wp2_with (at_builtin;refine wpList_append_lies _ rfl _ _ 81 rfl w.heap.size 3 i0 (.int .i64 0) 1 8 Tryz.underlying81 hi hz0 hz1 hz2 rfl (by decide) _ _ _ rfl hownA ⟨w7.heap.size,0,none⟩ 1 1 [.int .i64 (leafM E.toks k.2).1] rfl rfl ?c1 ?c2 ?c3 ?c4 ?c5 ?c6 _ rfl ?_)
       case c1=>exact World.news_of_block (cs:=#[.int .i64 (leafM E.toks k.2).1]) (t:=3) (fr:=(0,0)) hnw
       case c2=>simp [Value.oneCell']
       case c3=>omega
       case c4=>unfold maxLen;omega
       case c5=>omega
       case c6=>simp;omega
       intro g8 cap8 w8 hown8 hgrow8 hat8 hlt8
       obtain ⟨R8,hR8,hg8,hp8⟩:=hpA.append hownA hBw hv4 hgrow8 hat8 (by simp) hlt8
       have hk8:=hkA.grown hownA (Nat.le_refl _) hBw hgrow8
       have hown8':w8.ownsRow w.heap.size 3 1 (.slice (some ⟨g8,0,none⟩) (kids.length+1+1) cap8) (kids++[k.1,(leafM E.toks k.2).1]).length ((kids++[k.1,(leafM E.toks k.2).1]).map (Value.int .i64)):=by
        rw [List.map_append,List.length_append];exact hown8
       have hv8:∀ b,(Value.slice (some ⟨g8,0,none⟩) (kids.length+1+1) cap8).ownBlock=some b→b∈R8:=fun b hb=>by
        simp only [Value.ownBlock,Option.some.injEq] at hb;subst hb;exact hg8
       have hER8:∀ r∈E.R,r∈R8:=fun r hr=>hR8 r (hER4 r hr)
       clear hpA hnw hkA hownA hgrow8 hat8 hlt8 hown7 hown8 hk47 hown4' hk4 hk5 hk6 hk7 hp4 hp5 hp6 hp7' HO4 HX4 HLF hR8 hv4 hER4 hg4
       go_wp2
       go_roundw
       case rel=>exact ⟨r,m+1,_,_,R8,by go_num,by omega,by simp;omega,HL2.out,hown8',hv8,hER8,(fun q=>by simp at q),hp8,hk8,by rw [(leafM_ext E.toks k.2).2.2.1];exact HCK.out⟩
       case measure=>simp [intOf];omega
      ·have hl:=HL.out
       rw [if_neg (fun q=>hx4 q.2)] at hl
       injection hl with hl
       have HX4:=Lib.hid (next_is { E with R:=R4 } HE.out ⟨#[44]⟩ k.2 false (eq_false_of_ne_true hx4))
       have HL2:=Lib.hid hl
       clear hl HL hf4 hx4
       go_wp2_with (go_at_call 83;refine (HO4.out _ hp4).mono ?_)
       rintro e w5 ⟨rfl,hp5,hk5⟩
       go_wp2_with (go_at_call 138;refine (HX4.out _ hp5).mono ?_)
       rintro e w6 ⟨rfl,hp6,hk6⟩
       have hown6:=own_kp (own_kp hown4' hk5) hk6
       go_wp2
       go_ret
       exact list_done hown6 hER4 hp6 ((hk4.trans hk5).trans hk6) HL2.out (fun q=>by simp at q)
     ·have hl:=HL.out
      rw [if_neg (fun q=>hf4 q.1)] at hl
      injection hl with hl
      have HO4:=Lib.hid (ok_no { E with R:=R4 } k.2 hf4)
      have HL2:=Lib.hid hl
      clear hl HL hf4
      go_wp2_with (go_at_call 83;refine (HO4.out _ hp4).mono ?_)
      rintro e w5 ⟨rfl,hp5,hk5⟩
      have hown5:=own_kp hown4' hk5
      go_wp2
      go_ret
      exact list_done hown5 hER4 hp5 (hk4.trans hk5) HL2.out (fun q=>by simp at q)
   ·have HO:=Lib.hid (ok_no { E with R:=R } s hf)
    have hl':(kids,s)=res:=by
     cases r with
     | zero=>rw [listLoop,if_neg hf] at hl;injection hl
     | succ r=>rw [listLoop,if_pos hf] at hl;injection hl
    have HL:=Lib.hid hl'
    clear hl hl' hf
    go_wp2_with (go_at_call 83;refine (HO.out _ hps).mono ?_)
    rintro e w2 ⟨rfl,hp2,hk2⟩
    have hown2:=own_kp hown hk2
    go_wp2
    go_ret
    exact list_done hown2 hER hp2 (hks.trans hk2) HL.out HNIL.out
theorem must_two (E:PEnv)(hE:E.ok)(b c:ByteArray)(st:PSt)(w:World)(h:PW E st w)(hn:st.nodes.length+1≤1099511627776) :
  Calls Tryz.prog 141 #[.pointer (some ⟨E.pb,0,none⟩),.slice (some ⟨w.heap.size,0,none⟩) 2 2] (w.alloc (.cells #[.string b,.string c] 9)) (PPost E (mustM E.toks [b.data.toList,c.data.toList] st) w):=by
 have hA:=h.later (below_new w (.cells #[.string b,.string c] 9))
 refine (must_any E hE _ _ st _ hA (strs_two w b c) (by simp) hn).mono ?_
 rintro e w' ⟨rfl,hp,hk⟩
 exact ⟨rfl,hp,(Kp.of (below_new w _) h.B_le).trans hk⟩
theorem imported_any (E:PEnv)(hE:E.ok)(st:PSt)(w:World)(hp:PW E st w)(hn:(importM E.toks st).2.nodes.length+1≤1099511627776) :
  Calls Tryz.prog 86 #[.pointer (some ⟨E.pb,0,none⟩)] w (PPost E (importM E.toks st) w):=by
 unfold importM at hn ⊢
 have n3:=nodes_le (nodeM_ext _ _ _) hn
 have n2:=nodes_le (mustM_ext _ _ _) n3
 have n1:=nodes_le (kindM_ext _ _ _) n2
 have n0:=nodes_le (leafM_ext _ _) n1
 have HL:=Lib.hid (pleaf_any E st w hp hE.1 hE.2.1 n0)
 have HK:=Lib.hid (fun w hp=>kind_any E hE 1 (leafM E.toks st).2 w hp n1)
 have HM:=Lib.hid (fun w hp=>must_one E hE ⟨#[59]⟩ (kindM E.toks 1 (leafM E.toks st).2).2 w hp n2)
 have HN:=Lib.hid (fun w hp=>node_lit E 2 [(leafM E.toks st).1,(kindM E.toks 1 (leafM E.toks st).2).1,(mustM E.toks [[59]] (kindM E.toks 1 (leafM E.toks st).2).2).1] 3 _ (mustM E.toks [[59]] (kindM E.toks 1 (leafM E.toks st).2).2).2 w hp rfl rfl (by omega) n3)
 clear n0 n1 n2 n3 hn
 obtain ⟨d0,_,_,_,_,_⟩:=hp.cells
 go_enter Tryz.func86,Tryz.ntmps86
 go_wp2_with (go_at_call 140;refine HL.out.mono ?_)
 rintro e w1 ⟨rfl,hp1,hk1⟩
 clear d0
 go_wp2_with (go_at_call 89;refine (HK.out _ hp1).mono ?_)
 rintro e w2 ⟨rfl,hp2,hk2⟩
 go_wp2_with (go_at_call 141;refine (HM.out _ hp2).mono ?_)
 rintro e w3 ⟨rfl,hp3,hk3⟩
 go_wp2_with (go_at_call 88;refine (HN.out _ hp3).mono ?_)
 rintro e w4 ⟨rfl,hp4,hk4⟩
 go_wp2
 go_ret
 exact ⟨rfl,hp4,((hk1.trans hk2).trans hk3).trans hk4⟩
def TyPost (E:PEnv)(W0:World)(r:List Int × PSt)(e:Ending)(w':World):Prop:=∃ v R,e=.returned v∧KRow E W0 R v r.1 r.2 w'
theorem typed_any (E:PEnv)(hE:E.ok)(g:Nat)(W0:World)(R:List Nat)(v:Value)(ks:List Int)(st:PSt)(r:List Int × PSt)(w:World)(h:typedM E.toks E.depth g ks st=some r)(K0:KRow E W0 R v ks st w)(hB:E.B≤W0.heap.size)(hn:r.2.nodes.length+1≤1099511627776)(hcl:st.clause=false)(hks:ks.length≤1000000) :
  Calls Tryz.prog 144 #[.pointer (some ⟨E.pb,0,none⟩),v] w (TyPost E W0 r):=by
 have hdep:=hE.2.2
 obtain ⟨i0,hi,hz0,hz1,hz2⟩:=info_parts Tryz.infoInt
 have n3:(baseM E.toks st).2.nodes.length+1≤1099511627776:=by
  unfold typedM at h
  split at h
  ·obtain ⟨n,h1,h⟩:=Option.bind_eq_some_iff.1 h
   obtain rfl:=Option.some.inj h
   exact nodes_le (clauseM_ext h1) hn
  ·obtain rfl:=Option.some.inj h
   exact hn
 have n2:(bwordM E.toks st).2.nodes.length+1≤1099511627776:=nodes_le (nodeM_ext _ _ _) n3
 have n1:(colonM E.toks st).2.nodes.length+1≤1099511627776:=nodes_le (mustM_ext _ _ _) n2
 have n0:=nodes_le (mustM_ext E.toks [[58]] st) n1
 have hc3:(baseM E.toks st).2.clause=false:=by rw [(baseM_ext E.toks st).2.2.1];exact hcl
 obtain ⟨ao,cap,rfl⟩:=own_form K0.1
 have HM1:=Lib.hid (must_one { E with R:=R } hE ⟨#[58]⟩ st w K0.2.2.2.1 n0)
 have HM2:=Lib.hid (fun R w hp=>must_two { E with R:=R } hE ⟨#[105,110,116]⟩ ⟨#[98,111,111,108]⟩ (colonM E.toks st).2 w hp n1)
 have HM3:=Lib.hid (fun R w hp=>node_lit { E with R:=R } 5 [(bwordM E.toks st).1] 1 _ (bwordM E.toks st).2 w hp rfl rfl (by omega) n2)
 have H0:=Lib.hid h
 have HN:=Lib.hid hn
 clear n0 n1 n2 h hn
 go_enter Tryz.func144,Tryz.ntmps144
 go_wp2_with (go_at_call 141;refine HM1.out.mono ?_)
 rintro e w1 ⟨rfl,hq,hkq⟩
 have K1:=K0.call hq hkq
 clear hq hkq HM1
 have hL:=K1.lit (.cells #[.int .i64 (colonM E.toks st).1] 3)
 have hnw:=heap_alloc_new w1 (.cells #[.int .i64 (colonM E.toks st).1] 3)
 go_wp2_with (at_builtin;refine wpList_append_lies _ rfl _ _ 81 rfl W0.heap.size 3 i0 (.int .i64 0) 1 8 Tryz.underlying81 hi hz0 hz1 hz2 rfl (by decide) _ (ks.length) _ rfl (hL.row (rfl:ks.length=ks.length)) ⟨w1.heap.size,0,none⟩ 1 1 [.int .i64 (colonM E.toks st).1] rfl rfl ?c1 ?c2 ?c3 ?c4 ?c5 ?c6 _ rfl ?_)
 case c1=>exact World.news_of_block (cs:=#[.int .i64 (colonM E.toks st).1]) (t:=3) (fr:=(0,0)) hnw
 case c2=>simp [Value.oneCell']
 case c3=>omega
 case c4=>unfold maxLen;omega
 case c5=>omega
 case c6=>exact hL.2.2.2.2.size
 intro g2 cap2 w2 hown hgrow hat hlt
 obtain ⟨R2,K2⟩:=hL.app (news:=[(colonM E.toks st).1]) (n:=ks.length+1) hB (by rw [List.length_append,(rfl:ks.length=ks.length)];rfl) hown hgrow hat (by simp) hlt
 clear hL hnw hown hgrow hat hlt
 generalize hkk:ks++[(colonM E.toks st).1]=kk2 at K2
 have HL2:Hid (kk2.length=ks.length+1):=Lib.hid (by rw [← hkk,List.length_append,(rfl:ks.length=ks.length)];rfl)
 have HK2:=Lib.hid hkk
 clear hkk
 have HM:=Lib.hid (HM2.out R2 _ K2.2.2.2.1)
 clear HM2 K1 K0
 go_wp2_with (go_at_call 141;refine HM.out.mono ?_)
 rintro e w3 ⟨rfl,hq,hkq⟩
 have K3:=K2.call hq hkq
 clear hq hkq HM
 have HM:=Lib.hid (HM3.out R2 _ K3.2.2.2.1)
 clear HM3 K2
 go_wp2_with (go_at_call 88;refine HM.out.mono ?_)
 rintro e w4 ⟨rfl,hq,hkq⟩
 have K4:=K3.call hq hkq
 clear hq hkq HM
 clear K3
 have hL:=K4.lit (.cells #[.int .i64 (baseM E.toks st).1] 3)
 have hnw:=heap_alloc_new w4 (.cells #[.int .i64 (baseM E.toks st).1] 3)
 go_wp2_with (at_builtin;refine wpList_append_lies _ rfl _ _ 81 rfl W0.heap.size 3 i0 (.int .i64 0) 1 8 Tryz.underlying81 hi hz0 hz1 hz2 rfl (by decide) _ (ks.length+1) _ rfl (hL.row HL2.out) ⟨w4.heap.size,0,none⟩ 1 1 [.int .i64 (baseM E.toks st).1] rfl rfl ?c1 ?c2 ?c3 ?c4 ?c5 ?c6 _ rfl ?_)
 case c1=>exact World.news_of_block (cs:=#[.int .i64 (baseM E.toks st).1]) (t:=3) (fr:=(0,0)) hnw
 case c2=>simp [Value.oneCell']
 case c3=>omega
 case c4=>unfold maxLen;omega
 case c5=>omega
 case c6=>exact hL.2.2.2.2.size
 intro g5 cap5 w5 hown hgrow hat hlt
 obtain ⟨R5,K5⟩:=hL.app (news:=[(baseM E.toks st).1]) (n:=ks.length+1+1) hB (by rw [List.length_append,HL2.out];rfl) hown hgrow hat (by simp) hlt
 clear hL hnw hown hgrow hat hlt
 generalize hkk:kk2++[(baseM E.toks st).1]=kk5 at K5
 have HL5:Hid (kk5.length=ks.length+1+1):=Lib.hid (by rw [← hkk,List.length_append,HL2.out];rfl)
 have HK5:=Lib.hid hkk
 clear hkk
 clear K4
 have H5:Hid (kk5=ks++[(colonM E.toks st).1,(baseM E.toks st).1]):=Lib.hid (by rw [← HK5.out,← HK2.out];simp)
 by_cases hf:(baseM E.toks st).2.fE=0
 ·have HO:=Lib.hid (ok_yes { E with R:=R5 } (baseM E.toks st).2 hf _ K5.2.2.2.1)
  by_cases hx:nextF E.toks (baseM E.toks st).2 [[123]]=true
  ·have h:=H0.out
   unfold typedM at h
   rw [if_pos ⟨hf,hx⟩] at h
   obtain ⟨n,h1,h⟩:=Option.bind_eq_some_iff.1 h
   obtain rfl:=Option.some.inj h
   have hn:=HN.out
   unfold clauseM at h1
   obtain ⟨f,h2,h1⟩:=Option.bind_eq_some_iff.1 h1
   obtain rfl:=Option.some.inj h1
   rw [hc3] at hn
   have m3:=nodes_le (nodeM_ext _ _ _) hn
   have m2':(setC f.2 false).nodes.length+1≤1099511627776:=nodes_le (mustM_ext E.toks [[125]] (setC f.2 false)) m3
   have m2:f.2.nodes.length+1≤1099511627776:=m2'
   have m1':(setC (leafM E.toks (baseM E.toks st).2).2 true).nodes.length+1≤1099511627776:=nodes_le (run_ext _ _ _ _ _ _ h2) m2
   have m1:(leafM E.toks (baseM E.toks st).2).2.nodes.length+1≤1099511627776:=m1'
   have HX:=Lib.hid (fun w hp=>next_is { E with R:=R5 } hE ⟨#[123]⟩ (baseM E.toks st).2 true hx w hp)
   have HLf:=Lib.hid (fun w hp=>pleaf_any { E with R:=R5 } (baseM E.toks st).2 w hp hE.1 hE.2.1 n3)
   have HEx:=Lib.hid (fun w hp=>allT { E with R:=R5 } hE g (.expr 1) (setC (leafM E.toks (baseM E.toks st).2).2 true) f w h2 hp m2 (by show 1≤_;omega))
   have HMu:=Lib.hid (fun w hp=>must_one { E with R:=R5 } hE ⟨#[125]⟩ (setC f.2 false) w hp m2)
   have HNo:=Lib.hid (fun w hp=>node_lit { E with R:=R5 } 6 [(leafM E.toks (baseM E.toks st).2).1,f.1,(mustM E.toks [[125]] (setC f.2 false)).1] 3 _ (mustM E.toks [[125]] (setC f.2 false)).2 w hp rfl rfl (by omega) m3)
   clear h2 hn m1 m2 m1' m2' m3 n3 hf hx H0 HN
   go_wp2_with (go_at_call 83;refine HO.out.mono ?_)
   rintro e w6 ⟨rfl,hq,hkq⟩
   have K6:=K5.call hq hkq
   clear hq hkq HO K5
   go_wp2_with (go_at_call 138;refine (HX.out _ K6.2.2.2.1).mono ?_)
   rintro e w7 ⟨rfl,hq,hkq⟩
   have K7:=K6.call hq hkq
   clear hq hkq HX K6
   obtain ⟨d0,_,_,_,_,_⟩:=PW.cells K7.2.2.2.1
   go_wp2_with (go_at_call 140;refine (HLf.out _ K7.2.2.2.1).mono ?_)
   rintro e w8 ⟨rfl,hq,hkq⟩
   have K8:=K7.call hq hkq
   clear hq hkq HLf K7 d0
   obtain ⟨hm8,hkm8⟩:=PW.mark K8.2.2.2.1 true
   have hz8:w8.frozen? ⟨E.pb,2,none⟩=false:=(PW.cells K8.2.2.2.1).2.2.2.2.2 2
   have c8:=(PW.cells K8.2.2.2.1).2.2.1
   have K9:=K8.call hm8 hkm8
   have HEY:=Lib.hid (HEx.out _ K9.2.2.2.1)
   clear hm8 hkm8 HEx K8
   go_wp2_with (go_at_call 125;refine HEY.out.mono ?_)
   rintro e w10 ⟨rfl,hq,hkq⟩
   have K10:=K9.call hq hkq
   clear hq hkq HEY K9 hz8 c8
   obtain ⟨hm10,hkm10⟩:=PW.mark K10.2.2.2.1 false
   have hz10:w10.frozen? ⟨E.pb,2,none⟩=false:=(PW.cells K10.2.2.2.1).2.2.2.2.2 2
   have c10:=(PW.cells K10.2.2.2.1).2.2.1
   have K11:=K10.call hm10 hkm10
   have hMV:=HMu.out _ K11.2.2.2.1
   rw [show (w10.setCell ⟨E.pb,2,none⟩ (.bool false)).heap.size=w10.heap.size by simp] at hMV
   have HMV:=Lib.hid hMV
   clear hMV
   clear hm10 hkm10 HMu K10
   go_wp2_with (go_at_call 141;refine HMV.out.mono ?_)
   rintro e w12 ⟨rfl,hq,hkq⟩
   have K12:=K11.call hq hkq
   clear hq hkq HMV K11 hz10 c10
   have HNV:=Lib.hid (HNo.out _ K12.2.2.2.1)
   clear HNo
   go_wp2_with (go_at_call 88;refine HNV.out.mono ?_)
   rintro e w13 ⟨rfl,hq,hkq⟩
   have K13:=K12.call hq hkq
   clear hq hkq HNV K12
   have hL:=K13.lit (.cells #[.int .i64 (nodeM 6 [(leafM E.toks (baseM E.toks st).2).1,f.1,(mustM E.toks [[125]] (setC f.2 false)).1] (mustM E.toks [[125]] (setC f.2 false)).2).1] 3)
   have hnw:=heap_alloc_new w13 (.cells #[.int .i64 (nodeM 6 [(leafM E.toks (baseM E.toks st).2).1,f.1,(mustM E.toks [[125]] (setC f.2 false)).1] (mustM E.toks [[125]] (setC f.2 false)).2).1] 3)
   go_wp2_with (at_builtin;refine wpList_append_lies _ rfl _ _ 81 rfl W0.heap.size 3 i0 (.int .i64 0) 1 8 Tryz.underlying81 hi hz0 hz1 hz2 rfl (by decide) _ (ks.length+1+1) _ rfl (hL.row HL5.out) ⟨w13.heap.size,0,none⟩ 1 1 [.int .i64 (nodeM 6 [(leafM E.toks (baseM E.toks st).2).1,f.1,(mustM E.toks [[125]] (setC f.2 false)).1] (mustM E.toks [[125]] (setC f.2 false)).2).1] rfl rfl ?c1 ?c2 ?c3 ?c4 ?c5 ?c6 _ rfl ?_)
   case c1=>exact World.news_of_block (cs:=#[.int .i64 (nodeM 6 [(leafM E.toks (baseM E.toks st).2).1,f.1,(mustM E.toks [[125]] (setC f.2 false)).1] (mustM E.toks [[125]] (setC f.2 false)).2).1]) (t:=3) (fr:=(0,0)) hnw
   case c2=>simp [Value.oneCell']
   case c3=>omega
   case c4=>unfold maxLen;omega
   case c5=>omega
   case c6=>exact hL.2.2.2.2.size
   intro g14 cap14 w14 hown hgrow hat hlt
   obtain ⟨R14,K14⟩:=hL.app (news:=[(nodeM 6 [(leafM E.toks (baseM E.toks st).2).1,f.1,(mustM E.toks [[125]] (setC f.2 false)).1] (mustM E.toks [[125]] (setC f.2 false)).2).1]) (n:=ks.length+1+1+1) hB (by rw [List.length_append,HL5.out];rfl) hown hgrow hat (by simp) hlt
   clear hL hnw hown hgrow hat hlt
   generalize hkk:kk5++[(nodeM 6 [(leafM E.toks (baseM E.toks st).2).1,f.1,(mustM E.toks [[125]] (setC f.2 false)).1] (mustM E.toks [[125]] (setC f.2 false)).2).1]=kk14 at K14
   have HL14:Hid (kk14.length=ks.length+1+1+1):=Lib.hid (by rw [← hkk,List.length_append,HL5.out];rfl)
   have HK14:=Lib.hid hkk
   clear hkk
   go_wp2
   go_ret
   have e14:=K14
   rw [← HK14.out,H5.out] at e14
   simp only [List.append_assoc,List.cons_append,List.nil_append] at e14
   refine ⟨.slice (some ⟨g14,0,none⟩) (ks.length+1+1+1) cap14,R14,rfl,?_⟩
   rw [hc3]
   exact e14
  ·have h:=H0.out
   unfold typedM at h
   rw [if_neg (fun q=>hx q.2)] at h
   obtain rfl:=Option.some.inj h
   have HX:=Lib.hid (fun w hp=>next_is { E with R:=R5 } hE ⟨#[123]⟩ (baseM E.toks st).2 false (eq_false_of_ne_true hx) w hp)
   clear n3 hf hx H0 HN
   go_wp2_with (go_at_call 83;refine HO.out.mono ?_)
   rintro e w6 ⟨rfl,hq,hkq⟩
   have K6:=K5.call hq hkq
   clear hq hkq HO K5
   go_wp2_with (go_at_call 138;refine (HX.out _ K6.2.2.2.1).mono ?_)
   rintro e w7 ⟨rfl,hq,hkq⟩
   have K7:=K6.call hq hkq
   clear hq hkq HX K6
   go_wp2
   go_ret
   rw [H5.out] at K7
   exact ⟨_,R5,rfl,K7⟩
 ·have h:=H0.out
  unfold typedM at h
  rw [if_neg (fun q=>hf q.1)] at h
  obtain rfl:=Option.some.inj h
  have HO:=Lib.hid (ok_no { E with R:=R5 } (baseM E.toks st).2 hf _ K5.2.2.2.1)
  clear n3 hf H0 HN
  go_wp2_with (go_at_call 83;refine HO.out.mono ?_)
  rintro e w6 ⟨rfl,hq,hkq⟩
  have K6:=K5.call hq hkq
  clear hq hkq HO K5
  go_wp2
  go_ret
  rw [H5.out] at K6
  exact ⟨_,R5,rfl,K6⟩
theorem param_any (E:PEnv)(hE:E.ok)(g:Nat)(st:PSt)(r:Int × PSt)(w:World)(h:paramM E.toks E.depth g st=some r)(hp:PW E st w)(hn:r.2.nodes.length+1≤1099511627776)(hcl:st.clause=false) :
  Calls Tryz.prog 143 #[.pointer (some ⟨E.pb,0,none⟩)] w (PPost E r w):=by
 unfold paramM at h
 obtain ⟨l,h1,h⟩:=Option.bind_eq_some_iff.1 h
 obtain rfl:=Option.some.inj h
 have n2:=nodes_le (nodeM_ext _ _ _) hn
 have n1:=nodes_le (typedM_ext h1) n2
 have n0:=nodes_le (kindM_ext _ _ _) n1
 have hll:l.1.length≤4:=by
  unfold typedM at h1
  split at h1
  ·obtain ⟨n,h2,h1⟩:=Option.bind_eq_some_iff.1 h1
   obtain rfl:=Option.some.inj h1
   simp
  ·obtain rfl:=Option.some.inj h1
   simp
 have HK:=Lib.hid (kind_any E hE 1 st w hp n0)
 have hc1:(kindM E.toks 1 st).2.clause=false:=by rw [(kindM_ext E.toks 1 st).2.2.1];exact hcl
 have HB:E.B≤w.heap.size:=hp.B_le
 have HT:=Lib.hid (fun W R v K=>typed_any E hE g w R v _ _ l W h1 K HB n2 hc1 (by simp))
 have HN:=Lib.hid (fun R w v hq hv=>pnode_any { E with R:=R } 4 v l.1 l.2 w hq hv (by omega) n2)
 clear n0 n1 n2 hn h1 h hc1
 go_enter Tryz.func143,Tryz.ntmps143
 go_wp2_with (go_at_call 89;refine HK.out.mono ?_)
 rintro e w1 ⟨rfl,hp1,hk1⟩
 have K1:=KRow.start (W0:=w) (kindM E.toks 1 st).1 hp1 hk1
 have HTy:=Lib.hid (HT.out _ _ _ K1)
 clear HT hp1 hk1 K1 HK
 go_wp2_with (go_at_call 144;refine HTy.out.mono ?_)
 rintro e w2 ⟨v,R2,rfl,K2⟩
 have HNo:=Lib.hid (HN.out R2 _ v K2.2.2.2.1 K2.node)
 clear HN HTy
 obtain ⟨ao,cap,rfl⟩:=own_form K2.1
 go_wp2_with (go_at_call 88;refine HNo.out.mono ?_)
 rintro e w3 ⟨rfl,hq,hkq⟩
 have K3:=K2.call hq hkq
 go_wp2
 go_ret
 exact ⟨rfl,PR.drop K3.2.2.2.1 K3.2.2.1,K3.2.2.2.2⟩
def slN:Value→Nat | .slice _ n _=>n|_=>0
theorem KRow.lift {E:PEnv}{W0 W1:World}{R:List Nat}{v:Value}{ks:List Int}{s:PSt}{w:World}(h:KRow E W1 R v ks s w)(hk:Kp E.B W0 W1):KRow E W0 R v ks s w:=by
 obtain ⟨h1,h2,h3,h4,h5⟩:=h
 refine ⟨⟨h1.1,?_⟩,h2,h3,h4,hk.trans h5⟩
 rcases h1.2 with hn|⟨g,cap,cur,hv,hg,hr⟩
 ·exact .inl hn
 ·exact .inr ⟨g,cap,cur,hv,Nat.le_trans hk.size hg,hr⟩
theorem KRow.none {E:PEnv}{w:World}{s:PSt}(hp:PW E s w):KRow E w E.R (.slice none 0 0) [] s w:=⟨World.ownsRow_nil _ _ _ _,fun b q=>by simp [Value.ownBlock] at q,fun _ q=>q,hp,Kp.refl _ _⟩
theorem next_at (E:PEnv)(hE:E.ok)(v:Value)(l:List (List UInt8))(st:PSt)(x:Bool)(hx:nextF E.toks st l=x)(w:World)(hp:PW E st w)(hv:StrsAt w v l)(hl:l.length≤1000) :
  Calls Tryz.prog 138 #[.pointer (some ⟨E.pb,0,none⟩),v] w (NPost E st x w):=by
 subst hx
 exact (next_any E v l st w hp hv hE.1 hE.2.1 hl).mono fun e w' ⟨he,hb⟩=>⟨he,hp.later hb,Kp.of hb hp.B_le⟩
def SevAt (E:PEnv)(one:PSt→Option (Int × PSt))(first:List (List UInt8))(most:Nat)(res:List Int × PSt)(w0:World)(kv:Value)(wr:World):Prop :=
 ∃ (r:Nat) (kids:List Int) (s:PSt) (R:List Nat),kids.length+r=most∧sevM E.toks one first r kids s=some res∧KRow E w0 R kv kids s wr∧s.clause=false∧(kids=[]→kv=.slice none 0 0)
def SvPost (E:PEnv)(W0:World)(r:List Int × PSt)(e:Ending)(w':World):Prop:=∃ v R,e=.returned v∧(r.1=[]→v=.slice none 0 0)∧KRow E W0 R v r.1 r.2 w'
theorem several_imports (E:PEnv)(hE:E.ok)(one:PSt→Option (Int × PSt))(first:List (List UInt8))(fa:Option Addr)(fc:Nat)(most:Nat)(hm:most≤1000)(st:PSt)(res:List Int × PSt)(w:World)(h:sevM E.toks one first most [] st=some res)(hp:PW E st w)(hn:res.2.nodes.length+1≤1099511627776)(hcl:st.clause=false)
  (hF:∀ wr,Kp E.B w wr→StrsAt wr (.slice fa first.length fc) first) (hfl:first.length≤1000) (hext:∀ s k,one s=some k→PExt s k.2)
  (hone:∀ (R:List Nat) (s:PSt) (k:Int × PSt) (w':World),s.clause=false→one s=some k→PR E R s w'→k.2.nodes.length+1≤1099511627776 →
   Calls Tryz.prog 86 #[.pointer (some ⟨E.pb,0,none⟩)] w' (PPost { E with R:=R } k w')) :
  Calls Tryz.prog 85 #[.pointer (some ⟨E.pb,0,none⟩),.int .i64 most,.func (.func 86) #[.pointer (some ⟨E.pb,0,none⟩)] #[],.slice fa first.length fc] w (SvPost E w res):=by
 obtain ⟨i0,hi,hz0,hz1,hz2⟩:=info_parts Tryz.infoInt
 have H0:=Lib.hid h
 have HONE:=Lib.hid hone
 have HEXT:=Lib.hid hext
 have HN:=Lib.hid hn
 have HE:=Lib.hid hE
 have HF:=Lib.hid hF
 have HFL:=Lib.hid hfl
 have HM:=Lib.hid hm
 clear hone hext h hn hF hE hfl hm
 go_enter Tryz.func85,Tryz.ntmps85
 go_wp2
 go_loopw [9] (fun kv wr=>SevAt E one first most res w kv wr) (fun kv _=>most - slN kv)
 case atStart=>exact ⟨most,[],st,E.R,by simp,H0.out,KRow.none hp,hcl,fun _=>rfl⟩
 case round =>
  obtain ⟨r,kids,s,R,hlen,hl,K0,hsc,hnil⟩:=hrel
  have HNIL:=Lib.hid hnil
  clear hnil
  obtain ⟨ao,cap,rfl⟩:=own_form K0.1
  have hBw:E.B≤w.heap.size:=hp.B_le
  have hm:=HM.out
  by_cases hf:s.fE=0
  ·have HO:=Lib.hid (ok_yes { E with R:=R } s hf _ K0.2.2.2.1)
   by_cases hx:nextF E.toks s first=true
   ·have HX:=Lib.hid (fun w hp hv=>next_at { E with R:=R } HE.out (.slice fa first.length fc) first s true hx w hp hv HFL.out)
    cases r with
    | zero =>
     rw [sevM,if_pos ⟨hf,hx⟩] at hl
     injection hl with hl
     have HFA:=Lib.hid (fun w hp=>pfail_any { E with R:=R } HE.out 15 s w hp)
     have HL:=Lib.hid hl
     have hkb:((kids.length:Int) == (most:Int))=true:=by rw [beq_iff_eq];omega
     have hkn:(kids.length == most)=true:=by rw [beq_iff_eq];omega
     clear hl hf hx hlen
     go_wp2_with (go_at_call 83;refine HO.out.mono ?_)
     rintro e w2 ⟨rfl,hq,hkq⟩
     have K2:=K0.call hq hkq
     clear hq hkq
     go_wp2_with (go_at_call 138;refine (HX.out _ K2.2.2.2.1 (HF.out _ K2.2.2.2.2)).mono ?_)
     rintro e w3 ⟨rfl,hq,hkq⟩
     have K3:=K2.call hq hkq
     clear hq hkq
     go_wp2_with (go_at_call 139;refine (HFA.out _ K3.2.2.2.1).mono ?_)
     rintro e w4 ⟨rfl,hq,hkq⟩
     have K4:=K3.call hq hkq
     clear hq hkq
     go_wp2
     go_ret
     have e4:=HL.out
     subst e4
     exact ⟨_,R,rfl,HNIL.out,K4⟩
    | succ r =>
     rw [sevM,if_pos ⟨hf,hx⟩] at hl
     obtain ⟨k,h1,hl⟩:=Option.bind_eq_some_iff.1 hl
     have hnk:k.2.nodes.length+1≤1099511627776:=nodes_le (sevM_ext HEXT.out _ _ _ _ hl) HN.out
     have HCK:Hid (k.2.clause=false):=Lib.hid (by rw [(HEXT.out s k h1).2.2.1];exact hsc)
     have HK:=Lib.hid (fun w' hp=>HONE.out R s k w' hsc h1 hp hnk)
     have HL:=Lib.hid hl
     have hkb:((kids.length:Int) == (most:Int))=false:=by rw [← Bool.not_eq_true,beq_iff_eq];omega
     have hkn:(kids.length == most)=false:=by rw [← Bool.not_eq_true,beq_iff_eq];omega
     have HLEN:=Lib.hid hlen
     have hkl:kids.length≤1000:=by omega
     clear hl h1 hf hx hlen hnk
     go_wp2_with (go_at_call 83;refine HO.out.mono ?_)
     rintro e w2 ⟨rfl,hq,hkq⟩
     have K2:=K0.call hq hkq
     clear hq hkq
     go_wp2_with (go_at_call 138;refine (HX.out _ K2.2.2.2.1 (HF.out _ K2.2.2.2.2)).mono ?_)
     rintro e w3 ⟨rfl,hq,hkq⟩
     have K3:=K2.call hq hkq
     clear hq hkq K2 K0
     go_wp2_with (go_at_call 86;refine (HK.out _ K3.2.2.2.1).mono ?_)
     rintro e w4 ⟨rfl,hq,hkq⟩
     have K4:=K3.call hq hkq
     clear hq hkq K3
     have hL:=K4.lit (.cells #[.int .i64 k.1] 3)
     have hnw:=heap_alloc_new w4 (.cells #[.int .i64 k.1] 3)
     go_wp2_with (at_builtin;refine wpList_append_lies _ rfl _ _ 81 rfl w.heap.size 3 i0 (.int .i64 0) 1 8 Tryz.underlying81 hi hz0 hz1 hz2 rfl (by decide) _ (kids.length) _ rfl hL.1 ⟨w4.heap.size,0,none⟩ 1 1 [.int .i64 k.1] rfl rfl ?c1 ?c2 ?c3 ?c4 ?c5 ?c6 _ rfl ?_)
     case c1=>exact World.news_of_block (cs:=#[.int .i64 k.1]) (t:=3) (fr:=(0,0)) hnw
     case c2=>simp [Value.oneCell']
     case c3=>omega
     case c4=>unfold maxLen;omega
     case c5=>omega
     case c6=>exact hL.2.2.2.2.size
     intro g5 cap5 w5 hown hgrow hat hlt
     obtain ⟨R5,K5⟩:=hL.app (news:=[k.1]) hBw (by simp) hown hgrow hat (by simp) hlt
     clear hL hnw hown hgrow hat hlt K4
     go_wp2
     go_roundw
     case rel=>exact ⟨r,kids++[k.1],k.2,R5,by have:=HLEN.out;simp;omega,HL.out,K5,HCK.out,fun q=>by simp at q⟩
     case measure=>have:=HLEN.out;simp [slN];omega
   ·have hl':(kids,s)=res:=by
     cases r with
     | zero=>rw [sevM,if_neg (fun q=>hx q.2)] at hl;injection hl
     | succ r=>rw [sevM,if_neg (fun q=>hx q.2)] at hl;injection hl
    have HX:=Lib.hid (fun w hp hv=>next_at { E with R:=R } HE.out (.slice fa first.length fc) first s false (eq_false_of_ne_true hx) w hp hv HFL.out)
    have HL:=Lib.hid hl'
    clear hl hl' hf hx hlen
    go_wp2_with (go_at_call 83;refine HO.out.mono ?_)
    rintro e w2 ⟨rfl,hq,hkq⟩
    have K2:=K0.call hq hkq
    clear hq hkq
    go_wp2_with (go_at_call 138;refine (HX.out _ K2.2.2.2.1 (HF.out _ K2.2.2.2.2)).mono ?_)
    rintro e w3 ⟨rfl,hq,hkq⟩
    have K3:=K2.call hq hkq
    clear hq hkq
    go_wp2
    go_ret
    have e4:=HL.out
    subst e4
    exact ⟨_,R,rfl,HNIL.out,K3⟩
  ·have HO:=Lib.hid (ok_no { E with R:=R } s hf _ K0.2.2.2.1)
   have hl':(kids,s)=res:=by
    cases r with
    | zero=>rw [sevM,if_neg (fun q=>hf q.1)] at hl;injection hl
    | succ r=>rw [sevM,if_neg (fun q=>hf q.1)] at hl;injection hl
   have HL:=Lib.hid hl'
   clear hl hl' hf hlen
   go_wp2_with (go_at_call 83;refine HO.out.mono ?_)
   rintro e w2 ⟨rfl,hq,hkq⟩
   have K2:=K0.call hq hkq
   clear hq hkq
   go_wp2
   go_ret
   have e4:=HL.out
   subst e4
   exact ⟨_,R,rfl,HNIL.out,K2⟩
theorem several_defs (E:PEnv)(hE:E.ok)(one:PSt→Option (Int × PSt))(first:List (List UInt8))(fa:Option Addr)(fc:Nat)(most:Nat)(hm:most≤1000)(st:PSt)(res:List Int × PSt)(w:World)(h:sevM E.toks one first most [] st=some res)(hp:PW E st w)(hn:res.2.nodes.length+1≤1099511627776)(hcl:st.clause=false)
  (hF:∀ wr,Kp E.B w wr→StrsAt wr (.slice fa first.length fc) first) (hfl:first.length≤1000) (hext:∀ s k,one s=some k→PExt s k.2)
  (hone:∀ (R:List Nat) (s:PSt) (k:Int × PSt) (w':World),s.clause=false→one s=some k→PR E R s w'→k.2.nodes.length+1≤1099511627776 →
   Calls Tryz.prog 87 #[.pointer (some ⟨E.pb,0,none⟩)] w' (PPost { E with R:=R } k w')) :
  Calls Tryz.prog 85 #[.pointer (some ⟨E.pb,0,none⟩),.int .i64 most,.func (.func 87) #[.pointer (some ⟨E.pb,0,none⟩)] #[],.slice fa first.length fc] w (SvPost E w res):=by
 obtain ⟨i0,hi,hz0,hz1,hz2⟩:=info_parts Tryz.infoInt
 have H0:=Lib.hid h
 have HONE:=Lib.hid hone
 have HEXT:=Lib.hid hext
 have HN:=Lib.hid hn
 have HE:=Lib.hid hE
 have HF:=Lib.hid hF
 have HFL:=Lib.hid hfl
 have HM:=Lib.hid hm
 clear hone hext h hn hF hE hfl hm
 go_enter Tryz.func85,Tryz.ntmps85
 go_wp2
 go_loopw [9] (fun kv wr=>SevAt E one first most res w kv wr) (fun kv _=>most - slN kv)
 case atStart=>exact ⟨most,[],st,E.R,by simp,H0.out,KRow.none hp,hcl,fun _=>rfl⟩
 case round =>
  obtain ⟨r,kids,s,R,hlen,hl,K0,hsc,hnil⟩:=hrel
  have HNIL:=Lib.hid hnil
  clear hnil
  obtain ⟨ao,cap,rfl⟩:=own_form K0.1
  have hBw:E.B≤w.heap.size:=hp.B_le
  have hm:=HM.out
  by_cases hf:s.fE=0
  ·have HO:=Lib.hid (ok_yes { E with R:=R } s hf _ K0.2.2.2.1)
   by_cases hx:nextF E.toks s first=true
   ·have HX:=Lib.hid (fun w hp hv=>next_at { E with R:=R } HE.out (.slice fa first.length fc) first s true hx w hp hv HFL.out)
    cases r with
    | zero =>
     rw [sevM,if_pos ⟨hf,hx⟩] at hl
     injection hl with hl
     have HFA:=Lib.hid (fun w hp=>pfail_any { E with R:=R } HE.out 15 s w hp)
     have HL:=Lib.hid hl
     have hkb:((kids.length:Int) == (most:Int))=true:=by rw [beq_iff_eq];omega
     have hkn:(kids.length == most)=true:=by rw [beq_iff_eq];omega
     clear hl hf hx hlen
     go_wp2_with (go_at_call 83;refine HO.out.mono ?_)
     rintro e w2 ⟨rfl,hq,hkq⟩
     have K2:=K0.call hq hkq
     clear hq hkq
     go_wp2_with (go_at_call 138;refine (HX.out _ K2.2.2.2.1 (HF.out _ K2.2.2.2.2)).mono ?_)
     rintro e w3 ⟨rfl,hq,hkq⟩
     have K3:=K2.call hq hkq
     clear hq hkq
     go_wp2_with (go_at_call 139;refine (HFA.out _ K3.2.2.2.1).mono ?_)
     rintro e w4 ⟨rfl,hq,hkq⟩
     have K4:=K3.call hq hkq
     clear hq hkq
     go_wp2
     go_ret
     have e4:=HL.out
     subst e4
     exact ⟨_,R,rfl,HNIL.out,K4⟩
    | succ r =>
     rw [sevM,if_pos ⟨hf,hx⟩] at hl
     obtain ⟨k,h1,hl⟩:=Option.bind_eq_some_iff.1 hl
     have hnk:k.2.nodes.length+1≤1099511627776:=nodes_le (sevM_ext HEXT.out _ _ _ _ hl) HN.out
     have HCK:Hid (k.2.clause=false):=Lib.hid (by rw [(HEXT.out s k h1).2.2.1];exact hsc)
     have HK:=Lib.hid (fun w' hp=>HONE.out R s k w' hsc h1 hp hnk)
     have HL:=Lib.hid hl
     have hkb:((kids.length:Int) == (most:Int))=false:=by rw [← Bool.not_eq_true,beq_iff_eq];omega
     have hkn:(kids.length == most)=false:=by rw [← Bool.not_eq_true,beq_iff_eq];omega
     have HLEN:=Lib.hid hlen
     have hkl:kids.length≤1000:=by omega
     clear hl h1 hf hx hlen hnk
     go_wp2_with (go_at_call 83;refine HO.out.mono ?_)
     rintro e w2 ⟨rfl,hq,hkq⟩
     have K2:=K0.call hq hkq
     clear hq hkq
     go_wp2_with (go_at_call 138;refine (HX.out _ K2.2.2.2.1 (HF.out _ K2.2.2.2.2)).mono ?_)
     rintro e w3 ⟨rfl,hq,hkq⟩
     have K3:=K2.call hq hkq
     clear hq hkq K2 K0
     go_wp2_with (go_at_call 87;refine (HK.out _ K3.2.2.2.1).mono ?_)
     rintro e w4 ⟨rfl,hq,hkq⟩
     have K4:=K3.call hq hkq
     clear hq hkq K3
     have hL:=K4.lit (.cells #[.int .i64 k.1] 3)
     have hnw:=heap_alloc_new w4 (.cells #[.int .i64 k.1] 3)
     go_wp2_with (at_builtin;refine wpList_append_lies _ rfl _ _ 81 rfl w.heap.size 3 i0 (.int .i64 0) 1 8 Tryz.underlying81 hi hz0 hz1 hz2 rfl (by decide) _ (kids.length) _ rfl hL.1 ⟨w4.heap.size,0,none⟩ 1 1 [.int .i64 k.1] rfl rfl ?c1 ?c2 ?c3 ?c4 ?c5 ?c6 _ rfl ?_)
     case c1=>exact World.news_of_block (cs:=#[.int .i64 k.1]) (t:=3) (fr:=(0,0)) hnw
     case c2=>simp [Value.oneCell']
     case c3=>omega
     case c4=>unfold maxLen;omega
     case c5=>omega
     case c6=>exact hL.2.2.2.2.size
     intro g5 cap5 w5 hown hgrow hat hlt
     obtain ⟨R5,K5⟩:=hL.app (news:=[k.1]) hBw (by simp) hown hgrow hat (by simp) hlt
     clear hL hnw hown hgrow hat hlt K4
     go_wp2
     go_roundw
     case rel=>exact ⟨r,kids++[k.1],k.2,R5,by have:=HLEN.out;simp;omega,HL.out,K5,HCK.out,fun q=>by simp at q⟩
     case measure=>have:=HLEN.out;simp [slN];omega
   ·have hl':(kids,s)=res:=by
     cases r with
     | zero=>rw [sevM,if_neg (fun q=>hx q.2)] at hl;injection hl
     | succ r=>rw [sevM,if_neg (fun q=>hx q.2)] at hl;injection hl
    have HX:=Lib.hid (fun w hp hv=>next_at { E with R:=R } HE.out (.slice fa first.length fc) first s false (eq_false_of_ne_true hx) w hp hv HFL.out)
    have HL:=Lib.hid hl'
    clear hl hl' hf hx hlen
    go_wp2_with (go_at_call 83;refine HO.out.mono ?_)
    rintro e w2 ⟨rfl,hq,hkq⟩
    have K2:=K0.call hq hkq
    clear hq hkq
    go_wp2_with (go_at_call 138;refine (HX.out _ K2.2.2.2.1 (HF.out _ K2.2.2.2.2)).mono ?_)
    rintro e w3 ⟨rfl,hq,hkq⟩
    have K3:=K2.call hq hkq
    clear hq hkq
    go_wp2
    go_ret
    have e4:=HL.out
    subst e4
    exact ⟨_,R,rfl,HNIL.out,K3⟩
  ·have HO:=Lib.hid (ok_no { E with R:=R } s hf _ K0.2.2.2.1)
   have hl':(kids,s)=res:=by
    cases r with
    | zero=>rw [sevM,if_neg (fun q=>hf q.1)] at hl;injection hl
    | succ r=>rw [sevM,if_neg (fun q=>hf q.1)] at hl;injection hl
   have HL:=Lib.hid hl'
   clear hl hl' hf hlen
   go_wp2_with (go_at_call 83;refine HO.out.mono ?_)
   rintro e w2 ⟨rfl,hq,hkq⟩
   have K2:=K0.call hq hkq
   clear hq hkq
   go_wp2
   go_ret
   have e4:=HL.out
   subst e4
   exact ⟨_,R,rfl,HNIL.out,K2⟩
end Go.Proofs.YtbodlpoomfefcaaGreatDoor
