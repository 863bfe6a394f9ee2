/- Walks and plain laws: ParseW7, ParseW8, ParseW9. -/
import Derived.Test.YtemkhbmkaalgdaaGreatDoorQ10
set_option maxHeartbeats 16000000
set_option maxRecDepth 100000
namespace Go.Proofs.YtemkhbmkaalgdaaGreatDoor
open Go.RowKit
theorem expr_step (E:PEnv)(hE:E.ok)(g:Nat)(ih:AllT E g)(nest:Nat)(st:PSt)(r:Int × PSt)(w:World)(h:run E.toks E.depth (g+1) (.expr nest) st=some r)(hw:PW E st w)(hn:r.2.nodes.length+1≤1099511627776)(_hnest:nest≤E.depth+1) :
  Calls Tryz.prog 68 #[.pointer (some ⟨E.pb,0,none⟩),.int .i64 nest] w (PPost E r w):=by
 have hdep:=hE.2.2
 have HD:=Lib.hid (deep_any E hE nest st w hw)
 have hnd:(deepM E.toks E.depth nest st).fE=0→nest≤E.depth:=fun q=>by
  unfold deepM at q
  split at q
  ·exact (failM_fE (by decide) _ q).elim
  ·omega
 rw [run] at h
 generalize deepM E.toks E.depth nest st=s at HD h hnd
 by_cases hf:s.fE=0
 ·rw [if_neg (by simp [hf])] at h
  have hnest2:=hnd hf
  have hok:okB s=true:=decide_eq_true hf
  have HD':Hid (Calls Tryz.prog 98 #[.pointer (some ⟨E.pb,0,none⟩),.int .i64 nest] w (NPost E s false w)):=Lib.hid (HD.out.mono fun e w' ⟨he,hp⟩=>⟨by rw [he,hok];rfl,hp⟩)
  clear HD hnd hok
  by_cases hcl:s.clause=true
  ·rw [if_pos hcl] at h
   have HI:=Lib.hid (fun w' hp=>ih _ _ _ w' h hp hn hnest2)
   clear h
   go_enter Tryz.func68,Tryz.ntmps68
   go_wp2_with (go_at_call 98;refine HD'.out.mono ?_)
   rintro e w1 ⟨rfl,hp1,hk1⟩
   obtain ⟨_,_,c2,_,_,_⟩:=hp1.cells
   rw [hcl] at c2
   clear hcl
   go_wp2_with (go_at_call 99;refine (HI.out _ hp1).mono ?_)
   rintro e w2 ⟨rfl,hp2,hk2⟩
   go_wp2
   go_ret
   exact ⟨rfl,hp2,hk1.trans hk2⟩
  ·rw [if_neg hcl] at h
   have hcl':s.clause=false:=by simpa using hcl
   clear hcl
   have hHI:∀ (t:Task) (st:PSt) (r:Int × PSt),run E.toks E.depth g t st=some r→r.2.nodes.length+1≤1099511627776→nestOk E t→∀ w,PW E st w→taskCalls E r w t:=fun t st r h1 h2 h3 w h4=>ih t st r w h1 h4 h2 h3
   have ex:=run_ext E.toks E.depth g
   have fin:∀ a b:PSt,PExt a b→b.nodes.length+1≤1099511627776→a.nodes.length+1≤1099511627776:=fun a b h1 h2=>by have:=h1.2.2.2;omega
   have N1:=Lib.hid (fun w hp=>next_one E hE ⟨#[108,101,116]⟩ s w hp)
   have N2:=Lib.hid (fun w hp=>next_one E hE ⟨#[105,102]⟩ s w hp)
   have N3:=Lib.hid (fun w hp=>next_one E hE ⟨#[97,115,115,101,114,116]⟩ s w hp)
   by_cases hl:nextF E.toks s [tLet]=true
   ·rw [if_pos hl] at h
    have e1:nextF E.toks s [(⟨#[108,101,116]⟩:ByteArray).data.toList]=true:=hl
    obtain ⟨d,h1,h⟩:=Option.bind_eq_some_iff.1 h
    obtain ⟨f,h2,h⟩:=Option.bind_eq_some_iff.1 h
    injection h with h;subst h
    have n6:=fin _ _ (nodeM_ext _ _ _) hn
    have n5:=fin _ _ (ex _ _ _ h2) n6
    have n4:=fin _ _ (mustM_ext _ _ _) n5
    have n3:=fin _ _ (ex _ _ _ h1) n4
    have n2:=fin _ _ (mustM_ext _ _ _) n3
    have n1:=fin _ _ (kindM_ext _ _ _) n2
    have n0:=fin _ _ (leafM_ext _ _) n1
    have C1:=Lib.hid (fun w hp=>pleaf_any E s w hp hE.1 hE.2.1 n0)
    have C2:=Lib.hid (fun w hp=>kind_any E hE 1 (leafM E.toks s).2 w hp n1)
    have C3:=Lib.hid (fun w hp=>must_one E hE ⟨#[61]⟩ (kindM E.toks 1 (leafM E.toks s).2).2 w hp n2)
    have C4:=Lib.hid (hHI _ _ _ h1 n4 (by show nest+1≤_;omega))
    have C5:=Lib.hid (fun w hp=>must_one E hE ⟨#[105,110]⟩ d.2 w hp n4)
    have C6:=Lib.hid (hHI _ _ _ h2 n6 (by show nest+1≤_;omega))
    have C7:=Lib.hid (fun w hp=>node_lit E 7 [(leafM E.toks s).1,(kindM E.toks 1 (leafM E.toks s).2).1,(mustM E.toks [[61]] (kindM E.toks 1 (leafM E.toks s).2).2).1,d.1,(mustM E.toks [tIn] d.2).1,f.1] 6 _ f.2 w hp rfl rfl (by omega) n6)
    have E1:=Lib.hid e1
    clear h1 h2 hl e1 n0 n1 n2 n3 n4 n5 n6 hHI ex fin ih hn
    go_enter Tryz.func68,Tryz.ntmps68
    go_wp2_with (go_at_call 98;refine HD'.out.mono ?_)
    rintro e w1 ⟨rfl,hp1,hk1⟩
    obtain ⟨_,_,c2,_,_,_⟩:=hp1.cells
    rw [hcl'] at c2
    go_wp2_with (go_at_call 82;refine (N1.out w1 hp1).mono ?_)
    rintro e w2 ⟨rfl,hp2,hk2⟩
    rw [E1.out]
    obtain ⟨d0,_,_,_,_,_⟩:=hp2.cells
    clear c2
    go_wp2_with (go_at_call 84;refine (C1.out w2 hp2).mono ?_)
    rintro e w3 ⟨rfl,hp3,hk3⟩
    go_wp2_with (go_at_call 61;refine (C2.out w3 hp3).mono ?_)
    rintro e w4 ⟨rfl,hp4,hk4⟩
    go_wp2_with (go_at_call 85;refine (C3.out w4 hp4).mono ?_)
    rintro e w5 ⟨rfl,hp5,hk5⟩
    go_wp2_with (go_at_call 68;refine (C4.out w5 hp5).mono ?_)
    rintro e w6 ⟨rfl,hp6,hk6⟩
    go_wp2_with (go_at_call 85;refine (C5.out w6 hp6).mono ?_)
    rintro e w7 ⟨rfl,hp7,hk7⟩
    go_wp2_with (go_at_call 68;refine (C6.out w7 hp7).mono ?_)
    rintro e w8 ⟨rfl,hp8,hk8⟩
    go_wp2_with (go_at_call 60;refine (C7.out w8 hp8).mono ?_)
    rintro e w9 ⟨rfl,hp9,hk9⟩
    go_wp2
    go_ret
    exact ⟨rfl,hp9,((((((hk1.trans hk2).trans hk3).trans hk4).trans hk5).trans hk6).trans hk7).trans (hk8.trans hk9)⟩
   ·rw [if_neg hl] at h
    have e1:nextF E.toks s [(⟨#[108,101,116]⟩:ByteArray).data.toList]=false:=eq_false_of_ne_true hl
    clear hl
    by_cases hi:nextF E.toks s [tIf]=true
    ·rw [if_pos hi] at h
     have e2:nextF E.toks s [(⟨#[105,102]⟩:ByteArray).data.toList]=true:=hi
     obtain ⟨b,h0,h⟩:=Option.bind_eq_some_iff.1 h
     obtain ⟨d,h1,h⟩:=Option.bind_eq_some_iff.1 h
     obtain ⟨f,h2,h⟩:=Option.bind_eq_some_iff.1 h
     injection h with h;subst h
     have n6:=fin _ _ (nodeM_ext _ _ _) hn
     have n5:=fin _ _ (ex _ _ _ h2) n6
     have n4:=fin _ _ (mustM_ext _ _ _) n5
     have n3:=fin _ _ (ex _ _ _ h1) n4
     have n2:=fin _ _ (mustM_ext _ _ _) n3
     have n1:=fin _ _ (ex _ _ _ h0) n2
     have n0:=fin _ _ (leafM_ext _ _) n1
     have C1:=Lib.hid (fun w hp=>pleaf_any E s w hp hE.1 hE.2.1 n0)
     have C2:=Lib.hid (hHI _ _ _ h0 n2 (by show nest+1≤_;omega))
     have C3:=Lib.hid (fun w hp=>must_one E hE ⟨#[116,104,101,110]⟩ b.2 w hp n2)
     have C4:=Lib.hid (hHI _ _ _ h1 n4 (by show nest+1≤_;omega))
     have C5:=Lib.hid (fun w hp=>must_one E hE ⟨#[101,108,115,101]⟩ d.2 w hp n4)
     have C6:=Lib.hid (hHI _ _ _ h2 n6 (by show nest+1≤_;omega))
     have C7:=Lib.hid (fun w hp=>node_lit E 8 [(leafM E.toks s).1,b.1,(mustM E.toks [tThen] b.2).1,d.1,(mustM E.toks [tElse] d.2).1,f.1] 6 _ f.2 w hp rfl rfl (by omega) n6)
     have E1:=Lib.hid e1
     have E2:=Lib.hid e2
     clear h0 h1 h2 hi e1 e2 n0 n1 n2 n3 n4 n5 n6 hHI ex fin ih hn
     go_enter Tryz.func68,Tryz.ntmps68
     go_wp2_with (go_at_call 98;refine HD'.out.mono ?_)
     rintro e w1 ⟨rfl,hp1,hk1⟩
     obtain ⟨_,_,c2,_,_,_⟩:=hp1.cells
     rw [hcl'] at c2
     go_wp2_with (go_at_call 82;refine (N1.out w1 hp1).mono ?_)
     rintro e w2 ⟨rfl,hp2,hk2⟩
     rw [E1.out]
     obtain ⟨_,_,d2,_,_,_⟩:=hp2.cells
     rw [hcl'] at d2
     clear c2
     go_wp2_with (go_at_call 82;refine (N2.out w2 hp2).mono ?_)
     rintro e w3 ⟨rfl,hp3,hk3⟩
     rw [E2.out]
     obtain ⟨d0,_,_,_,_,_⟩:=hp3.cells
     clear d2
     go_wp2_with (go_at_call 84;refine (C1.out w3 hp3).mono ?_)
     rintro e w4 ⟨rfl,hp4,hk4⟩
     go_wp2_with (go_at_call 68;refine (C2.out w4 hp4).mono ?_)
     rintro e w5 ⟨rfl,hp5,hk5⟩
     go_wp2_with (go_at_call 85;refine (C3.out w5 hp5).mono ?_)
     rintro e w6 ⟨rfl,hp6,hk6⟩
     go_wp2_with (go_at_call 68;refine (C4.out w6 hp6).mono ?_)
     rintro e w7 ⟨rfl,hp7,hk7⟩
     go_wp2_with (go_at_call 85;refine (C5.out w7 hp7).mono ?_)
     rintro e w8 ⟨rfl,hp8,hk8⟩
     go_wp2_with (go_at_call 68;refine (C6.out w8 hp8).mono ?_)
     rintro e w9 ⟨rfl,hp9,hk9⟩
     go_wp2_with (go_at_call 60;refine (C7.out w9 hp9).mono ?_)
     rintro e w10 ⟨rfl,hp10,hk10⟩
     go_wp2
     go_ret
     exact ⟨rfl,hp10,((((((((hk1.trans hk2).trans hk3).trans hk4).trans hk5).trans hk6).trans hk7).trans hk8).trans hk9).trans hk10⟩
    ·rw [if_neg hi] at h
     have e2:nextF E.toks s [(⟨#[105,102]⟩:ByteArray).data.toList]=false:=eq_false_of_ne_true hi
     clear hi
     by_cases ha:nextF E.toks s [tAssert]=true
     ·rw [if_pos ha] at h
      have e3:nextF E.toks s [(⟨#[97,115,115,101,114,116]⟩:ByteArray).data.toList]=true:=ha
      obtain ⟨b,h0,h⟩:=Option.bind_eq_some_iff.1 h
      obtain ⟨d,h1,h⟩:=Option.bind_eq_some_iff.1 h
      injection h with h;subst h
      have n4:=fin _ _ (nodeM_ext _ _ _) hn
      have n3:=fin _ _ (ex _ _ _ h1) n4
      have n2:=fin _ _ (mustM_ext _ _ _) n3
      have n1:=fin _ _ (ex _ _ _ h0) n2
      have n0:=fin _ _ (leafM_ext _ _) n1
      have C1:=Lib.hid (fun w hp=>pleaf_any E s w hp hE.1 hE.2.1 n0)
      have C2:=Lib.hid (hHI _ _ _ h0 n2 (by show nest+1≤_;omega))
      have C3:=Lib.hid (fun w hp=>must_one E hE ⟨#[105,110]⟩ b.2 w hp n2)
      have C4:=Lib.hid (hHI _ _ _ h1 n4 (by show nest+1≤_;omega))
      have C5:=Lib.hid (fun w hp=>node_lit E 9 [(leafM E.toks s).1,b.1,(mustM E.toks [tIn] b.2).1,d.1] 4 _ d.2 w hp rfl rfl (by omega) n4)
      have E1:=Lib.hid e1
      have E2:=Lib.hid e2
      have E3:=Lib.hid e3
      clear h0 h1 ha e1 e2 e3 n0 n1 n2 n3 n4 hHI ex fin ih hn
      go_enter Tryz.func68,Tryz.ntmps68
      go_wp2_with (go_at_call 98;refine HD'.out.mono ?_)
      rintro e w1 ⟨rfl,hp1,hk1⟩
      obtain ⟨_,_,c2,_,_,_⟩:=hp1.cells
      rw [hcl'] at c2
      go_wp2_with (go_at_call 82;refine (N1.out w1 hp1).mono ?_)
      rintro e w2 ⟨rfl,hp2,hk2⟩
      rw [E1.out]
      go_wp2_with (go_at_call 82;refine (N2.out w2 hp2).mono ?_)
      rintro e w3 ⟨rfl,hp3,hk3⟩
      rw [E2.out]
      go_wp2_with (go_at_call 82;refine (N3.out w3 hp3).mono ?_)
      rintro e w4 ⟨rfl,hp4,hk4⟩
      rw [E3.out]
      obtain ⟨d0,_,_,_,_,_⟩:=hp4.cells
      clear c2
      go_wp2_with (go_at_call 84;refine (C1.out w4 hp4).mono ?_)
      rintro e w5 ⟨rfl,hp5,hk5⟩
      go_wp2_with (go_at_call 68;refine (C2.out w5 hp5).mono ?_)
      rintro e w6 ⟨rfl,hp6,hk6⟩
      go_wp2_with (go_at_call 85;refine (C3.out w6 hp6).mono ?_)
      rintro e w7 ⟨rfl,hp7,hk7⟩
      go_wp2_with (go_at_call 68;refine (C4.out w7 hp7).mono ?_)
      rintro e w8 ⟨rfl,hp8,hk8⟩
      go_wp2_with (go_at_call 60;refine (C5.out w8 hp8).mono ?_)
      rintro e w9 ⟨rfl,hp9,hk9⟩
      go_wp2
      go_ret
      exact ⟨rfl,hp9,(((((((hk1.trans hk2).trans hk3).trans hk4).trans hk5).trans hk6).trans hk7).trans hk8).trans hk9⟩
     ·rw [if_neg ha] at h
      have e3:nextF E.toks s [(⟨#[97,115,115,101,114,116]⟩:ByteArray).data.toList]=false:=eq_false_of_ne_true ha
      have HI:=Lib.hid (hHI _ _ _ h hn hnest2)
      have E1:=Lib.hid e1
      have E2:=Lib.hid e2
      have E3:=Lib.hid e3
      clear h ha e1 e2 e3 hHI ex fin ih hn
      go_enter Tryz.func68,Tryz.ntmps68
      go_wp2_with (go_at_call 98;refine HD'.out.mono ?_)
      rintro e w1 ⟨rfl,hp1,hk1⟩
      obtain ⟨_,_,c2,_,_,_⟩:=hp1.cells
      rw [hcl'] at c2
      go_wp2_with (go_at_call 82;refine (N1.out w1 hp1).mono ?_)
      rintro e w2 ⟨rfl,hp2,hk2⟩
      rw [E1.out]
      go_wp2_with (go_at_call 82;refine (N2.out w2 hp2).mono ?_)
      rintro e w3 ⟨rfl,hp3,hk3⟩
      rw [E2.out]
      go_wp2_with (go_at_call 82;refine (N3.out w3 hp3).mono ?_)
      rintro e w4 ⟨rfl,hp4,hk4⟩
      rw [E3.out]
      go_wp2_with (go_at_call 99;refine (HI.out w4 hp4).mono ?_)
      rintro e w5 ⟨rfl,hp5,hk5⟩
      go_wp2
      go_ret
      exact ⟨rfl,hp5,(((hk1.trans hk2).trans hk3).trans hk4).trans hk5⟩
 ·rw [if_pos hf] at h
  injection h with h
  subst h
  have hok:okB s=false:=decide_eq_false hf
  have HD':Hid (Calls Tryz.prog 98 #[.pointer (some ⟨E.pb,0,none⟩),.int .i64 nest] w (NPost E s true w)):=Lib.hid (HD.out.mono fun e w' ⟨he,hp⟩=>⟨by rw [he,hok];rfl,hp⟩)
  clear HD hnd hok hf
  go_enter Tryz.func68,Tryz.ntmps68
  go_wp2_with (go_at_call 98;refine HD'.out.mono ?_)
  rintro e w1 ⟨rfl,hp1,hk1⟩
  go_wp2
  go_ret
  exact ⟨rfl,hp1,hk1⟩
theorem ok_yes (E:PEnv)(st:PSt)(hf:st.fE=0)(w:World)(h:PW E st w):Calls Tryz.prog 55 #[.pointer (some ⟨E.pb,0,none⟩)] w (NPost E st true w) :=
 (ok_any E st w h).mono fun e w' ⟨he,hw⟩=>by subst hw;exact ⟨by rw [he,show okB st=true from decide_eq_true hf],h,Kp.refl _ _⟩
theorem ok_no (E:PEnv)(st:PSt)(hf:st.fE≠0)(w:World)(h:PW E st w):Calls Tryz.prog 55 #[.pointer (some ⟨E.pb,0,none⟩)] w (NPost E st false w) :=
 (ok_any E st w h).mono fun e w' ⟨he,hw⟩=>by subst hw;exact ⟨by rw [he,show okB st=false from decide_eq_false hf],h,Kp.refl _ _⟩
theorem deep_no (E:PEnv)(hE:E.ok)(nest:Nat)(st:PSt)(hf:(deepM E.toks E.depth nest st).fE=0)(w:World)(h:PW E st w) :
  Calls Tryz.prog 98 #[.pointer (some ⟨E.pb,0,none⟩),.int .i64 nest] w (NPost E (deepM E.toks E.depth nest st) false w) :=
 (deep_any E hE nest st w h).mono fun e w' ⟨he,hp⟩=>⟨by rw [he,show okB _=true from decide_eq_true hf];rfl,hp⟩
theorem deep_yes (E:PEnv)(hE:E.ok)(nest:Nat)(st:PSt)(hf:(deepM E.toks E.depth nest st).fE≠0)(w:World)(h:PW E st w) :
  Calls Tryz.prog 98 #[.pointer (some ⟨E.pb,0,none⟩),.int .i64 nest] w (NPost E (deepM E.toks E.depth nest st) true w) :=
 (deep_any E hE nest st w h).mono fun e w' ⟨he,hp⟩=>⟨by rw [he,show okB _=false from decide_eq_false hf];rfl,hp⟩
theorem deep_nest (E:PEnv)(nest:Nat)(st:PSt)(hf:(deepM E.toks E.depth nest st).fE=0):nest≤E.depth:=by
 unfold deepM at hf
 split at hf
 ·exact (failM_fE (by decide) _ hf).elim
 ·omega
theorem nodes_le {a b:PSt}(h1:PExt a b)(h2:b.nodes.length+1≤1099511627776):a.nodes.length+1≤1099511627776:=by have:=h1.2.2.2;omega
theorem next_is (E:PEnv)(hE:E.ok)(b:ByteArray)(st:PSt)(x:Bool)(hx:nextF E.toks st [b.data.toList]=x)(w:World)(h:PW E st w) :
  Calls Tryz.prog 82 #[.pointer (some ⟨E.pb,0,none⟩),.slice (some ⟨w.heap.size,0,none⟩) 1 1] (w.alloc (.cells #[.string b] 9)) (NPost E st x w):=by
 subst hx;exact next_one E hE b st w h
theorem formula_step (E:PEnv)(hE:E.ok)(g:Nat)(ih:AllT E g)(nest:Nat)(st:PSt)(r:Int × PSt)(w:World)(h:run E.toks E.depth (g+1) (.formula nest) st=some r)(hp:PW E st w)(hn:r.2.nodes.length+1≤1099511627776)(hnest:nest≤E.depth) :
  Calls Tryz.prog 99 #[.pointer (some ⟨E.pb,0,none⟩),.int .i64 nest] w (PPost E r w):=by
 have hdep:=hE.2.2
 have hHI:∀ (t:Task) (st:PSt) (r:Int × PSt),run E.toks E.depth g t st=some r→r.2.nodes.length+1≤1099511627776→nestOk E t→∀ w,PW E st w→taskCalls E r w t:=fun t st r h1 h2 h3 w h4=>ih t st r w h1 h4 h2 h3
 have ex:=run_ext E.toks E.depth g
 rw [run] at h
 obtain ⟨a,h0,h⟩:=Option.bind_eq_some_iff.1 h
 by_cases hf:a.2.fE=0
 ·by_cases hx:nextF E.toks a.2 [[61,62]]=true
  ·rw [if_pos ⟨hf,hx⟩] at h
   by_cases hd:(deepM E.toks E.depth (nest+1) (leafM E.toks a.2).2).fE=0
   ·rw [if_neg (by simp [hd])] at h
    obtain ⟨b,h1,h⟩:=Option.bind_eq_some_iff.1 h
    injection h with h;subst h
    have n4:=nodes_le (nodeM_ext _ _ _) hn
    have n3:=nodes_le (ex _ _ _ h1) n4
    have n2:=nodes_le (deepM_ext _ _ _ _) n3
    have n1:=nodes_le (leafM_ext _ _) n2
    have HR:=Lib.hid (hHI _ _ _ h0 n1 ⟨by decide,hnest⟩)
    have HO:=Lib.hid (ok_yes E a.2 hf)
    have HX:=Lib.hid (next_is E hE ⟨#[61,62]⟩ a.2 true hx)
    have HL:=Lib.hid (fun w hp=>pleaf_any E a.2 w hp hE.1 hE.2.1 n1)
    have HD:=Lib.hid (deep_no E hE (nest+1) _ hd)
    have HF:=Lib.hid (hHI _ _ _ h1 n4 (deep_nest E _ _ hd))
    have HN:=Lib.hid (fun w hp=>node_lit E 10 [a.1,(leafM E.toks a.2).1,b.1] 3 _ b.2 w hp rfl rfl (by omega) n4)
    clear h0 h1 hf hx hd n1 n2 n3 n4 hHI ex ih hn
    go_enter Tryz.func99,Tryz.ntmps99
    go_wp2_with (go_at_call 128;refine (HR.out w hp).mono ?_)
    rintro e w1 ⟨rfl,hp1,hk1⟩
    go_wp2_with (go_at_call 55;refine (HO.out w1 hp1).mono ?_)
    rintro e w2 ⟨rfl,hp2,hk2⟩
    go_wp2_with (go_at_call 82;refine (HX.out w2 hp2).mono ?_)
    rintro e w3 ⟨rfl,hp3,hk3⟩
    obtain ⟨d0,_,_,_,_,_⟩:=hp3.cells
    go_wp2_with (go_at_call 84;refine (HL.out w3 hp3).mono ?_)
    rintro e w4 ⟨rfl,hp4,hk4⟩
    clear d0
    go_wp2_with (go_at_call 98;refine (HD.out w4 hp4).mono ?_)
    rintro e w5 ⟨rfl,hp5,hk5⟩
    go_wp2_with (go_at_call 99;refine (HF.out w5 hp5).mono ?_)
    rintro e w6 ⟨rfl,hp6,hk6⟩
    go_wp2_with (go_at_call 60;refine (HN.out w6 hp6).mono ?_)
    rintro e w7 ⟨rfl,hp7,hk7⟩
    go_wp2
    go_ret
    exact ⟨rfl,hp7,(((((hk1.trans hk2).trans hk3).trans hk4).trans hk5).trans hk6).trans hk7⟩
   ·rw [if_pos hd] at h
    injection h with h;subst h
    have n2:=nodes_le (deepM_ext _ _ _ _) hn
    have n1:=nodes_le (leafM_ext _ _) n2
    have HR:=Lib.hid (hHI _ _ _ h0 n1 ⟨by decide,hnest⟩)
    have HO:=Lib.hid (ok_yes E a.2 hf)
    have HX:=Lib.hid (next_is E hE ⟨#[61,62]⟩ a.2 true hx)
    have HL:=Lib.hid (fun w hp=>pleaf_any E a.2 w hp hE.1 hE.2.1 n1)
    have HD:=Lib.hid (deep_yes E hE (nest+1) _ hd)
    clear h0 hf hx hd n1 n2 hHI ex ih hn
    go_enter Tryz.func99,Tryz.ntmps99
    go_wp2_with (go_at_call 128;refine (HR.out w hp).mono ?_)
    rintro e w1 ⟨rfl,hp1,hk1⟩
    go_wp2_with (go_at_call 55;refine (HO.out w1 hp1).mono ?_)
    rintro e w2 ⟨rfl,hp2,hk2⟩
    go_wp2_with (go_at_call 82;refine (HX.out w2 hp2).mono ?_)
    rintro e w3 ⟨rfl,hp3,hk3⟩
    obtain ⟨d0,_,_,_,_,_⟩:=hp3.cells
    go_wp2_with (go_at_call 84;refine (HL.out w3 hp3).mono ?_)
    rintro e w4 ⟨rfl,hp4,hk4⟩
    clear d0
    go_wp2_with (go_at_call 98;refine (HD.out w4 hp4).mono ?_)
    rintro e w5 ⟨rfl,hp5,hk5⟩
    go_wp2
    go_ret
    exact ⟨rfl,hp5,(((hk1.trans hk2).trans hk3).trans hk4).trans hk5⟩
  ·rw [if_neg (fun q=>hx q.2)] at h
   injection h with h;subst h
   have HR:=Lib.hid (hHI _ _ _ h0 hn ⟨by decide,hnest⟩)
   have HO:=Lib.hid (ok_yes E a.2 hf)
   have HX:=Lib.hid (next_is E hE ⟨#[61,62]⟩ a.2 false (eq_false_of_ne_true hx))
   clear h0 hf hx hHI ex ih hn
   go_enter Tryz.func99,Tryz.ntmps99
   go_wp2_with (go_at_call 128;refine (HR.out w hp).mono ?_)
   rintro e w1 ⟨rfl,hp1,hk1⟩
   go_wp2_with (go_at_call 55;refine (HO.out w1 hp1).mono ?_)
   rintro e w2 ⟨rfl,hp2,hk2⟩
   go_wp2_with (go_at_call 82;refine (HX.out w2 hp2).mono ?_)
   rintro e w3 ⟨rfl,hp3,hk3⟩
   go_wp2
   go_ret
   exact ⟨rfl,hp3,(hk1.trans hk2).trans hk3⟩
 ·rw [if_neg (fun q=>hf q.1)] at h
  injection h with h;subst h
  have HR:=Lib.hid (hHI _ _ _ h0 hn ⟨by decide,hnest⟩)
  have HO:=Lib.hid (ok_no E a.2 hf)
  clear h0 hf hHI ex ih hn
  go_enter Tryz.func99,Tryz.ntmps99
  go_wp2_with (go_at_call 128;refine (HR.out w hp).mono ?_)
  rintro e w1 ⟨rfl,hp1,hk1⟩
  go_wp2_with (go_at_call 55;refine (HO.out w1 hp1).mono ?_)
  rintro e w2 ⟨rfl,hp2,hk2⟩
  go_wp2
  go_ret
  exact ⟨rfl,hp2,hk1.trans hk2⟩
theorem part_step (E:PEnv)(g:Nat)(ih:AllT E g)(l nest:Nat)(st:PSt)(r:Int × PSt)(w:World)(h:run E.toks E.depth (g+1) (.part l nest) st=some r)(hp:PW E st w)(hn:r.2.nodes.length+1≤1099511627776)(hnest:l≤4∧nest≤E.depth) :
  Calls Tryz.prog 146 #[.pointer (some ⟨E.pb,0,none⟩),.int .i64 l,.int .i64 nest] w (PPost E r w):=by
 have hHI:∀ (t:Task) (st:PSt) (r:Int × PSt),run E.toks E.depth g t st=some r→r.2.nodes.length+1≤1099511627776→nestOk E t→∀ w,PW E st w→taskCalls E r w t:=fun t st r h1 h2 h3 w h4=>ih t st r w h1 h4 h2 h3
 rw [run] at h
 obtain ⟨hl,hnest⟩:=hnest
 by_cases h1:l=1
 ·rw [if_pos h1] at h
  subst h1
  have HR:=Lib.hid (hHI _ _ _ h hn hnest)
  clear h hHI ih hn
  go_enter Tryz.func146,Tryz.ntmps146
  go_wp2_with (go_at_call 162;refine (HR.out w hp).mono ?_)
  rintro e w1 ⟨rfl,hp1,hk1⟩
  go_wp2
  go_ret
  exact ⟨rfl,hp1,hk1⟩
 ·rw [if_neg h1] at h
  by_cases h4:l=4
  ·rw [if_pos h4] at h
   subst h4
   have HR:=Lib.hid (hHI _ _ _ h hn hnest)
   clear h hHI ih hn h1
   go_enter Tryz.func146,Tryz.ntmps146
   go_wp2_with (go_at_call 163;refine (HR.out w hp).mono ?_)
   rintro e w1 ⟨rfl,hp1,hk1⟩
   go_wp2
   go_ret
   exact ⟨rfl,hp1,hk1⟩
  ·rw [if_neg h4] at h
   have HR:=Lib.hid (hHI _ _ _ h hn ⟨by omega,hnest⟩)
   clear h hHI ih hn
   have h023:l=0∨l=2∨l=3:=by omega
   rcases h023 with rfl|rfl|rfl
   ·clear h1 h4 hl
    go_enter Tryz.func146,Tryz.ntmps146
    go_wp2_with (go_at_call 128;refine (HR.out w hp).mono ?_)
    rintro e w1 ⟨rfl,hp1,hk1⟩
    go_wp2
    go_ret
    exact ⟨rfl,hp1,hk1⟩
   ·clear h1 h4 hl
    go_enter Tryz.func146,Tryz.ntmps146
    go_wp2_with (go_at_call 128;refine (HR.out w hp).mono ?_)
    rintro e w1 ⟨rfl,hp1,hk1⟩
    go_wp2
    go_ret
    exact ⟨rfl,hp1,hk1⟩
   ·clear h1 h4 hl
    go_enter Tryz.func146,Tryz.ntmps146
    go_wp2_with (go_at_call 128;refine (HR.out w hp).mono ?_)
    rintro e w1 ⟨rfl,hp1,hk1⟩
    go_wp2
    go_ret
    exact ⟨rfl,hp1,hk1⟩
theorem neg_unary (E:PEnv)(hE:E.ok)(nest:Nat)(st:PSt)(b:Int × PSt)(w:World)(hp:PW E st w)(n1:st.nodes.length+1≤1099511627776)(n4:b.2.nodes.length+1≤1099511627776)(hnest:nest≤E.depth)
  (hd:(deepM E.toks E.depth (nest+1) (leafM E.toks st).2).fE=0)
  (hb:∀ w,PW E (deepM E.toks E.depth (nest+1) (leafM E.toks st).2) w→Calls Tryz.prog 162 #[.pointer (some ⟨E.pb,0,none⟩),.int .i64 ((nest+1:Nat):Int)] w (PPost E b w)) :
  Calls Tryz.prog 171 #[.pointer (some ⟨E.pb,0,none⟩),.int .i64 nest,.func (.func 162) #[.pointer (some ⟨E.pb,0,none⟩)] #[]] w (PPost E (nodeM 11 [(leafM E.toks st).1,b.1] b.2) w):=by
 have hdep:=hE.2.2
 have HL:=Lib.hid (fun w hp=>pleaf_any E st w hp hE.1 hE.2.1 n1)
 have HD:=Lib.hid (deep_no E hE (nest+1) _ hd)
 have HF:=Lib.hid hb
 have HN:=Lib.hid (fun w hp=>node_lit E 11 [(leafM E.toks st).1,b.1] 2 _ b.2 w hp rfl rfl (by omega) n4)
 clear hd hb n1 n4
 go_enter Tryz.func171,Tryz.ntmps171
 obtain ⟨d0,_,_,_,_,_⟩:=hp.cells
 go_wp2_with (go_at_call 84;refine (HL.out w hp).mono ?_)
 rintro e w1 ⟨rfl,hp1,hk1⟩
 clear d0
 go_wp2_with (go_at_call 98;refine (HD.out w1 hp1).mono ?_)
 rintro e w2 ⟨rfl,hp2,hk2⟩
 go_wp2_with (go_at_call 162;refine (HF.out w2 hp2).mono ?_)
 rintro e w3 ⟨rfl,hp3,hk3⟩
 go_wp2_with (go_at_call 60;refine (HN.out w3 hp3).mono ?_)
 rintro e w4 ⟨rfl,hp4,hk4⟩
 go_wp2
 go_ret
 exact ⟨rfl,hp4,((hk1.trans hk2).trans hk3).trans hk4⟩
theorem neg_unary0 (E:PEnv)(hE:E.ok)(nest:Nat)(st:PSt)(w:World)(hp:PW E st w)(n1:st.nodes.length+1≤1099511627776)(hnest:nest≤E.depth)
  (hd:(deepM E.toks E.depth (nest+1) (leafM E.toks st).2).fE≠0) :
  Calls Tryz.prog 171 #[.pointer (some ⟨E.pb,0,none⟩),.int .i64 nest,.func (.func 162) #[.pointer (some ⟨E.pb,0,none⟩)] #[]] w (PPost E (0,deepM E.toks E.depth (nest+1) (leafM E.toks st).2) w):=by
 have hdep:=hE.2.2
 have HL:=Lib.hid (fun w hp=>pleaf_any E st w hp hE.1 hE.2.1 n1)
 have HD:=Lib.hid (deep_yes E hE (nest+1) _ hd)
 clear hd n1
 go_enter Tryz.func171,Tryz.ntmps171
 obtain ⟨d0,_,_,_,_,_⟩:=hp.cells
 go_wp2_with (go_at_call 84;refine (HL.out w hp).mono ?_)
 rintro e w1 ⟨rfl,hp1,hk1⟩
 clear d0
 go_wp2_with (go_at_call 98;refine (HD.out w1 hp1).mono ?_)
 rintro e w2 ⟨rfl,hp2,hk2⟩
 go_wp2
 go_ret
 exact ⟨rfl,hp2,hk1.trans hk2⟩
theorem neg_step (E:PEnv)(hE:E.ok)(g:Nat)(ih:AllT E g)(nest:Nat)(st:PSt)(r:Int × PSt)(w:World)(h:run E.toks E.depth (g+1) (.neg nest) st=some r)(hp:PW E st w)(hn:r.2.nodes.length+1≤1099511627776)(hnest:nest≤E.depth) :
  Calls Tryz.prog 162 #[.pointer (some ⟨E.pb,0,none⟩),.int .i64 nest] w (PPost E r w):=by
 have hdep:=hE.2.2
 have hHI:∀ (t:Task) (st:PSt) (r:Int × PSt),run E.toks E.depth g t st=some r→r.2.nodes.length+1≤1099511627776→nestOk E t→∀ w,PW E st w→taskCalls E r w t:=fun t st r h1 h2 h3 w h4=>ih t st r w h1 h4 h2 h3
 have ex:=run_ext E.toks E.depth g
 rw [run] at h
 by_cases hf:st.fE=0
 ·by_cases hx:nextF E.toks st [tNot]=true
  ·rw [if_pos ⟨hf,hx⟩] at h
   by_cases hd:(deepM E.toks E.depth (nest+1) (leafM E.toks st).2).fE=0
   ·rw [if_neg (by simp [hd])] at h
    obtain ⟨b,h1,h⟩:=Option.bind_eq_some_iff.1 h
    injection h with h;subst h
    have n4:=nodes_le (nodeM_ext _ _ _) hn
    have n3:=nodes_le (ex _ _ _ h1) n4
    have n2:=nodes_le (deepM_ext _ _ _ _) n3
    have n1:=nodes_le (leafM_ext _ _) n2
    have HO:=Lib.hid (ok_yes E st hf)
    have HX:=Lib.hid (next_is E hE ⟨#[110,111,116]⟩ st true hx)
    have HU:=Lib.hid (fun w hp=>neg_unary E hE nest st b w hp n1 n4 hnest hd (hHI _ _ _ h1 n4 (deep_nest E _ _ hd)))
    clear h1 hf hx hd n1 n2 n3 n4 hHI ex ih hn
    go_enter Tryz.func162,Tryz.ntmps162
    go_wp2_with (go_at_call 55;refine (HO.out w hp).mono ?_)
    rintro e w1 ⟨rfl,hp1,hk1⟩
    go_wp2_with (go_at_call 82;refine (HX.out w1 hp1).mono ?_)
    rintro e w2 ⟨rfl,hp2,hk2⟩
    go_wp2_with (go_at_call 171;refine (HU.out w2 hp2).mono ?_)
    rintro e w3 ⟨rfl,hp3,hk3⟩
    go_wp2
    go_ret
    exact ⟨rfl,hp3,(hk1.trans hk2).trans hk3⟩
   ·rw [if_pos hd] at h
    injection h with h;subst h
    have n2:=nodes_le (deepM_ext _ _ _ _) hn
    have n1:=nodes_le (leafM_ext _ _) n2
    have HO:=Lib.hid (ok_yes E st hf)
    have HX:=Lib.hid (next_is E hE ⟨#[110,111,116]⟩ st true hx)
    have HU:=Lib.hid (fun w hp=>neg_unary0 E hE nest st w hp n1 hnest hd)
    clear hf hx hd n1 n2 hHI ex ih hn
    go_enter Tryz.func162,Tryz.ntmps162
    go_wp2_with (go_at_call 55;refine (HO.out w hp).mono ?_)
    rintro e w1 ⟨rfl,hp1,hk1⟩
    go_wp2_with (go_at_call 82;refine (HX.out w1 hp1).mono ?_)
    rintro e w2 ⟨rfl,hp2,hk2⟩
    go_wp2_with (go_at_call 171;refine (HU.out w2 hp2).mono ?_)
    rintro e w3 ⟨rfl,hp3,hk3⟩
    go_wp2
    go_ret
    exact ⟨rfl,hp3,(hk1.trans hk2).trans hk3⟩
  ·rw [if_neg (fun q=>hx q.2)] at h
   have HO:=Lib.hid (ok_yes E st hf)
   have HX:=Lib.hid (next_is E hE ⟨#[110,111,116]⟩ st false (eq_false_of_ne_true hx))
   have HR:=Lib.hid (hHI _ _ _ h hn ⟨by decide,hnest⟩)
   clear h hf hx hHI ex ih hn
   go_enter Tryz.func162,Tryz.ntmps162
   go_wp2_with (go_at_call 55;refine (HO.out w hp).mono ?_)
   rintro e w1 ⟨rfl,hp1,hk1⟩
   go_wp2_with (go_at_call 82;refine (HX.out w1 hp1).mono ?_)
   rintro e w2 ⟨rfl,hp2,hk2⟩
   go_wp2_with (go_at_call 128;refine (HR.out w2 hp2).mono ?_)
   rintro e w3 ⟨rfl,hp3,hk3⟩
   go_wp2
   go_ret
   exact ⟨rfl,hp3,(hk1.trans hk2).trans hk3⟩
 ·rw [if_neg (fun q=>hf q.1)] at h
  have HO:=Lib.hid (ok_no E st hf)
  have HR:=Lib.hid (hHI _ _ _ h hn ⟨by decide,hnest⟩)
  clear h hf hHI ex ih hn
  go_enter Tryz.func162,Tryz.ntmps162
  go_wp2_with (go_at_call 55;refine (HO.out w hp).mono ?_)
  rintro e w1 ⟨rfl,hp1,hk1⟩
  go_wp2_with (go_at_call 128;refine (HR.out w1 hp1).mono ?_)
  rintro e w2 ⟨rfl,hp2,hk2⟩
  go_wp2
  go_ret
  exact ⟨rfl,hp2,hk1.trans hk2⟩
theorem factor_unary (E:PEnv)(hE:E.ok)(nest:Nat)(st:PSt)(b:Int × PSt)(w:World)(hp:PW E st w)(n1:st.nodes.length+1≤1099511627776)(n4:b.2.nodes.length+1≤1099511627776)(hnest:nest≤E.depth)
  (hd:(deepM E.toks E.depth (nest+1) (leafM E.toks st).2).fE=0)
  (hb:∀ w,PW E (deepM E.toks E.depth (nest+1) (leafM E.toks st).2) w→Calls Tryz.prog 163 #[.pointer (some ⟨E.pb,0,none⟩),.int .i64 ((nest+1:Nat):Int)] w (PPost E b w)) :
  Calls Tryz.prog 171 #[.pointer (some ⟨E.pb,0,none⟩),.int .i64 nest,.func (.func 163) #[.pointer (some ⟨E.pb,0,none⟩)] #[]] w (PPost E (nodeM 11 [(leafM E.toks st).1,b.1] b.2) w):=by
 have hdep:=hE.2.2
 have HL:=Lib.hid (fun w hp=>pleaf_any E st w hp hE.1 hE.2.1 n1)
 have HD:=Lib.hid (deep_no E hE (nest+1) _ hd)
 have HF:=Lib.hid hb
 have HN:=Lib.hid (fun w hp=>node_lit E 11 [(leafM E.toks st).1,b.1] 2 _ b.2 w hp rfl rfl (by omega) n4)
 clear hd hb n1 n4
 go_enter Tryz.func171,Tryz.ntmps171
 obtain ⟨d0,_,_,_,_,_⟩:=hp.cells
 go_wp2_with (go_at_call 84;refine (HL.out w hp).mono ?_)
 rintro e w1 ⟨rfl,hp1,hk1⟩
 clear d0
 go_wp2_with (go_at_call 98;refine (HD.out w1 hp1).mono ?_)
 rintro e w2 ⟨rfl,hp2,hk2⟩
 go_wp2_with (go_at_call 163;refine (HF.out w2 hp2).mono ?_)
 rintro e w3 ⟨rfl,hp3,hk3⟩
 go_wp2_with (go_at_call 60;refine (HN.out w3 hp3).mono ?_)
 rintro e w4 ⟨rfl,hp4,hk4⟩
 go_wp2
 go_ret
 exact ⟨rfl,hp4,((hk1.trans hk2).trans hk3).trans hk4⟩
theorem factor_unary0 (E:PEnv)(hE:E.ok)(nest:Nat)(st:PSt)(w:World)(hp:PW E st w)(n1:st.nodes.length+1≤1099511627776)(hnest:nest≤E.depth)
  (hd:(deepM E.toks E.depth (nest+1) (leafM E.toks st).2).fE≠0) :
  Calls Tryz.prog 171 #[.pointer (some ⟨E.pb,0,none⟩),.int .i64 nest,.func (.func 163) #[.pointer (some ⟨E.pb,0,none⟩)] #[]] w (PPost E (0,deepM E.toks E.depth (nest+1) (leafM E.toks st).2) w):=by
 have hdep:=hE.2.2
 have HL:=Lib.hid (fun w hp=>pleaf_any E st w hp hE.1 hE.2.1 n1)
 have HD:=Lib.hid (deep_yes E hE (nest+1) _ hd)
 clear hd n1
 go_enter Tryz.func171,Tryz.ntmps171
 obtain ⟨d0,_,_,_,_,_⟩:=hp.cells
 go_wp2_with (go_at_call 84;refine (HL.out w hp).mono ?_)
 rintro e w1 ⟨rfl,hp1,hk1⟩
 clear d0
 go_wp2_with (go_at_call 98;refine (HD.out w1 hp1).mono ?_)
 rintro e w2 ⟨rfl,hp2,hk2⟩
 go_wp2
 go_ret
 exact ⟨rfl,hp2,hk1.trans hk2⟩
theorem factor_step (E:PEnv)(hE:E.ok)(g:Nat)(ih:AllT E g)(nest:Nat)(st:PSt)(r:Int × PSt)(w:World)(h:run E.toks E.depth (g+1) (.factor nest) st=some r)(hp:PW E st w)(hn:r.2.nodes.length+1≤1099511627776)(hnest:nest≤E.depth) :
  Calls Tryz.prog 163 #[.pointer (some ⟨E.pb,0,none⟩),.int .i64 nest] w (PPost E r w):=by
 have hdep:=hE.2.2
 have hHI:∀ (t:Task) (st:PSt) (r:Int × PSt),run E.toks E.depth g t st=some r→r.2.nodes.length+1≤1099511627776→nestOk E t→∀ w,PW E st w→taskCalls E r w t:=fun t st r h1 h2 h3 w h4=>ih t st r w h1 h4 h2 h3
 have ex:=run_ext E.toks E.depth g
 rw [run] at h
 by_cases hf:st.fE=0
 ·by_cases hx:nextF E.toks st [[45]]=true
  ·rw [if_pos ⟨hf,hx⟩] at h
   by_cases hd:(deepM E.toks E.depth (nest+1) (leafM E.toks st).2).fE=0
   ·rw [if_neg (by simp [hd])] at h
    obtain ⟨b,h1,h⟩:=Option.bind_eq_some_iff.1 h
    injection h with h;subst h
    have n4:=nodes_le (nodeM_ext _ _ _) hn
    have n3:=nodes_le (ex _ _ _ h1) n4
    have n2:=nodes_le (deepM_ext _ _ _ _) n3
    have n1:=nodes_le (leafM_ext _ _) n2
    have HO:=Lib.hid (ok_yes E st hf)
    have HX:=Lib.hid (next_is E hE ⟨#[45]⟩ st true hx)
    have HU:=Lib.hid (fun w hp=>factor_unary E hE nest st b w hp n1 n4 hnest hd (hHI _ _ _ h1 n4 (deep_nest E _ _ hd)))
    clear h1 hf hx hd n1 n2 n3 n4 hHI ex ih hn
    go_enter Tryz.func163,Tryz.ntmps163
    go_wp2_with (go_at_call 55;refine (HO.out w hp).mono ?_)
    rintro e w1 ⟨rfl,hp1,hk1⟩
    go_wp2_with (go_at_call 82;refine (HX.out w1 hp1).mono ?_)
    rintro e w2 ⟨rfl,hp2,hk2⟩
    go_wp2_with (go_at_call 171;refine (HU.out w2 hp2).mono ?_)
    rintro e w3 ⟨rfl,hp3,hk3⟩
    go_wp2
    go_ret
    exact ⟨rfl,hp3,(hk1.trans hk2).trans hk3⟩
   ·rw [if_pos hd] at h
    injection h with h;subst h
    have n2:=nodes_le (deepM_ext _ _ _ _) hn
    have n1:=nodes_le (leafM_ext _ _) n2
    have HO:=Lib.hid (ok_yes E st hf)
    have HX:=Lib.hid (next_is E hE ⟨#[45]⟩ st true hx)
    have HU:=Lib.hid (fun w hp=>factor_unary0 E hE nest st w hp n1 hnest hd)
    clear hf hx hd n1 n2 hHI ex ih hn
    go_enter Tryz.func163,Tryz.ntmps163
    go_wp2_with (go_at_call 55;refine (HO.out w hp).mono ?_)
    rintro e w1 ⟨rfl,hp1,hk1⟩
    go_wp2_with (go_at_call 82;refine (HX.out w1 hp1).mono ?_)
    rintro e w2 ⟨rfl,hp2,hk2⟩
    go_wp2_with (go_at_call 171;refine (HU.out w2 hp2).mono ?_)
    rintro e w3 ⟨rfl,hp3,hk3⟩
    go_wp2
    go_ret
    exact ⟨rfl,hp3,(hk1.trans hk2).trans hk3⟩
  ·rw [if_neg (fun q=>hx q.2)] at h
   have HO:=Lib.hid (ok_yes E st hf)
   have HX:=Lib.hid (next_is E hE ⟨#[45]⟩ st false (eq_false_of_ne_true hx))
   have HR:=Lib.hid (hHI _ _ _ h hn hnest)
   clear h hf hx hHI ex ih hn
   go_enter Tryz.func163,Tryz.ntmps163
   go_wp2_with (go_at_call 55;refine (HO.out w hp).mono ?_)
   rintro e w1 ⟨rfl,hp1,hk1⟩
   go_wp2_with (go_at_call 82;refine (HX.out w1 hp1).mono ?_)
   rintro e w2 ⟨rfl,hp2,hk2⟩
   go_wp2_with (go_at_call 172;refine (HR.out w2 hp2).mono ?_)
   rintro e w3 ⟨rfl,hp3,hk3⟩
   go_wp2
   go_ret
   exact ⟨rfl,hp3,(hk1.trans hk2).trans hk3⟩
 ·rw [if_neg (fun q=>hf q.1)] at h
  have HO:=Lib.hid (ok_no E st hf)
  have HR:=Lib.hid (hHI _ _ _ h hn hnest)
  clear h hf hHI ex ih hn
  go_enter Tryz.func163,Tryz.ntmps163
  go_wp2_with (go_at_call 55;refine (HO.out w hp).mono ?_)
  rintro e w1 ⟨rfl,hp1,hk1⟩
  go_wp2_with (go_at_call 172;refine (HR.out w1 hp1).mono ?_)
  rintro e w2 ⟨rfl,hp2,hk2⟩
  go_wp2
  go_ret
  exact ⟨rfl,hp2,hk1.trans hk2⟩
end Go.Proofs.YtemkhbmkaalgdaaGreatDoor
