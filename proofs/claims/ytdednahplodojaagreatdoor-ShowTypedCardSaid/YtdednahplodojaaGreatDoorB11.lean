/- Walks and plain laws: ParseW8, ParseW9, ParseW10, ParseW11. -/
import Derived.Test.YtdednahplodojaaGreatDoorB10
import Derived.Deep.LoopGhost
set_option maxHeartbeats 16000000
set_option maxRecDepth 100000
set_option linter.unusedVariables false
set_option linter.unusedSimpArgs false
namespace Go.Proofs.YtdednahplodojaaGreatDoor
open Go.RowKit
theorem ok_yes (E:PEnv)(st:PSt)(hf:st.fE=0)(w:World)(h:PW E st w):Calls Tryz.prog 71 #[.pointer (some ⟨E.pb,0,none⟩)] w (NPost E st true w) :=
 (ok_any E st w h).mono fun e w' ⟨he,hw⟩=>by subst hw;exact ⟨by rw [he,show okB st=true from decide_eq_true hf],h,Kp.refl _ _⟩
theorem ok_no (E:PEnv)(st:PSt)(hf:st.fE≠0)(w:World)(h:PW E st w):Calls Tryz.prog 71 #[.pointer (some ⟨E.pb,0,none⟩)] w (NPost E st false w) :=
 (ok_any E st w h).mono fun e w' ⟨he,hw⟩=>by subst hw;exact ⟨by rw [he,show okB st=false from decide_eq_false hf],h,Kp.refl _ _⟩
theorem deep_no (E:PEnv)(hE:E.ok)(nest:Nat)(st:PSt)(hf:(deepM E.toks E.depth nest st).fE=0)(w:World)(h:PW E st w) :
  Calls Tryz.prog 143 #[.pointer (some ⟨E.pb,0,none⟩),.int .i64 nest] w (NPost E (deepM E.toks E.depth nest st) false w) :=
 (deep_any E hE nest st w h).mono fun e w' ⟨he,hp⟩=>⟨by rw [he,show okB _=true from decide_eq_true hf];rfl,hp⟩
theorem deep_yes (E:PEnv)(hE:E.ok)(nest:Nat)(st:PSt)(hf:(deepM E.toks E.depth nest st).fE≠0)(w:World)(h:PW E st w) :
  Calls Tryz.prog 143 #[.pointer (some ⟨E.pb,0,none⟩),.int .i64 nest] w (NPost E (deepM E.toks E.depth nest st) true w) :=
 (deep_any E hE nest st w h).mono fun e w' ⟨he,hp⟩=>⟨by rw [he,show okB _=false from decide_eq_false hf];rfl,hp⟩
theorem deep_nest (E:PEnv)(nest:Nat)(st:PSt)(hf:(deepM E.toks E.depth nest st).fE=0):nest≤E.depth:=by
 unfold deepM at hf
 split at hf
 ·exact (failM_fE (by decide) _ hf).elim
 ·omega
theorem nodes_le {a b:PSt}(h1:PExt a b)(h2:b.nodes.length+1≤1099511627776):a.nodes.length+1≤1099511627776:=by have:=h1.2.2.2;omega
theorem next_is (E:PEnv)(hE:E.ok)(b:ByteArray)(st:PSt)(x:Bool)(hx:nextF E.toks st [b.data.toList]=x)(w:World)(h:PW E st w) :
  Calls Tryz.prog 108 #[.pointer (some ⟨E.pb,0,none⟩),.slice (some ⟨w.heap.size,0,none⟩) 1 1] (w.alloc (.cells #[.string b] 9)) (NPost E st x w):=by
 subst hx;exact next_one E hE b st w h
theorem formula_step (E:PEnv)(hE:E.ok)(g:Nat)(ih:AllT E g)(nest:Nat)(st:PSt)(r:Int × PSt)(w:World)(h:run E.toks E.depth (g+1) (.formula nest) st=some r)(hp:PW E st w)(hn:r.2.nodes.length+1≤1099511627776)(hnest:nest≤E.depth) :
  Calls Tryz.prog 144 #[.pointer (some ⟨E.pb,0,none⟩),.int .i64 nest] w (PPost E r w):=by
 have hdep:=hE.2.2
 have hHI:∀ (t:Task) (st:PSt) (r:Int × PSt),run E.toks E.depth g t st=some r→r.2.nodes.length+1≤1099511627776→nestOk E t→∀ w,PW E st w→taskCalls E r w t:=fun t st r h1 h2 h3 w h4=>ih t st r w h1 h4 h2 h3
 have ex:=run_ext E.toks E.depth g
 rw [run] at h
 obtain ⟨a,h0,h⟩:=Option.bind_eq_some_iff.1 h
 by_cases hf:a.2.fE=0
 ·by_cases hx:nextF E.toks a.2 [[61,62]]=true
  ·rw [if_pos ⟨hf,hx⟩] at h
   by_cases hd:(deepM E.toks E.depth (nest+1) (leafM E.toks a.2).2).fE=0
   ·rw [if_neg (by simp [hd])] at h
    obtain ⟨b,h1,h⟩:=Option.bind_eq_some_iff.1 h
    injection h with h;subst h
    have n4:=nodes_le (nodeM_ext _ _ _) hn
    have n3:=nodes_le (ex _ _ _ h1) n4
    have n2:=nodes_le (deepM_ext _ _ _ _) n3
    have n1:=nodes_le (leafM_ext _ _) n2
    have HR:=Lib.hid (hHI _ _ _ h0 n1 ⟨by decide,hnest⟩)
    have HO:=Lib.hid (ok_yes E a.2 hf)
    have HX:=Lib.hid (next_is E hE ⟨#[61,62]⟩ a.2 true hx)
    have HL:=Lib.hid (fun w hp=>pleaf_any E a.2 w hp hE.1 hE.2.1 n1)
    have HD:=Lib.hid (deep_no E hE (nest+1) _ hd)
    have HF:=Lib.hid (hHI _ _ _ h1 n4 (deep_nest E _ _ hd))
    have HN:=Lib.hid (fun w hp=>node_lit E 10 [a.1,(leafM E.toks a.2).1,b.1] 3 _ b.2 w hp rfl rfl (by omega) n4)
    clear h0 h1 hf hx hd n1 n2 n3 n4 hHI ex ih hn
    go_enter Tryz.func144,Tryz.ntmps144
    go_wp2_with (go_at_call 175;refine (HR.out w hp).mono ?_)
    rintro e w1 ⟨rfl,hp1,hk1⟩
    go_wp2_with (go_at_call 71;refine (HO.out w1 hp1).mono ?_)
    rintro e w2 ⟨rfl,hp2,hk2⟩
    go_wp2_with (go_at_call 108;refine (HX.out w2 hp2).mono ?_)
    rintro e w3 ⟨rfl,hp3,hk3⟩
    obtain ⟨d0,_,_,_,_,_⟩:=hp3.cells
    go_wp2_with (go_at_call 110;refine (HL.out w3 hp3).mono ?_)
    rintro e w4 ⟨rfl,hp4,hk4⟩
    clear d0
    go_wp2_with (go_at_call 143;refine (HD.out w4 hp4).mono ?_)
    rintro e w5 ⟨rfl,hp5,hk5⟩
    go_wp2_with (go_at_call 144;refine (HF.out w5 hp5).mono ?_)
    rintro e w6 ⟨rfl,hp6,hk6⟩
    go_wp2_with (go_at_call 76;refine (HN.out w6 hp6).mono ?_)
    rintro e w7 ⟨rfl,hp7,hk7⟩
    go_wp2
    go_ret
    exact ⟨rfl,hp7,(((((hk1.trans hk2).trans hk3).trans hk4).trans hk5).trans hk6).trans hk7⟩
   ·rw [if_pos hd] at h
    injection h with h;subst h
    have n2:=nodes_le (deepM_ext _ _ _ _) hn
    have n1:=nodes_le (leafM_ext _ _) n2
    have HR:=Lib.hid (hHI _ _ _ h0 n1 ⟨by decide,hnest⟩)
    have HO:=Lib.hid (ok_yes E a.2 hf)
    have HX:=Lib.hid (next_is E hE ⟨#[61,62]⟩ a.2 true hx)
    have HL:=Lib.hid (fun w hp=>pleaf_any E a.2 w hp hE.1 hE.2.1 n1)
    have HD:=Lib.hid (deep_yes E hE (nest+1) _ hd)
    clear h0 hf hx hd n1 n2 hHI ex ih hn
    go_enter Tryz.func144,Tryz.ntmps144
    go_wp2_with (go_at_call 175;refine (HR.out w hp).mono ?_)
    rintro e w1 ⟨rfl,hp1,hk1⟩
    go_wp2_with (go_at_call 71;refine (HO.out w1 hp1).mono ?_)
    rintro e w2 ⟨rfl,hp2,hk2⟩
    go_wp2_with (go_at_call 108;refine (HX.out w2 hp2).mono ?_)
    rintro e w3 ⟨rfl,hp3,hk3⟩
    obtain ⟨d0,_,_,_,_,_⟩:=hp3.cells
    go_wp2_with (go_at_call 110;refine (HL.out w3 hp3).mono ?_)
    rintro e w4 ⟨rfl,hp4,hk4⟩
    clear d0
    go_wp2_with (go_at_call 143;refine (HD.out w4 hp4).mono ?_)
    rintro e w5 ⟨rfl,hp5,hk5⟩
    go_wp2
    go_ret
    exact ⟨rfl,hp5,(((hk1.trans hk2).trans hk3).trans hk4).trans hk5⟩
  ·rw [if_neg (fun q=>hx q.2)] at h
   injection h with h;subst h
   have HR:=Lib.hid (hHI _ _ _ h0 hn ⟨by decide,hnest⟩)
   have HO:=Lib.hid (ok_yes E a.2 hf)
   have HX:=Lib.hid (next_is E hE ⟨#[61,62]⟩ a.2 false (eq_false_of_ne_true hx))
   clear h0 hf hx hHI ex ih hn
   go_enter Tryz.func144,Tryz.ntmps144
   go_wp2_with (go_at_call 175;refine (HR.out w hp).mono ?_)
   rintro e w1 ⟨rfl,hp1,hk1⟩
   go_wp2_with (go_at_call 71;refine (HO.out w1 hp1).mono ?_)
   rintro e w2 ⟨rfl,hp2,hk2⟩
   go_wp2_with (go_at_call 108;refine (HX.out w2 hp2).mono ?_)
   rintro e w3 ⟨rfl,hp3,hk3⟩
   go_wp2
   go_ret
   exact ⟨rfl,hp3,(hk1.trans hk2).trans hk3⟩
 ·rw [if_neg (fun q=>hf q.1)] at h
  injection h with h;subst h
  have HR:=Lib.hid (hHI _ _ _ h0 hn ⟨by decide,hnest⟩)
  have HO:=Lib.hid (ok_no E a.2 hf)
  clear h0 hf hHI ex ih hn
  go_enter Tryz.func144,Tryz.ntmps144
  go_wp2_with (go_at_call 175;refine (HR.out w hp).mono ?_)
  rintro e w1 ⟨rfl,hp1,hk1⟩
  go_wp2_with (go_at_call 71;refine (HO.out w1 hp1).mono ?_)
  rintro e w2 ⟨rfl,hp2,hk2⟩
  go_wp2
  go_ret
  exact ⟨rfl,hp2,hk1.trans hk2⟩
theorem part_step (E:PEnv)(g:Nat)(ih:AllT E g)(l nest:Nat)(st:PSt)(r:Int × PSt)(w:World)(h:run E.toks E.depth (g+1) (.part l nest) st=some r)(hp:PW E st w)(hn:r.2.nodes.length+1≤1099511627776)(hnest:l≤4∧nest≤E.depth) :
  Calls Tryz.prog 197 #[.pointer (some ⟨E.pb,0,none⟩),.int .i64 l,.int .i64 nest] w (PPost E r w):=by
 have hHI:∀ (t:Task) (st:PSt) (r:Int × PSt),run E.toks E.depth g t st=some r→r.2.nodes.length+1≤1099511627776→nestOk E t→∀ w,PW E st w→taskCalls E r w t:=fun t st r h1 h2 h3 w h4=>ih t st r w h1 h4 h2 h3
 rw [run] at h
 obtain ⟨hl,hnest⟩:=hnest
 by_cases h1:l=1
 ·rw [if_pos h1] at h
  subst h1
  have HR:=Lib.hid (hHI _ _ _ h hn hnest)
  clear h hHI ih hn
  go_enter Tryz.func197,Tryz.ntmps197
  go_wp2_with (go_at_call 212;refine (HR.out w hp).mono ?_)
  rintro e w1 ⟨rfl,hp1,hk1⟩
  go_wp2
  go_ret
  exact ⟨rfl,hp1,hk1⟩
 ·rw [if_neg h1] at h
  by_cases h4:l=4
  ·rw [if_pos h4] at h
   subst h4
   have HR:=Lib.hid (hHI _ _ _ h hn hnest)
   clear h hHI ih hn h1
   go_enter Tryz.func197,Tryz.ntmps197
   go_wp2_with (go_at_call 213;refine (HR.out w hp).mono ?_)
   rintro e w1 ⟨rfl,hp1,hk1⟩
   go_wp2
   go_ret
   exact ⟨rfl,hp1,hk1⟩
  ·rw [if_neg h4] at h
   have HR:=Lib.hid (hHI _ _ _ h hn ⟨by omega,hnest⟩)
   clear h hHI ih hn
   have h023:l=0∨l=2∨l=3:=by omega
   rcases h023 with rfl|rfl|rfl
   ·clear h1 h4 hl
    go_enter Tryz.func197,Tryz.ntmps197
    go_wp2_with (go_at_call 175;refine (HR.out w hp).mono ?_)
    rintro e w1 ⟨rfl,hp1,hk1⟩
    go_wp2
    go_ret
    exact ⟨rfl,hp1,hk1⟩
   ·clear h1 h4 hl
    go_enter Tryz.func197,Tryz.ntmps197
    go_wp2_with (go_at_call 175;refine (HR.out w hp).mono ?_)
    rintro e w1 ⟨rfl,hp1,hk1⟩
    go_wp2
    go_ret
    exact ⟨rfl,hp1,hk1⟩
   ·clear h1 h4 hl
    go_enter Tryz.func197,Tryz.ntmps197
    go_wp2_with (go_at_call 175;refine (HR.out w hp).mono ?_)
    rintro e w1 ⟨rfl,hp1,hk1⟩
    go_wp2
    go_ret
    exact ⟨rfl,hp1,hk1⟩
theorem neg_unary (E:PEnv)(hE:E.ok)(nest:Nat)(st:PSt)(b:Int × PSt)(w:World)(hp:PW E st w)(n1:st.nodes.length+1≤1099511627776)(n4:b.2.nodes.length+1≤1099511627776)(hnest:nest≤E.depth)
  (hd:(deepM E.toks E.depth (nest+1) (leafM E.toks st).2).fE=0)
  (hb:∀ w,PW E (deepM E.toks E.depth (nest+1) (leafM E.toks st).2) w→Calls Tryz.prog 212 #[.pointer (some ⟨E.pb,0,none⟩),.int .i64 ((nest+1:Nat):Int)] w (PPost E b w)) :
  Calls Tryz.prog 219 #[.pointer (some ⟨E.pb,0,none⟩),.int .i64 nest,.func (.func 212) #[.pointer (some ⟨E.pb,0,none⟩)] #[]] w (PPost E (nodeM 11 [(leafM E.toks st).1,b.1] b.2) w):=by
 have hdep:=hE.2.2
 have HL:=Lib.hid (fun w hp=>pleaf_any E st w hp hE.1 hE.2.1 n1)
 have HD:=Lib.hid (deep_no E hE (nest+1) _ hd)
 have HF:=Lib.hid hb
 have HN:=Lib.hid (fun w hp=>node_lit E 11 [(leafM E.toks st).1,b.1] 2 _ b.2 w hp rfl rfl (by omega) n4)
 clear hd hb n1 n4
 go_enter Tryz.func219,Tryz.ntmps219
 obtain ⟨d0,_,_,_,_,_⟩:=hp.cells
 go_wp2_with (go_at_call 110;refine (HL.out w hp).mono ?_)
 rintro e w1 ⟨rfl,hp1,hk1⟩
 clear d0
 go_wp2_with (go_at_call 143;refine (HD.out w1 hp1).mono ?_)
 rintro e w2 ⟨rfl,hp2,hk2⟩
 go_wp2_with (go_at_call 212;refine (HF.out w2 hp2).mono ?_)
 rintro e w3 ⟨rfl,hp3,hk3⟩
 go_wp2_with (go_at_call 76;refine (HN.out w3 hp3).mono ?_)
 rintro e w4 ⟨rfl,hp4,hk4⟩
 go_wp2
 go_ret
 exact ⟨rfl,hp4,((hk1.trans hk2).trans hk3).trans hk4⟩
theorem neg_unary0 (E:PEnv)(hE:E.ok)(nest:Nat)(st:PSt)(w:World)(hp:PW E st w)(n1:st.nodes.length+1≤1099511627776)(hnest:nest≤E.depth)
  (hd:(deepM E.toks E.depth (nest+1) (leafM E.toks st).2).fE≠0) :
  Calls Tryz.prog 219 #[.pointer (some ⟨E.pb,0,none⟩),.int .i64 nest,.func (.func 212) #[.pointer (some ⟨E.pb,0,none⟩)] #[]] w (PPost E (0,deepM E.toks E.depth (nest+1) (leafM E.toks st).2) w):=by
 have hdep:=hE.2.2
 have HL:=Lib.hid (fun w hp=>pleaf_any E st w hp hE.1 hE.2.1 n1)
 have HD:=Lib.hid (deep_yes E hE (nest+1) _ hd)
 clear hd n1
 go_enter Tryz.func219,Tryz.ntmps219
 obtain ⟨d0,_,_,_,_,_⟩:=hp.cells
 go_wp2_with (go_at_call 110;refine (HL.out w hp).mono ?_)
 rintro e w1 ⟨rfl,hp1,hk1⟩
 clear d0
 go_wp2_with (go_at_call 143;refine (HD.out w1 hp1).mono ?_)
 rintro e w2 ⟨rfl,hp2,hk2⟩
 go_wp2
 go_ret
 exact ⟨rfl,hp2,hk1.trans hk2⟩
theorem neg_step (E:PEnv)(hE:E.ok)(g:Nat)(ih:AllT E g)(nest:Nat)(st:PSt)(r:Int × PSt)(w:World)(h:run E.toks E.depth (g+1) (.neg nest) st=some r)(hp:PW E st w)(hn:r.2.nodes.length+1≤1099511627776)(hnest:nest≤E.depth) :
  Calls Tryz.prog 212 #[.pointer (some ⟨E.pb,0,none⟩),.int .i64 nest] w (PPost E r w):=by
 have hdep:=hE.2.2
 have hHI:∀ (t:Task) (st:PSt) (r:Int × PSt),run E.toks E.depth g t st=some r→r.2.nodes.length+1≤1099511627776→nestOk E t→∀ w,PW E st w→taskCalls E r w t:=fun t st r h1 h2 h3 w h4=>ih t st r w h1 h4 h2 h3
 have ex:=run_ext E.toks E.depth g
 rw [run] at h
 by_cases hf:st.fE=0
 ·by_cases hx:nextF E.toks st [tNot]=true
  ·rw [if_pos ⟨hf,hx⟩] at h
   by_cases hd:(deepM E.toks E.depth (nest+1) (leafM E.toks st).2).fE=0
   ·rw [if_neg (by simp [hd])] at h
    obtain ⟨b,h1,h⟩:=Option.bind_eq_some_iff.1 h
    injection h with h;subst h
    have n4:=nodes_le (nodeM_ext _ _ _) hn
    have n3:=nodes_le (ex _ _ _ h1) n4
    have n2:=nodes_le (deepM_ext _ _ _ _) n3
    have n1:=nodes_le (leafM_ext _ _) n2
    have HO:=Lib.hid (ok_yes E st hf)
    have HX:=Lib.hid (next_is E hE ⟨#[110,111,116]⟩ st true hx)
    have HU:=Lib.hid (fun w hp=>neg_unary E hE nest st b w hp n1 n4 hnest hd (hHI _ _ _ h1 n4 (deep_nest E _ _ hd)))
    clear h1 hf hx hd n1 n2 n3 n4 hHI ex ih hn
    go_enter Tryz.func212,Tryz.ntmps212
    go_wp2_with (go_at_call 71;refine (HO.out w hp).mono ?_)
    rintro e w1 ⟨rfl,hp1,hk1⟩
    go_wp2_with (go_at_call 108;refine (HX.out w1 hp1).mono ?_)
    rintro e w2 ⟨rfl,hp2,hk2⟩
    go_wp2_with (go_at_call 219;refine (HU.out w2 hp2).mono ?_)
    rintro e w3 ⟨rfl,hp3,hk3⟩
    go_wp2
    go_ret
    exact ⟨rfl,hp3,(hk1.trans hk2).trans hk3⟩
   ·rw [if_pos hd] at h
    injection h with h;subst h
    have n2:=nodes_le (deepM_ext _ _ _ _) hn
    have n1:=nodes_le (leafM_ext _ _) n2
    have HO:=Lib.hid (ok_yes E st hf)
    have HX:=Lib.hid (next_is E hE ⟨#[110,111,116]⟩ st true hx)
    have HU:=Lib.hid (fun w hp=>neg_unary0 E hE nest st w hp n1 hnest hd)
    clear hf hx hd n1 n2 hHI ex ih hn
    go_enter Tryz.func212,Tryz.ntmps212
    go_wp2_with (go_at_call 71;refine (HO.out w hp).mono ?_)
    rintro e w1 ⟨rfl,hp1,hk1⟩
    go_wp2_with (go_at_call 108;refine (HX.out w1 hp1).mono ?_)
    rintro e w2 ⟨rfl,hp2,hk2⟩
    go_wp2_with (go_at_call 219;refine (HU.out w2 hp2).mono ?_)
    rintro e w3 ⟨rfl,hp3,hk3⟩
    go_wp2
    go_ret
    exact ⟨rfl,hp3,(hk1.trans hk2).trans hk3⟩
  ·rw [if_neg (fun q=>hx q.2)] at h
   have HO:=Lib.hid (ok_yes E st hf)
   have HX:=Lib.hid (next_is E hE ⟨#[110,111,116]⟩ st false (eq_false_of_ne_true hx))
   have HR:=Lib.hid (hHI _ _ _ h hn ⟨by decide,hnest⟩)
   clear h hf hx hHI ex ih hn
   go_enter Tryz.func212,Tryz.ntmps212
   go_wp2_with (go_at_call 71;refine (HO.out w hp).mono ?_)
   rintro e w1 ⟨rfl,hp1,hk1⟩
   go_wp2_with (go_at_call 108;refine (HX.out w1 hp1).mono ?_)
   rintro e w2 ⟨rfl,hp2,hk2⟩
   go_wp2_with (go_at_call 175;refine (HR.out w2 hp2).mono ?_)
   rintro e w3 ⟨rfl,hp3,hk3⟩
   go_wp2
   go_ret
   exact ⟨rfl,hp3,(hk1.trans hk2).trans hk3⟩
 ·rw [if_neg (fun q=>hf q.1)] at h
  have HO:=Lib.hid (ok_no E st hf)
  have HR:=Lib.hid (hHI _ _ _ h hn ⟨by decide,hnest⟩)
  clear h hf hHI ex ih hn
  go_enter Tryz.func212,Tryz.ntmps212
  go_wp2_with (go_at_call 71;refine (HO.out w hp).mono ?_)
  rintro e w1 ⟨rfl,hp1,hk1⟩
  go_wp2_with (go_at_call 175;refine (HR.out w1 hp1).mono ?_)
  rintro e w2 ⟨rfl,hp2,hk2⟩
  go_wp2
  go_ret
  exact ⟨rfl,hp2,hk1.trans hk2⟩
theorem factor_unary (E:PEnv)(hE:E.ok)(nest:Nat)(st:PSt)(b:Int × PSt)(w:World)(hp:PW E st w)(n1:st.nodes.length+1≤1099511627776)(n4:b.2.nodes.length+1≤1099511627776)(hnest:nest≤E.depth)
  (hd:(deepM E.toks E.depth (nest+1) (leafM E.toks st).2).fE=0)
  (hb:∀ w,PW E (deepM E.toks E.depth (nest+1) (leafM E.toks st).2) w→Calls Tryz.prog 213 #[.pointer (some ⟨E.pb,0,none⟩),.int .i64 ((nest+1:Nat):Int)] w (PPost E b w)) :
  Calls Tryz.prog 219 #[.pointer (some ⟨E.pb,0,none⟩),.int .i64 nest,.func (.func 213) #[.pointer (some ⟨E.pb,0,none⟩)] #[]] w (PPost E (nodeM 11 [(leafM E.toks st).1,b.1] b.2) w):=by
 have hdep:=hE.2.2
 have HL:=Lib.hid (fun w hp=>pleaf_any E st w hp hE.1 hE.2.1 n1)
 have HD:=Lib.hid (deep_no E hE (nest+1) _ hd)
 have HF:=Lib.hid hb
 have HN:=Lib.hid (fun w hp=>node_lit E 11 [(leafM E.toks st).1,b.1] 2 _ b.2 w hp rfl rfl (by omega) n4)
 clear hd hb n1 n4
 go_enter Tryz.func219,Tryz.ntmps219
 obtain ⟨d0,_,_,_,_,_⟩:=hp.cells
 go_wp2_with (go_at_call 110;refine (HL.out w hp).mono ?_)
 rintro e w1 ⟨rfl,hp1,hk1⟩
 clear d0
 go_wp2_with (go_at_call 143;refine (HD.out w1 hp1).mono ?_)
 rintro e w2 ⟨rfl,hp2,hk2⟩
 go_wp2_with (go_at_call 213;refine (HF.out w2 hp2).mono ?_)
 rintro e w3 ⟨rfl,hp3,hk3⟩
 go_wp2_with (go_at_call 76;refine (HN.out w3 hp3).mono ?_)
 rintro e w4 ⟨rfl,hp4,hk4⟩
 go_wp2
 go_ret
 exact ⟨rfl,hp4,((hk1.trans hk2).trans hk3).trans hk4⟩
theorem factor_unary0 (E:PEnv)(hE:E.ok)(nest:Nat)(st:PSt)(w:World)(hp:PW E st w)(n1:st.nodes.length+1≤1099511627776)(hnest:nest≤E.depth)
  (hd:(deepM E.toks E.depth (nest+1) (leafM E.toks st).2).fE≠0) :
  Calls Tryz.prog 219 #[.pointer (some ⟨E.pb,0,none⟩),.int .i64 nest,.func (.func 213) #[.pointer (some ⟨E.pb,0,none⟩)] #[]] w (PPost E (0,deepM E.toks E.depth (nest+1) (leafM E.toks st).2) w):=by
 have hdep:=hE.2.2
 have HL:=Lib.hid (fun w hp=>pleaf_any E st w hp hE.1 hE.2.1 n1)
 have HD:=Lib.hid (deep_yes E hE (nest+1) _ hd)
 clear hd n1
 go_enter Tryz.func219,Tryz.ntmps219
 obtain ⟨d0,_,_,_,_,_⟩:=hp.cells
 go_wp2_with (go_at_call 110;refine (HL.out w hp).mono ?_)
 rintro e w1 ⟨rfl,hp1,hk1⟩
 clear d0
 go_wp2_with (go_at_call 143;refine (HD.out w1 hp1).mono ?_)
 rintro e w2 ⟨rfl,hp2,hk2⟩
 go_wp2
 go_ret
 exact ⟨rfl,hp2,hk1.trans hk2⟩
theorem factor_step (E:PEnv)(hE:E.ok)(g:Nat)(ih:AllT E g)(nest:Nat)(st:PSt)(r:Int × PSt)(w:World)(h:run E.toks E.depth (g+1) (.factor nest) st=some r)(hp:PW E st w)(hn:r.2.nodes.length+1≤1099511627776)(hnest:nest≤E.depth) :
  Calls Tryz.prog 213 #[.pointer (some ⟨E.pb,0,none⟩),.int .i64 nest] w (PPost E r w):=by
 have hdep:=hE.2.2
 have hHI:∀ (t:Task) (st:PSt) (r:Int × PSt),run E.toks E.depth g t st=some r→r.2.nodes.length+1≤1099511627776→nestOk E t→∀ w,PW E st w→taskCalls E r w t:=fun t st r h1 h2 h3 w h4=>ih t st r w h1 h4 h2 h3
 have ex:=run_ext E.toks E.depth g
 rw [run] at h
 by_cases hf:st.fE=0
 ·by_cases hx:nextF E.toks st [[45]]=true
  ·rw [if_pos ⟨hf,hx⟩] at h
   by_cases hd:(deepM E.toks E.depth (nest+1) (leafM E.toks st).2).fE=0
   ·rw [if_neg (by simp [hd])] at h
    obtain ⟨b,h1,h⟩:=Option.bind_eq_some_iff.1 h
    injection h with h;subst h
    have n4:=nodes_le (nodeM_ext _ _ _) hn
    have n3:=nodes_le (ex _ _ _ h1) n4
    have n2:=nodes_le (deepM_ext _ _ _ _) n3
    have n1:=nodes_le (leafM_ext _ _) n2
    have HO:=Lib.hid (ok_yes E st hf)
    have HX:=Lib.hid (next_is E hE ⟨#[45]⟩ st true hx)
    have HU:=Lib.hid (fun w hp=>factor_unary E hE nest st b w hp n1 n4 hnest hd (hHI _ _ _ h1 n4 (deep_nest E _ _ hd)))
    clear h1 hf hx hd n1 n2 n3 n4 hHI ex ih hn
    go_enter Tryz.func213,Tryz.ntmps213
    go_wp2_with (go_at_call 71;refine (HO.out w hp).mono ?_)
    rintro e w1 ⟨rfl,hp1,hk1⟩
    go_wp2_with (go_at_call 108;refine (HX.out w1 hp1).mono ?_)
    rintro e w2 ⟨rfl,hp2,hk2⟩
    go_wp2_with (go_at_call 219;refine (HU.out w2 hp2).mono ?_)
    rintro e w3 ⟨rfl,hp3,hk3⟩
    go_wp2
    go_ret
    exact ⟨rfl,hp3,(hk1.trans hk2).trans hk3⟩
   ·rw [if_pos hd] at h
    injection h with h;subst h
    have n2:=nodes_le (deepM_ext _ _ _ _) hn
    have n1:=nodes_le (leafM_ext _ _) n2
    have HO:=Lib.hid (ok_yes E st hf)
    have HX:=Lib.hid (next_is E hE ⟨#[45]⟩ st true hx)
    have HU:=Lib.hid (fun w hp=>factor_unary0 E hE nest st w hp n1 hnest hd)
    clear hf hx hd n1 n2 hHI ex ih hn
    go_enter Tryz.func213,Tryz.ntmps213
    go_wp2_with (go_at_call 71;refine (HO.out w hp).mono ?_)
    rintro e w1 ⟨rfl,hp1,hk1⟩
    go_wp2_with (go_at_call 108;refine (HX.out w1 hp1).mono ?_)
    rintro e w2 ⟨rfl,hp2,hk2⟩
    go_wp2_with (go_at_call 219;refine (HU.out w2 hp2).mono ?_)
    rintro e w3 ⟨rfl,hp3,hk3⟩
    go_wp2
    go_ret
    exact ⟨rfl,hp3,(hk1.trans hk2).trans hk3⟩
  ·rw [if_neg (fun q=>hx q.2)] at h
   have HO:=Lib.hid (ok_yes E st hf)
   have HX:=Lib.hid (next_is E hE ⟨#[45]⟩ st false (eq_false_of_ne_true hx))
   have HR:=Lib.hid (hHI _ _ _ h hn hnest)
   clear h hf hx hHI ex ih hn
   go_enter Tryz.func213,Tryz.ntmps213
   go_wp2_with (go_at_call 71;refine (HO.out w hp).mono ?_)
   rintro e w1 ⟨rfl,hp1,hk1⟩
   go_wp2_with (go_at_call 108;refine (HX.out w1 hp1).mono ?_)
   rintro e w2 ⟨rfl,hp2,hk2⟩
   go_wp2_with (go_at_call 220;refine (HR.out w2 hp2).mono ?_)
   rintro e w3 ⟨rfl,hp3,hk3⟩
   go_wp2
   go_ret
   exact ⟨rfl,hp3,(hk1.trans hk2).trans hk3⟩
 ·rw [if_neg (fun q=>hf q.1)] at h
  have HO:=Lib.hid (ok_no E st hf)
  have HR:=Lib.hid (hHI _ _ _ h hn hnest)
  clear h hf hHI ex ih hn
  go_enter Tryz.func213,Tryz.ntmps213
  go_wp2_with (go_at_call 71;refine (HO.out w hp).mono ?_)
  rintro e w1 ⟨rfl,hp1,hk1⟩
  go_wp2_with (go_at_call 220;refine (HR.out w1 hp1).mono ?_)
  rintro e w2 ⟨rfl,hp2,hk2⟩
  go_wp2
  go_ret
  exact ⟨rfl,hp2,hk1.trans hk2⟩
def TPost (E:PEnv)(st:PSt)(t:Tok)(w:World)(e:Ending)(w':World):Prop:=e=.returned (.agg #[.int .i64 t.kind,.string ⟨t.lead.toArray⟩,.string ⟨t.text.toArray⟩,.int .i64 t.place])∧PW E st w'∧Kp E.B w w'
theorem peek_is (E:PEnv)(hE:E.ok)(st:PSt)(w:World)(h:PW E st w) :
  Calls Tryz.prog 116 #[.pointer (some ⟨E.bb,0,none⟩)] w (TPost E st (peekF E.toks st.used) w) :=
 (peek_any E.R E.B E.bb E.tv E.toks st.used st.nodes w h.2.1 h.2.2.1 hE.1 h.2.2.2.2.1 hE.2.1).mono fun _e _w' ⟨he,hb⟩=>⟨he,h.later hb,Kp.of hb h.B_le⟩
theorem next2_is (E:PEnv)(hE:E.ok)(b c:ByteArray)(st:PSt)(x:Bool)(hx:nextF E.toks st [b.data.toList,c.data.toList]=x)(w:World)(h:PW E st w) :
  Calls Tryz.prog 108 #[.pointer (some ⟨E.pb,0,none⟩),.slice (some ⟨w.heap.size,0,none⟩) 2 2] (w.alloc (.cells #[.string b,.string c] 9)) (NPost E st x w):=by
 subst hx;exact next_two E hE b c st w h
def TokAt (w:World)(b:Nat)(k:Nat):Prop:=∃ x y q:Value,w.heap[b]?=some (.cells #[.int .i64 k,x,y,q] 79)
theorem TokAt.kp {B:Nat}{w w':World}{b k:Nat}(h:TokAt w b k)(hk:Kp B w w'):TokAt w' b k:=by
 obtain ⟨x,y,q,h⟩:=h
 exact ⟨x,y,q,hk.2 _ _ _ _ h (by decide) (by decide) (by decide)⟩
theorem TokAt.cell {w:World}{b k:Nat}(h:TokAt w b k):w.cell? ⟨b,0,none⟩=some (.int .i64 k):=by
 obtain ⟨x,y,q,h⟩:=h
 rw [Lib.cell_of_heap h];rfl
theorem TokAt.new (w:World)(k:Nat)(x y q:Value):TokAt (w.alloc (.cells #[.int .i64 k,x,y,q] 79)) w.heap.size k:=⟨x,y,q,heap_alloc_new _ _⟩
theorem atom_step (E:PEnv)(hE:E.ok)(g:Nat)(ih:AllT E g)(nest:Nat)(st:PSt)(r:Int × PSt)(w:World)(h:run E.toks E.depth (g+1) (.atom nest) st=some r)(hp:PW E st w)(hn:r.2.nodes.length+1≤1099511627776)(hnest:nest≤E.depth) :
  Calls Tryz.prog 220 #[.pointer (some ⟨E.pb,0,none⟩),.int .i64 nest] w (PPost E r w):=by
 have hdep:=hE.2.2
 have hHI:∀ (t:Task) (st:PSt) (r:Int × PSt),run E.toks E.depth g t st=some r→r.2.nodes.length+1≤1099511627776→nestOk E t→∀ w,PW E st w→taskCalls E r w t:=fun t st r h1 h2 h3 w h4=>ih t st r w h1 h4 h2 h3
 have ex:=run_ext E.toks E.depth g
 rw [run] at h
 have hP:=peek_is E hE st
 generalize peekF E.toks st.used=t at hP h
 obtain ⟨k,x,y,q⟩:=t
 simp only at h
 have HP:=Lib.hid hP
 clear hP
 have tf:=tokField0
 by_cases hf:st.fE≠0
 ·rw [if_pos hf] at h
  injection h with h;subst h
  have HO:=Lib.hid (ok_no E st hf)
  clear hf hHI ex ih hn
  go_enter Tryz.func220,Tryz.ntmps220
  obtain ⟨d0,_,_,_,_,_⟩:=hp.cells
  go_wp2_with (go_at_call 116;refine (HP.out w hp).mono ?_)
  rintro e w0 ⟨rfl,hp0,hk0⟩
  clear d0
  have hT0:=TokAt.new w0 k (.string ⟨x.toArray⟩) (.string ⟨y.toArray⟩) (.int .i64 q)
  have hpA:=hp0.later (below_new w0 (.cells #[.int .i64 k,.string ⟨x.toArray⟩,.string ⟨y.toArray⟩,.int .i64 q] 79))
  have hkA:=hk0.trans (Kp.of (below_new w0 (.cells #[.int .i64 k,.string ⟨x.toArray⟩,.string ⟨y.toArray⟩,.int .i64 q] 79)) hp0.B_le)
  go_wp2_with (go_at_call 71;refine (HO.out _ hpA).mono ?_)
  rintro e w1 ⟨rfl,hp1,hk1⟩
  go_wp2
  go_ret
  exact ⟨rfl,hp1,hkA.trans hk1⟩
 rw [if_neg hf] at h
 have HO:=Lib.hid (ok_yes E st (by simpa using hf))
 clear hf
 by_cases hk3:k=3
 ·rw [if_pos hk3] at h
  injection h with h;subst h
  have n2:=nodes_le (nodeM_ext _ _ _) hn
  have n1:=nodes_le (leafM_ext _ _) n2
  have k3:((k:Int) == 3)=true:=by rw [beq_iff_eq];omega
  have HL:=Lib.hid (fun w hp=>pleaf_any E st w hp hE.1 hE.2.1 n1)
  have HN:=Lib.hid (fun w hp=>node_lit E 15 [(leafM E.toks st).1] 1 _ (leafM E.toks st).2 w hp rfl rfl (by omega) n2)
  clear n1 n2 hk3 hHI ex ih hn
  go_enter Tryz.func220,Tryz.ntmps220
  obtain ⟨d0,_,_,_,_,_⟩:=hp.cells
  go_wp2_with (go_at_call 116;refine (HP.out w hp).mono ?_)
  rintro e w0 ⟨rfl,hp0,hk0⟩
  clear d0
  have hT0:=TokAt.new w0 k (.string ⟨x.toArray⟩) (.string ⟨y.toArray⟩) (.int .i64 q)
  have hpA:=hp0.later (below_new w0 (.cells #[.int .i64 k,.string ⟨x.toArray⟩,.string ⟨y.toArray⟩,.int .i64 q] 79))
  have hkA:=hk0.trans (Kp.of (below_new w0 (.cells #[.int .i64 k,.string ⟨x.toArray⟩,.string ⟨y.toArray⟩,.int .i64 q] 79)) hp0.B_le)
  go_wp2_with (go_at_call 71;refine (HO.out _ hpA).mono ?_)
  rintro e w1 ⟨rfl,hp1,hk1⟩
  have hT1:=hT0.kp hk1
  have t1:=hT1.cell
  obtain ⟨d0,_,_,_,_,_⟩:=hp1.cells
  go_wp2_with (go_at_call 110;refine (HL.out w1 hp1).mono ?_)
  rintro e w2 ⟨rfl,hp2,hk2⟩
  clear d0
  go_wp2_with (go_at_call 76;refine (HN.out w2 hp2).mono ?_)
  rintro e w3 ⟨rfl,hp3,hk3⟩
  go_wp2
  go_ret
  exact ⟨rfl,hp3,((hkA.trans hk1).trans hk2).trans hk3⟩
 rw [if_neg hk3] at h
 have k3:((k:Int) == 3)=false:=by rw [← Bool.not_eq_true,beq_iff_eq];omega
 clear hk3
 by_cases hx1:nextF E.toks st [tTrue,tFalse]=true
 ·rw [if_pos hx1] at h
  injection h with h;subst h
  have n2:=nodes_le (nodeM_ext _ _ _) hn
  have n1:=nodes_le (leafM_ext _ _) n2
  have HX:=Lib.hid (next2_is E hE ⟨#[116,114,117,101]⟩ ⟨#[102,97,108,115,101]⟩ st true hx1)
  have HL:=Lib.hid (fun w hp=>pleaf_any E st w hp hE.1 hE.2.1 n1)
  have HN:=Lib.hid (fun w hp=>node_lit E 16 [(leafM E.toks st).1] 1 _ (leafM E.toks st).2 w hp rfl rfl (by omega) n2)
  clear n1 n2 hx1 hHI ex ih hn
  go_enter Tryz.func220,Tryz.ntmps220
  obtain ⟨d0,_,_,_,_,_⟩:=hp.cells
  go_wp2_with (go_at_call 116;refine (HP.out w hp).mono ?_)
  rintro e w0 ⟨rfl,hp0,hk0⟩
  clear d0
  have hT0:=TokAt.new w0 k (.string ⟨x.toArray⟩) (.string ⟨y.toArray⟩) (.int .i64 q)
  have hpA:=hp0.later (below_new w0 (.cells #[.int .i64 k,.string ⟨x.toArray⟩,.string ⟨y.toArray⟩,.int .i64 q] 79))
  have hkA:=hk0.trans (Kp.of (below_new w0 (.cells #[.int .i64 k,.string ⟨x.toArray⟩,.string ⟨y.toArray⟩,.int .i64 q] 79)) hp0.B_le)
  go_wp2_with (go_at_call 71;refine (HO.out _ hpA).mono ?_)
  rintro e w1 ⟨rfl,hp1,hk1⟩
  have hT1:=hT0.kp hk1
  have t1:=hT1.cell
  go_wp2_with (go_at_call 108;refine (HX.out w1 hp1).mono ?_)
  rintro e w2 ⟨rfl,hp2,hk2⟩
  clear t1
  obtain ⟨d0,_,_,_,_,_⟩:=hp2.cells
  go_wp2_with (go_at_call 110;refine (HL.out w2 hp2).mono ?_)
  rintro e w3 ⟨rfl,hp3,hk3⟩
  clear d0
  go_wp2_with (go_at_call 76;refine (HN.out w3 hp3).mono ?_)
  rintro e w4 ⟨rfl,hp4,hk4⟩
  go_wp2
  go_ret
  exact ⟨rfl,hp4,(((hkA.trans hk1).trans hk2).trans hk3).trans hk4⟩
 rw [if_neg hx1] at h
 have HX:=Lib.hid (next2_is E hE ⟨#[116,114,117,101]⟩ ⟨#[102,97,108,115,101]⟩ st false (eq_false_of_ne_true hx1))
 clear hx1
 by_cases hx2:st.clause=true∧nextF E.toks st [tRes]=true
 ·rw [if_pos hx2] at h
  injection h with h;subst h
  have n2:=nodes_le (nodeM_ext _ _ _) hn
  have n1:=nodes_le (leafM_ext _ _) n2
  have hc:=Lib.hid hx2.1
  have HR:=Lib.hid (next_is E hE ⟨#[114,101,115]⟩ st true hx2.2)
  have HL:=Lib.hid (fun w hp=>pleaf_any E st w hp hE.1 hE.2.1 n1)
  have HN:=Lib.hid (fun w hp=>node_lit E 17 [(leafM E.toks st).1] 1 _ (leafM E.toks st).2 w hp rfl rfl (by omega) n2)
  clear n1 n2 hx2 hHI ex ih hn
  go_enter Tryz.func220,Tryz.ntmps220
  obtain ⟨d0,_,_,_,_,_⟩:=hp.cells
  go_wp2_with (go_at_call 116;refine (HP.out w hp).mono ?_)
  rintro e w0 ⟨rfl,hp0,hk0⟩
  clear d0
  have hT0:=TokAt.new w0 k (.string ⟨x.toArray⟩) (.string ⟨y.toArray⟩) (.int .i64 q)
  have hpA:=hp0.later (below_new w0 (.cells #[.int .i64 k,.string ⟨x.toArray⟩,.string ⟨y.toArray⟩,.int .i64 q] 79))
  have hkA:=hk0.trans (Kp.of (below_new w0 (.cells #[.int .i64 k,.string ⟨x.toArray⟩,.string ⟨y.toArray⟩,.int .i64 q] 79)) hp0.B_le)
  go_wp2_with (go_at_call 71;refine (HO.out _ hpA).mono ?_)
  rintro e w1 ⟨rfl,hp1,hk1⟩
  have hT1:=hT0.kp hk1
  have t1:=hT1.cell
  go_wp2_with (go_at_call 108;refine (HX.out w1 hp1).mono ?_)
  rintro e w2 ⟨rfl,hp2,hk2⟩
  clear t1
  obtain ⟨_,_,c2,_,_,_⟩:=hp2.cells
  rw [hc.out] at c2
  go_wp2_with (go_at_call 108;refine (HR.out w2 hp2).mono ?_)
  rintro e w3 ⟨rfl,hp3,hk3⟩
  clear c2
  obtain ⟨d0,_,_,_,_,_⟩:=hp3.cells
  go_wp2_with (go_at_call 110;refine (HL.out w3 hp3).mono ?_)
  rintro e w4 ⟨rfl,hp4,hk4⟩
  clear d0
  go_wp2_with (go_at_call 76;refine (HN.out w4 hp4).mono ?_)
  rintro e w5 ⟨rfl,hp5,hk5⟩
  go_wp2
  go_ret
  exact ⟨rfl,hp5,((((hkA.trans hk1).trans hk2).trans hk3).trans hk4).trans hk5⟩
 rw [if_neg hx2] at h
 have HR:st.clause=true→Hid (∀ w,PW E st w→Calls Tryz.prog 108 #[.pointer (some ⟨E.pb,0,none⟩),.slice (some ⟨w.heap.size,0,none⟩) 1 1] (w.alloc (.cells #[.string ⟨#[114,101,115]⟩] 9)) (NPost E st false w)):=fun hc=>Lib.hid (next_is E hE ⟨#[114,101,115]⟩ st false (eq_false_of_ne_true fun q=>hx2 ⟨hc,q⟩))
 clear hx2
 by_cases hx3:nextF E.toks st [[40]]=true
 ·rw [if_pos hx3] at h
  obtain ⟨b,h1,h⟩:=Option.bind_eq_some_iff.1 h
  injection h with h;subst h
  have n4:=nodes_le (nodeM_ext _ _ _) hn
  have n3:=nodes_le (mustM_ext _ _ _) n4
  have n2:=nodes_le (ex _ _ _ h1) n3
  have n1:=nodes_le (leafM_ext _ _) n2
  have HY:=Lib.hid (next_is E hE ⟨#[40]⟩ st true hx3)
  have HL:=Lib.hid (fun w hp=>pleaf_any E st w hp hE.1 hE.2.1 n1)
  have HE:=Lib.hid (hHI _ _ _ h1 n3 (by show nest+1≤_;omega))
  have HM:=Lib.hid (fun w hp=>must_one E hE ⟨#[41]⟩ b.2 w hp n3)
  have HN:=Lib.hid (fun w hp=>node_lit E 12 [(leafM E.toks st).1,b.1,(mustM E.toks [[41]] b.2).1] 3 _ (mustM E.toks [[41]] b.2).2 w hp rfl rfl (by omega) n4)
  clear n1 n2 n3 n4 h1 hx3 hHI ex ih hn
  by_cases hcl:st.clause=true
  ·have HR:=HR hcl
   have hc:=Lib.hid hcl
   clear hcl
   go_enter Tryz.func220,Tryz.ntmps220
   obtain ⟨d0,_,_,_,_,_⟩:=hp.cells
   go_wp2_with (go_at_call 116;refine (HP.out w hp).mono ?_)
   rintro e w0 ⟨rfl,hp0,hk0⟩
   clear d0
   have hT0:=TokAt.new w0 k (.string ⟨x.toArray⟩) (.string ⟨y.toArray⟩) (.int .i64 q)
   have hpA:=hp0.later (below_new w0 (.cells #[.int .i64 k,.string ⟨x.toArray⟩,.string ⟨y.toArray⟩,.int .i64 q] 79))
   have hkA:=hk0.trans (Kp.of (below_new w0 (.cells #[.int .i64 k,.string ⟨x.toArray⟩,.string ⟨y.toArray⟩,.int .i64 q] 79)) hp0.B_le)
   go_wp2_with (go_at_call 71;refine (HO.out _ hpA).mono ?_)
   rintro e w1 ⟨rfl,hp1,hk1⟩
   have hT1:=hT0.kp hk1
   have t1:=hT1.cell
   go_wp2_with (go_at_call 108;refine (HX.out w1 hp1).mono ?_)
   rintro e w2 ⟨rfl,hp2,hk2⟩
   clear t1
   obtain ⟨_,_,c2,_,_,_⟩:=hp2.cells
   rw [hc.out] at c2
   go_wp2_with (go_at_call 108;refine (HR.out w2 hp2).mono ?_)
   rintro e w3 ⟨rfl,hp3,hk3⟩
   clear c2
   go_wp2_with (go_at_call 108;refine (HY.out w3 hp3).mono ?_)
   rintro e w4 ⟨rfl,hp4,hk4⟩
   obtain ⟨d0,_,_,_,_,_⟩:=hp4.cells
   go_wp2_with (go_at_call 110;refine (HL.out w4 hp4).mono ?_)
   rintro e w5 ⟨rfl,hp5,hk5⟩
   clear d0
   go_wp2_with (go_at_call 92;refine (HE.out w5 hp5).mono ?_)
   rintro e w6 ⟨rfl,hp6,hk6⟩
   go_wp2_with (go_at_call 111;refine (HM.out w6 hp6).mono ?_)
   rintro e w7 ⟨rfl,hp7,hk7⟩
   go_wp2_with (go_at_call 76;refine (HN.out w7 hp7).mono ?_)
   rintro e w8 ⟨rfl,hp8,hk8⟩
   go_wp2
   go_ret
   exact ⟨rfl,hp8,(((((((hkA.trans hk1).trans hk2).trans hk3).trans hk4).trans hk5).trans hk6).trans hk7).trans hk8⟩
  ·have hc:=Lib.hid (eq_false_of_ne_true hcl)
   clear hcl HR
   go_enter Tryz.func220,Tryz.ntmps220
   obtain ⟨d0,_,_,_,_,_⟩:=hp.cells
   go_wp2_with (go_at_call 116;refine (HP.out w hp).mono ?_)
   rintro e w0 ⟨rfl,hp0,hk0⟩
   clear d0
   have hT0:=TokAt.new w0 k (.string ⟨x.toArray⟩) (.string ⟨y.toArray⟩) (.int .i64 q)
   have hpA:=hp0.later (below_new w0 (.cells #[.int .i64 k,.string ⟨x.toArray⟩,.string ⟨y.toArray⟩,.int .i64 q] 79))
   have hkA:=hk0.trans (Kp.of (below_new w0 (.cells #[.int .i64 k,.string ⟨x.toArray⟩,.string ⟨y.toArray⟩,.int .i64 q] 79)) hp0.B_le)
   go_wp2_with (go_at_call 71;refine (HO.out _ hpA).mono ?_)
   rintro e w1 ⟨rfl,hp1,hk1⟩
   have hT1:=hT0.kp hk1
   have t1:=hT1.cell
   go_wp2_with (go_at_call 108;refine (HX.out w1 hp1).mono ?_)
   rintro e w2 ⟨rfl,hp2,hk2⟩
   clear t1
   obtain ⟨_,_,c2,_,_,_⟩:=hp2.cells
   rw [hc.out] at c2
   go_wp2_with (go_at_call 108;refine (HY.out w2 hp2).mono ?_)
   rintro e w3 ⟨rfl,hp3,hk3⟩
   clear c2
   obtain ⟨d0,_,_,_,_,_⟩:=hp3.cells
   go_wp2_with (go_at_call 110;refine (HL.out w3 hp3).mono ?_)
   rintro e w4 ⟨rfl,hp4,hk4⟩
   clear d0
   go_wp2_with (go_at_call 92;refine (HE.out w4 hp4).mono ?_)
   rintro e w5 ⟨rfl,hp5,hk5⟩
   go_wp2_with (go_at_call 111;refine (HM.out w5 hp5).mono ?_)
   rintro e w6 ⟨rfl,hp6,hk6⟩
   go_wp2_with (go_at_call 76;refine (HN.out w6 hp6).mono ?_)
   rintro e w7 ⟨rfl,hp7,hk7⟩
   go_wp2
   go_ret
   exact ⟨rfl,hp7,((((((hkA.trans hk1).trans hk2).trans hk3).trans hk4).trans hk5).trans hk6).trans hk7⟩
 rw [if_neg hx3] at h
 have HY:=Lib.hid (next_is E hE ⟨#[40]⟩ st false (eq_false_of_ne_true hx3))
 clear hx3
 by_cases hk1:k=1
 ·rw [if_pos hk1] at h
  have k1:((k:Int) == 1)=true:=by rw [beq_iff_eq];omega
  have HN:=Lib.hid (hHI _ _ _ h hn hnest)
  clear h hk1 hHI ex ih hn
  by_cases hcl:st.clause=true
  ·have HR:=HR hcl
   have hc:=Lib.hid hcl
   clear hcl
   go_enter Tryz.func220,Tryz.ntmps220
   obtain ⟨d0,_,_,_,_,_⟩:=hp.cells
   go_wp2_with (go_at_call 116;refine (HP.out w hp).mono ?_)
   rintro e w0 ⟨rfl,hp0,hk0⟩
   clear d0
   have hT0:=TokAt.new w0 k (.string ⟨x.toArray⟩) (.string ⟨y.toArray⟩) (.int .i64 q)
   have hpA:=hp0.later (below_new w0 (.cells #[.int .i64 k,.string ⟨x.toArray⟩,.string ⟨y.toArray⟩,.int .i64 q] 79))
   have hkA:=hk0.trans (Kp.of (below_new w0 (.cells #[.int .i64 k,.string ⟨x.toArray⟩,.string ⟨y.toArray⟩,.int .i64 q] 79)) hp0.B_le)
   go_wp2_with (go_at_call 71;refine (HO.out _ hpA).mono ?_)
   rintro e w1 ⟨rfl,hp1,hk1⟩
   have hT1:=hT0.kp hk1
   have t1:=hT1.cell
   go_wp2_with (go_at_call 108;refine (HX.out w1 hp1).mono ?_)
   rintro e w2 ⟨rfl,hp2,hk2⟩
   clear t1
   have hT2:=hT1.kp hk2
   obtain ⟨_,_,c2,_,_,_⟩:=hp2.cells
   rw [hc.out] at c2
   go_wp2_with (go_at_call 108;refine (HR.out w2 hp2).mono ?_)
   rintro e w3 ⟨rfl,hp3,hk3⟩
   clear c2
   have hT3:=hT2.kp hk3
   go_wp2_with (go_at_call 108;refine (HY.out w3 hp3).mono ?_)
   rintro e w4 ⟨rfl,hp4,hk4⟩
   have hT4:=hT3.kp hk4
   have t4:=hT4.cell
   go_wp2_with (go_at_call 221;refine (HN.out w4 hp4).mono ?_)
   rintro e w5 ⟨rfl,hp5,hk5⟩
   go_wp2
   go_ret
   exact ⟨rfl,hp5,((((hkA.trans hk1).trans hk2).trans hk3).trans hk4).trans hk5⟩
  ·have hc:=Lib.hid (eq_false_of_ne_true hcl)
   clear hcl HR
   go_enter Tryz.func220,Tryz.ntmps220
   obtain ⟨d0,_,_,_,_,_⟩:=hp.cells
   go_wp2_with (go_at_call 116;refine (HP.out w hp).mono ?_)
   rintro e w0 ⟨rfl,hp0,hk0⟩
   clear d0
   have hT0:=TokAt.new w0 k (.string ⟨x.toArray⟩) (.string ⟨y.toArray⟩) (.int .i64 q)
   have hpA:=hp0.later (below_new w0 (.cells #[.int .i64 k,.string ⟨x.toArray⟩,.string ⟨y.toArray⟩,.int .i64 q] 79))
   have hkA:=hk0.trans (Kp.of (below_new w0 (.cells #[.int .i64 k,.string ⟨x.toArray⟩,.string ⟨y.toArray⟩,.int .i64 q] 79)) hp0.B_le)
   go_wp2_with (go_at_call 71;refine (HO.out _ hpA).mono ?_)
   rintro e w1 ⟨rfl,hp1,hk1⟩
   have hT1:=hT0.kp hk1
   have t1:=hT1.cell
   go_wp2_with (go_at_call 108;refine (HX.out w1 hp1).mono ?_)
   rintro e w2 ⟨rfl,hp2,hk2⟩
   clear t1
   have hT2:=hT1.kp hk2
   obtain ⟨_,_,c2,_,_,_⟩:=hp2.cells
   rw [hc.out] at c2
   go_wp2_with (go_at_call 108;refine (HY.out w2 hp2).mono ?_)
   rintro e w3 ⟨rfl,hp3,hk3⟩
   clear c2
   have hT3:=hT2.kp hk3
   have t3:=hT3.cell
   go_wp2_with (go_at_call 221;refine (HN.out w3 hp3).mono ?_)
   rintro e w4 ⟨rfl,hp4,hk4⟩
   go_wp2
   go_ret
   exact ⟨rfl,hp4,(((hkA.trans hk1).trans hk2).trans hk3).trans hk4⟩
 ·rw [if_neg hk1] at h
  injection h with h;subst h
  have k1:((k:Int) == 1)=false:=by rw [← Bool.not_eq_true,beq_iff_eq];omega
  have HF:=Lib.hid (fun w hp=>pfail_any E hE 22 st w hp)
  clear hk1 hHI ex ih hn
  by_cases hcl:st.clause=true
  ·have HR:=HR hcl
   have hc:=Lib.hid hcl
   clear hcl
   go_enter Tryz.func220,Tryz.ntmps220
   obtain ⟨d0,_,_,_,_,_⟩:=hp.cells
   go_wp2_with (go_at_call 116;refine (HP.out w hp).mono ?_)
   rintro e w0 ⟨rfl,hp0,hk0⟩
   clear d0
   have hT0:=TokAt.new w0 k (.string ⟨x.toArray⟩) (.string ⟨y.toArray⟩) (.int .i64 q)
   have hpA:=hp0.later (below_new w0 (.cells #[.int .i64 k,.string ⟨x.toArray⟩,.string ⟨y.toArray⟩,.int .i64 q] 79))
   have hkA:=hk0.trans (Kp.of (below_new w0 (.cells #[.int .i64 k,.string ⟨x.toArray⟩,.string ⟨y.toArray⟩,.int .i64 q] 79)) hp0.B_le)
   go_wp2_with (go_at_call 71;refine (HO.out _ hpA).mono ?_)
   rintro e w1 ⟨rfl,hp1,hk1⟩
   have hT1:=hT0.kp hk1
   have t1:=hT1.cell
   go_wp2_with (go_at_call 108;refine (HX.out w1 hp1).mono ?_)
   rintro e w2 ⟨rfl,hp2,hk2⟩
   clear t1
   have hT2:=hT1.kp hk2
   obtain ⟨_,_,c2,_,_,_⟩:=hp2.cells
   rw [hc.out] at c2
   go_wp2_with (go_at_call 108;refine (HR.out w2 hp2).mono ?_)
   rintro e w3 ⟨rfl,hp3,hk3⟩
   clear c2
   have hT3:=hT2.kp hk3
   go_wp2_with (go_at_call 108;refine (HY.out w3 hp3).mono ?_)
   rintro e w4 ⟨rfl,hp4,hk4⟩
   have hT4:=hT3.kp hk4
   have t4:=hT4.cell
   go_wp2_with (go_at_call 109;refine (HF.out w4 hp4).mono ?_)
   rintro e w5 ⟨rfl,hp5,hk5⟩
   go_wp2
   go_ret
   exact ⟨rfl,hp5,((((hkA.trans hk1).trans hk2).trans hk3).trans hk4).trans hk5⟩
  ·have hc:=Lib.hid (eq_false_of_ne_true hcl)
   clear hcl HR
   go_enter Tryz.func220,Tryz.ntmps220
   obtain ⟨d0,_,_,_,_,_⟩:=hp.cells
   go_wp2_with (go_at_call 116;refine (HP.out w hp).mono ?_)
   rintro e w0 ⟨rfl,hp0,hk0⟩
   clear d0
   have hT0:=TokAt.new w0 k (.string ⟨x.toArray⟩) (.string ⟨y.toArray⟩) (.int .i64 q)
   have hpA:=hp0.later (below_new w0 (.cells #[.int .i64 k,.string ⟨x.toArray⟩,.string ⟨y.toArray⟩,.int .i64 q] 79))
   have hkA:=hk0.trans (Kp.of (below_new w0 (.cells #[.int .i64 k,.string ⟨x.toArray⟩,.string ⟨y.toArray⟩,.int .i64 q] 79)) hp0.B_le)
   go_wp2_with (go_at_call 71;refine (HO.out _ hpA).mono ?_)
   rintro e w1 ⟨rfl,hp1,hk1⟩
   have hT1:=hT0.kp hk1
   have t1:=hT1.cell
   go_wp2_with (go_at_call 108;refine (HX.out w1 hp1).mono ?_)
   rintro e w2 ⟨rfl,hp2,hk2⟩
   clear t1
   have hT2:=hT1.kp hk2
   obtain ⟨_,_,c2,_,_,_⟩:=hp2.cells
   rw [hc.out] at c2
   go_wp2_with (go_at_call 108;refine (HY.out w2 hp2).mono ?_)
   rintro e w3 ⟨rfl,hp3,hk3⟩
   clear c2
   have hT3:=hT2.kp hk3
   have t3:=hT3.cell
   go_wp2_with (go_at_call 109;refine (HF.out w3 hp3).mono ?_)
   rintro e w4 ⟨rfl,hp4,hk4⟩
   go_wp2
   go_ret
   exact ⟨rfl,hp4,(((hkA.trans hk1).trans hk2).trans hk3).trans hk4⟩
end Go.Proofs.YtdednahplodojaaGreatDoor

namespace Go.Proofs.YtdednahplodojaaGreatDoor
open Go.RowKit Go
def GPost (l:List (List UInt8))(w:World)(e:Ending)(w':World):Prop:=∃ b n,e=.returned (.slice (some ⟨b,0,none⟩) n n)∧StrsAt w' (.slice (some ⟨b,0,none⟩) n n) l∧Below w.heap.size w w'
theorem strs_new (w:World)(bs:List ByteArray):StrsAt (w.alloc (.cells (bs.map Value.string).toArray 9)) (.slice (some ⟨w.heap.size,0,none⟩) bs.length bs.length) (bs.map (·.data.toList)):=by
 refine ⟨w.heap.size,0,bs.length,by simp,by simp,fun j hj=>?_⟩
 rw [Lib.cell_of_heap (heap_alloc_new _ _)]
 simp only [List.length_map] at hj
 simp [hj]
theorem lsigns_any (l:Nat)(hl:l≤4)(w:World) :
  Calls Tryz.prog 198 #[.int .i64 l] w (GPost (signsF l) w):=by
 have hc:l=0∨l=1∨l=2∨l=3∨l=4:=by omega
 rcases hc with rfl|rfl|rfl|rfl|rfl <;>
 ·go_enter Tryz.func198,Tryz.ntmps198
  go_wp2
  go_ret
  first
   | exact ⟨_,_,rfl,strs_new w [⟨#[124,124]⟩],below_new _ _⟩
   | exact ⟨_,_,rfl,strs_new w [⟨#[38,38]⟩],below_new _ _⟩
   | exact ⟨_,_,rfl,strs_new w [⟨#[61]⟩,⟨#[60,62]⟩,⟨#[60]⟩,⟨#[60,61]⟩,⟨#[62]⟩,⟨#[62,61]⟩],below_new _ _⟩
   | exact ⟨_,_,rfl,strs_new w [⟨#[43]⟩,⟨#[45]⟩],below_new _ _⟩
   | exact ⟨_,_,rfl,strs_new w [⟨#[42]⟩,⟨#[47]⟩,⟨#[37]⟩],below_new _ _⟩
end Go.Proofs.YtdednahplodojaaGreatDoor
