/- Walks and plain laws: ParseW14, ParseW15. -/
import Derived.Test.YtbodlpoomfefcaaGreatDoorA11
set_option maxHeartbeats 16000000
set_option maxRecDepth 100000
set_option linter.unusedVariables false
set_option linter.unusedSimpArgs false
namespace Go.Proofs.YtbodlpoomfefcaaGreatDoor
open Go.RowKit Go
def LPost (E:PEnv)(l:List Int × PSt)(w:World)(e:Ending)(w':World):Prop:=∃ v,e=.returned v∧IntsAt w' v l.1∧(l.1=[]→v=.slice none 0 0)∧PW E l.2 w'∧Kp E.B w w'
def ListAt (E:PEnv)(one:PSt→Option (Int × PSt))(res:List Int × PSt)(w0:World)(kv nv:Value)(wr:World):Prop :=
 ∃ (r m:Nat) (kids:List Int) (s:PSt) (R:List Nat),nv=.int .i64 (m:Nat)∧m+r=9∧kids.length+2 * r≤16∧listLoop E.toks one r kids s=some res ∧
  wr.ownsRow w0.heap.size 3 1 kv kids.length (kids.map (Value.int .i64))∧(∀ b,kv.ownBlock=some b→b∈R)∧(∀ r∈E.R,r∈R)∧(kids=[]→kv=.slice none 0 0)∧PR E R s wr∧Kp E.B w0 wr
theorem PR.B_le {E:PEnv}{R:List Nat}{st:PSt}{w:World}(h:PR E R st w):E.B≤w.heap.size:=PW.B_le (E:={ E with R:=R }) h
theorem list_done {E:PEnv}{R:List Nat}{w0 w:World}{kv:Value}{n:Nat}{kids:List Int}{s:PSt}{res:List Int × PSt}(ho:w.ownsRow w0.heap.size 3 1 kv n (kids.map (Value.int .i64)))(hR:∀ r∈E.R,r∈R)(hp:PR E R s w)(hk:Kp E.B w0 w)(h:(kids,s)=res)(h0:kids=[]→kv=.slice none 0 0):LPost E res w0 (.returned kv) w:=by
 subst h
 exact ⟨kv,rfl,IntsAt.ofOwns ho,h0,hp.drop hR,hk⟩
theorem own_form {w:World}{base n:Nat}{v:Value}{xs:List Value}(h:w.ownsRow base 3 1 v n xs):∃ ao cap,v=.slice ao n cap:=by
 rcases h.2 with ⟨hv,hn0⟩|⟨g,cap,cur,hv,_⟩
 ·exact ⟨none,0,by rw [hv,hn0]⟩
 ·exact ⟨_,cap,hv⟩
theorem list_name (E:PEnv)(hE:E.ok)(one:PSt→Option (Int × PSt))(cp cn:Nat)(st:PSt)(res:List Int × PSt)(w:World)(h:listM E.toks one st=some res)(hp:PW E st w)(hn:res.2.nodes.length+1≤1099511627776)
  (hext:∀ s k,one s=some k→PExt s k.2)
  (hone:∀ (R:List Nat) (s:PSt) (k:Int × PSt) (w':World),one s=some k→PR E R s w'→Kp E.B w w'→k.2.nodes.length+1≤1099511627776 →
   Calls Tryz.prog 323 #[.pointer (some ⟨cp,0,none⟩),.pointer (some ⟨cn,0,none⟩)] w' (PPost { E with R:=R } k w')) :
  Calls Tryz.prog 142 #[.pointer (some ⟨E.pb,0,none⟩),.func (.func 323) #[] #[.pointer (some ⟨cp,0,none⟩),.pointer (some ⟨cn,0,none⟩)]] w (LPost E res w):=by
 have hdep:=hE.2.2
 obtain ⟨i0,hi,hz0,hz1,hz2⟩:=info_parts Tryz.infoInt
 unfold listM at h
 by_cases hx:nextF E.toks st [[41]]=true
 ·rw [if_pos hx] at h
  injection h with h;subst h
  have HX:=Lib.hid (next_is E hE ⟨#[41]⟩ st true hx)
  clear hx hone hext
  go_enter Tryz.func142,Tryz.ntmps142
  go_wp2_with (go_at_call 138;refine (HX.out w hp).mono ?_)
  rintro e w1 ⟨rfl,hp1,hk1⟩
  go_wp2
  go_ret
  exact ⟨_,rfl,⟨none,0,rfl,Nat.le_refl _,fun q=>absurd q (by simp)⟩,fun _=>rfl,hp1,hk1⟩
 ·rw [if_neg hx] at h
  have HX:=Lib.hid (next_is E hE ⟨#[41]⟩ st false (eq_false_of_ne_true hx))
  have H0:=Lib.hid h
  have HONE:=Lib.hid hone
  have HEXT:=Lib.hid hext
  have HN:=Lib.hid hn
  have HE:=Lib.hid hE
  clear hx hone hext h hn
  go_enter Tryz.func142,Tryz.ntmps142
  go_wp2_with (go_at_call 138;refine (HX.out w hp).mono ?_)
  rintro e w1 ⟨rfl,hp1,hk1⟩
  go_wp2
  go_loopw [5,6] (fun kv nv wr=>ListAt E one res w kv nv wr) (fun _ nv _=>10 - (intOf nv).toNat)
  case atStart=>exact ⟨8,1,[],st,E.R,rfl,rfl,by simp,H0.out,World.ownsRow_nil _ _ _ _,fun _ q=>by simp [Value.ownBlock] at q,fun _ q=>q,fun _=>rfl,hp1,hk1⟩
  case round =>
   obtain ⟨r,m,kids,s,R,rfl,hm,hkl,hl,hown,hR,hER,hnil,hps,hks⟩:=hrel
   obtain ⟨ao,cap,rfl⟩:=own_form hown
   have HNIL:=Lib.hid hnil
   clear hnil
   have hBw:E.B≤w.heap.size:=hp.B_le
   by_cases hf:s.fE=0
   ·have HO:=Lib.hid (ok_yes { E with R:=R } s hf)
    cases r with
    | zero =>
     obtain rfl:m=9:=by omega
     rw [listLoop,if_pos hf] at hl
     injection hl with hl
     have HF:=Lib.hid (fun w hp=>pfail_any { E with R:=R } HE.out 15 s w hp)
     have HL:=Lib.hid hl
     clear hl hf
     go_wp2_with (go_at_call 83;refine (HO.out _ hps).mono ?_)
     rintro e w2 ⟨rfl,hp2,hk2⟩
     go_wp2_with (go_at_call 139;refine (HF.out _ hp2).mono ?_)
     rintro e w3 ⟨rfl,hp3,hk3⟩
     have hown3:=own_kp (own_kp hown hk2) hk3
     go_wp2
     go_ret
     exact list_done hown3 hER hp3 ((hks.trans hk2).trans hk3) HL.out HNIL.out
    | succ r =>
     rw [listLoop,if_neg (by simp [hf])] at hl
     obtain ⟨k,h1,hl⟩:=Option.bind_eq_some_iff.1 hl
     have d8:decide (8<(m:Int))=false:=decide_eq_false (by omega)
     have d8':decide (8<m)=false:=decide_eq_false (by omega)
     have hnk:k.2.nodes.length+1≤1099511627776:=by
      split at hl
      ·exact nodes_le ((leafM_ext _ _).trans (listLoop_ext _ one HEXT.out _ _ _ _ hl)) HN.out
      ·injection hl with hl;rw [← hl] at HN;exact HN.out
     have HK:=Lib.hid (fun w' hp hk=>HONE.out R s k w' h1 hp hk hnk)
     have HL:=Lib.hid hl
     clear hl h1 hf
     go_wp2_with (go_at_call 83;refine (HO.out _ hps).mono ?_)
     rintro e w2 ⟨rfl,hp2,hk2⟩
     go_wp2_with (go_at_call 323;refine (HK.out _ hp2 (hks.trans hk2)).mono ?_)
     rintro e w3 ⟨rfl,hp3,hk3⟩
     have hp3':PR E R k.2 w3:=hp3
     clear hp3
     have hown3:=own_kp (own_kp hown hk2) hk3
     have hpA:PR E R k.2 (w3.alloc (.cells #[.int .i64 k.1] 3)):=PW.later hp3' (below_new w3 _)
     have hnw:=heap_alloc_new w3 (.cells #[.int .i64 k.1] 3)
     have hkA:Kp E.B w (w3.alloc (.cells #[.int .i64 k.1] 3)):=((hks.trans hk2).trans hk3).trans (Kp.of (below_new w3 _) hp3'.B_le)
     have hownA:=hown3.alloc (.cells #[.int .i64 k.1] 3)
     have hsz3:w.heap.size≤w3.heap.size:=((hks.trans hk2).trans hk3).size
     go_wp2_with (at_builtin;refine wpList_append_lies _ rfl _ _ 81 rfl w.heap.size 3 i0 (.int .i64 0) 1 8 Tryz.underlying81 hi hz0 hz1 hz2 rfl (by decide) _ _ _ rfl hownA ⟨w3.heap.size,0,none⟩ 1 1 [.int .i64 k.1] rfl rfl ?c1 ?c2 ?c3 ?c4 ?c5 ?c6 _ rfl ?_)
     case c1=>exact World.news_of_block (cs:=#[.int .i64 k.1]) (t:=3) (fr:=(0,0)) hnw
     case c2=>simp [Value.oneCell']
     case c3=>omega
     case c4=>unfold maxLen;omega
     case c5=>omega
     case c6=>simp;omega
     intro g cap4 w4 hown4 hgrow4 hat4 hlt4
     obtain ⟨R4,hR4,hg4,hp4⟩:=hpA.append hownA hBw hR hgrow4 hat4 (by simp) hlt4
     have hk4:=hkA.grown hownA (Nat.le_refl _) hBw hgrow4
     have hown4':w4.ownsRow w.heap.size 3 1 (.slice (some ⟨g,0,none⟩) (kids.length+1) cap4) (kids.length+1) ((kids++[k.1]).map (Value.int .i64)):=by rw [List.map_append];exact hown4
     have hER4:∀ r∈E.R,r∈R4:=fun r hr=>hR4 r (hER r hr)
     clear hpA hnw hkA hownA hgrow4 hat4 hlt4 hown3 hown4 hk2 hk3 hp2 hp3' hown hps hks HO HK HX H0 HONE hsz3 hR4
     by_cases hf4:k.2.fE=0
     ·have HO4:=Lib.hid (ok_yes { E with R:=R4 } k.2 hf4)
      by_cases hx4:nextF E.toks k.2 [[44]]=true
      ·have hl:=HL.out
       rw [if_pos ⟨hf4,hx4⟩] at hl
       have HX4:=Lib.hid (next_is { E with R:=R4 } HE.out ⟨#[44]⟩ k.2 true hx4)
       have HLF:=Lib.hid (fun w hp=>pleaf_any { E with R:=R4 } k.2 w hp HE.out.1 HE.out.2.1 hnk)
       have HL2:=Lib.hid hl
       clear hl HL hf4 hx4
       go_wp2_with (go_at_call 83;refine (HO4.out _ hp4).mono ?_)
       rintro e w5 ⟨rfl,hp5,hk5⟩
       go_wp2_with (go_at_call 138;refine (HX4.out _ hp5).mono ?_)
       rintro e w6 ⟨rfl,hp6,hk6⟩
       obtain ⟨d0,_,_,_,_,_⟩:=hp6.cells
       go_wp2_with (go_at_call 140;refine (HLF.out _ hp6).mono ?_)
       rintro e w7 ⟨rfl,hp7,hk7⟩
       clear d0
       have hp7':PR E R4 (leafM E.toks k.2).2 w7:=hp7
       clear hp7
       have hown7:=own_kp (own_kp (own_kp hown4' hk5) hk6) hk7
       have hk47:=((hk4.trans hk5).trans hk6).trans hk7
       have hpA:PR E R4 (leafM E.toks k.2).2 (w7.alloc (.cells #[.int .i64 (leafM E.toks k.2).1] 3)):=PW.later hp7' (below_new w7 _)
       have hnw:=heap_alloc_new w7 (.cells #[.int .i64 (leafM E.toks k.2).1] 3)
       have hkA:Kp E.B w (w7.alloc (.cells #[.int .i64 (leafM E.toks k.2).1] 3)):=hk47.trans (Kp.of (below_new w7 _) hp7'.B_le)
       have hownA:=hown7.alloc (.cells #[.int .i64 (leafM E.toks k.2).1] 3)
       have hsz7:w.heap.size≤w7.heap.size:=hk47.size
       have hv4:∀ b,(Value.slice (some ⟨g,0,none⟩) (kids.length+1) cap4).ownBlock=some b→b∈R4:=fun b hb=>by
        simp only [Value.ownBlock,Option.some.injEq] at hb;subst hb;exact hg4
       go_wp2_with (at_builtin;refine wpList_append_lies _ rfl _ _ 81 rfl w.heap.size 3 i0 (.int .i64 0) 1 8 Tryz.underlying81 hi hz0 hz1 hz2 rfl (by decide) _ _ _ rfl hownA ⟨w7.heap.size,0,none⟩ 1 1 [.int .i64 (leafM E.toks k.2).1] rfl rfl ?c1 ?c2 ?c3 ?c4 ?c5 ?c6 _ rfl ?_)
       case c1=>exact World.news_of_block (cs:=#[.int .i64 (leafM E.toks k.2).1]) (t:=3) (fr:=(0,0)) hnw
       case c2=>simp [Value.oneCell']
       case c3=>omega
       case c4=>unfold maxLen;omega
       case c5=>omega
       case c6=>simp;omega
       intro g8 cap8 w8 hown8 hgrow8 hat8 hlt8
       obtain ⟨R8,hR8,hg8,hp8⟩:=hpA.append hownA hBw hv4 hgrow8 hat8 (by simp) hlt8
       have hk8:=hkA.grown hownA (Nat.le_refl _) hBw hgrow8
       have hown8':w8.ownsRow w.heap.size 3 1 (.slice (some ⟨g8,0,none⟩) (kids.length+1+1) cap8) (kids++[k.1,(leafM E.toks k.2).1]).length ((kids++[k.1,(leafM E.toks k.2).1]).map (Value.int .i64)):=by
        rw [List.map_append,List.length_append];exact hown8
       have hv8:∀ b,(Value.slice (some ⟨g8,0,none⟩) (kids.length+1+1) cap8).ownBlock=some b→b∈R8:=fun b hb=>by
        simp only [Value.ownBlock,Option.some.injEq] at hb;subst hb;exact hg8
       have hER8:∀ r∈E.R,r∈R8:=fun r hr=>hR8 r (hER4 r hr)
       clear hpA hnw hkA hownA hgrow8 hat8 hlt8 hown7 hown8 hk47 hown4' hk4 hk5 hk6 hk7 hp4 hp5 hp6 hp7' HO4 HX4 HLF hR8 hv4 hER4 hg4
       go_wp2
       go_roundw
       case rel=>exact ⟨r,m+1,_,_,R8,by go_num,by omega,by simp;omega,HL2.out,hown8',hv8,hER8,(fun q=>by simp at q),hp8,hk8⟩
       case measure=>simp [intOf];omega
      ·have hl:=HL.out
       rw [if_neg (fun q=>hx4 q.2)] at hl
       injection hl with hl
       have HX4:=Lib.hid (next_is { E with R:=R4 } HE.out ⟨#[44]⟩ k.2 false (eq_false_of_ne_true hx4))
       have HL2:=Lib.hid hl
       clear hl HL hf4 hx4
       go_wp2_with (go_at_call 83;refine (HO4.out _ hp4).mono ?_)
       rintro e w5 ⟨rfl,hp5,hk5⟩
       go_wp2_with (go_at_call 138;refine (HX4.out _ hp5).mono ?_)
       rintro e w6 ⟨rfl,hp6,hk6⟩
       have hown6:=own_kp (own_kp hown4' hk5) hk6
       go_wp2
       go_ret
       exact list_done hown6 hER4 hp6 ((hk4.trans hk5).trans hk6) HL2.out (fun q=>by simp at q)
     ·have hl:=HL.out
      rw [if_neg (fun q=>hf4 q.1)] at hl
      injection hl with hl
      have HO4:=Lib.hid (ok_no { E with R:=R4 } k.2 hf4)
      have HL2:=Lib.hid hl
      clear hl HL hf4
      go_wp2_with (go_at_call 83;refine (HO4.out _ hp4).mono ?_)
      rintro e w5 ⟨rfl,hp5,hk5⟩
      have hown5:=own_kp hown4' hk5
      go_wp2
      go_ret
      exact list_done hown5 hER4 hp5 (hk4.trans hk5) HL2.out (fun q=>by simp at q)
   ·have HO:=Lib.hid (ok_no { E with R:=R } s hf)
    have hl':(kids,s)=res:=by
     cases r with
     | zero=>rw [listLoop,if_neg hf] at hl;injection hl
     | succ r=>rw [listLoop,if_pos hf] at hl;injection hl
    have HL:=Lib.hid hl'
    clear hl hl' hf
    go_wp2_with (go_at_call 83;refine (HO.out _ hps).mono ?_)
    rintro e w2 ⟨rfl,hp2,hk2⟩
    have hown2:=own_kp hown hk2
    go_wp2
    go_ret
    exact list_done hown2 hER hp2 (hks.trans hk2) HL.out HNIL.out
theorem name1_any (E:PEnv)(g nest cp cn:Nat)(ih:AllT E g)(st:PSt)(r:Int × PSt)(w:World)(h:run E.toks E.depth g (.expr (nest+1)) st=some r)(hp:PW E st w)(hn:r.2.nodes.length+1≤1099511627776)(hnest:nest≤E.depth)(hdep:E.depth≤1000)
  (c1:w.cell? ⟨cp,0,none⟩=some (.pointer (some ⟨E.pb,0,none⟩))) (c2:w.cell? ⟨cn,0,none⟩=some (.int .i64 nest)) :
  Calls Tryz.prog 323 #[.pointer (some ⟨cp,0,none⟩),.pointer (some ⟨cn,0,none⟩)] w (PPost E r w):=by
 have HE:=Lib.hid (ih _ _ _ w h hp hn (by show nest+1≤_;omega))
 clear h hp hn ih
 go_enter Tryz.func323,Tryz.ntmps323
 go_wp2_with (go_at_call 125;refine HE.out.mono ?_)
 rintro e w1 ⟨rfl,hp1,hk1⟩
 go_wp2
 go_ret
 exact ⟨rfl,hp1,hk1⟩
theorem own_lit (w:World)(base:Nat)(x:Int)(hb:base≤w.heap.size):(w.alloc (.cells #[.int .i64 x] 3)).ownsRow base 3 1 (.slice (some ⟨w.heap.size,0,none⟩) 1 1) 1 ([x].map (Value.int .i64)) :=
 ⟨rfl,.inr ⟨w.heap.size,1,_,rfl,hb,heap_alloc_new _ _,Nat.le_refl _,by unfold maxLen;omega,rfl,rfl⟩⟩
def nameW (E:PEnv)(nest:Nat)(w:World):World:=(w.alloc (.cells #[.pointer (some ⟨E.pb,0,none⟩)] 94)).alloc (.cells #[.int .i64 nest] 3)
theorem nameW_below (E:PEnv)(nest:Nat)(w:World):Below w.heap.size w (nameW E nest w):=((Below.refl _ _).alloc (Nat.le_refl _) _).alloc (by simp) _
theorem nameW_p (E:PEnv)(nest:Nat){w wr:World}{B:Nat}(hk:Kp B (nameW E nest w) wr):wr.cell? ⟨w.heap.size,0,none⟩=some (.pointer (some ⟨E.pb,0,none⟩)):=by
 have h1:(nameW E nest w).heap[w.heap.size]?=some (.cells #[.pointer (some ⟨E.pb,0,none⟩)] 94 (0,0)):=(Lib.alloc_old _ _ _ (by simp)).trans (heap_alloc_new _ _)
 rw [Lib.cell_of_heap (hk.2 _ _ _ _ h1 (by decide) (by decide) (by decide))];rfl
theorem nameW_n (E:PEnv)(nest:Nat){w wr:World}{B:Nat}(hk:Kp B (nameW E nest w) wr):wr.cell? ⟨w.heap.size+1,0,none⟩=some (.int .i64 nest):=by
 have h1:(nameW E nest w).heap[w.heap.size+1]?=some (.cells #[.int .i64 nest] 3 (0,0)):=by
  have:=heap_alloc_new (w.alloc (.cells #[.pointer (some ⟨E.pb,0,none⟩)] 94)) (.cells #[.int .i64 nest] 3)
  rw [show (w.alloc (.cells #[.pointer (some ⟨E.pb,0,none⟩)] 94)).heap.size=w.heap.size+1 by simp] at this
  exact this
 rw [Lib.cell_of_heap (hk.2 _ _ _ _ h1 (by decide) (by decide) (by decide))];rfl
def KRow (E:PEnv)(W0:World)(R:List Nat)(v:Value)(ks:List Int)(s:PSt)(w:World):Prop :=
 w.ownsRow W0.heap.size 3 1 v ks.length (ks.map (Value.int .i64))∧(∀ b,v.ownBlock=some b→b∈R)∧(∀ r∈E.R,r∈R)∧PR E R s w∧Kp E.B W0 w
theorem KRow.call {E:PEnv}{W0:World}{R:List Nat}{v:Value}{ks:List Int}{s s':PSt}{w w':World}(h:KRow E W0 R v ks s w)(hp:PW { E with R:=R } s' w')(hk:Kp E.B w w'):KRow E W0 R v ks s' w' :=
 ⟨own_kp h.1 hk,h.2.1,h.2.2.1,hp,h.2.2.2.2.trans hk⟩
theorem KRow.lit {E:PEnv}{W0:World}{R:List Nat}{v:Value}{ks:List Int}{s:PSt}{w:World}(h:KRow E W0 R v ks s w)(o:Obj):KRow E W0 R v ks s (w.alloc o) :=
 ⟨h.1.alloc o,h.2.1,h.2.2.1,PW.later h.2.2.2.1 (below_new w o),h.2.2.2.2.trans (Kp.of (below_new w o) h.2.2.2.1.B_le)⟩
theorem KRow.app {E:PEnv}{W0:World}{R:List Nat}{v:Value}{ks news:List Int}{s:PSt}{wA w':World}{g n n' cap H:Nat}(h:KRow E W0 R v ks s wA)(hB:E.B≤W0.heap.size)(hn:(ks++news).length=n)
  (ho:w'.ownsRow W0.heap.size 3 1 (.slice (some ⟨g,0,none⟩) n' cap) n (ks.map (Value.int .i64)++news.map (Value.int .i64))) (hg:wA.grownBy w' v.ownBlock) (hat:v.ownBlock=some g∨g=H) (hH:wA.heap.size=H) (hlt:g<w'.heap.size) :
  ∃ R',KRow E W0 R' (.slice (some ⟨g,0,none⟩) n' cap) (ks++news) s w':=by
 obtain ⟨h1,h2,h3,h4,h5⟩:=h
 obtain ⟨R',r1,r2,r3⟩:=h4.append h1 hB h2 hg hat hH hlt
 refine ⟨R',?_,fun b hb=>?_,fun r hr=>r1 r (h3 r hr),r3,h5.grown h1 (Nat.le_refl _) hB hg⟩
 ·rw [List.map_append,hn];exact ho
 ·simp only [Value.ownBlock,Option.some.injEq] at hb;subst hb;exact r2
theorem KRow.start {E:PEnv}{W0 w:World}{s:PSt}(x:Int)(hp:PW E s w)(hk:Kp E.B W0 w):KRow E W0 (w.heap.size :: E.R) (.slice (some ⟨w.heap.size,0,none⟩) 1 1) [x] s (w.alloc (.cells #[.int .i64 x] 3)) :=
 ⟨own_lit w _ x hk.size,fun b hb=>by simp only [Value.ownBlock,Option.some.injEq] at hb;subst hb;exact List.mem_cons_self,fun r hr=>List.mem_cons_of_mem _ hr,PR.take hp.pr (below_new w _) _ (Nat.le_refl _) (by simp),hk.trans (Kp.of (below_new w _) hp.B_le)⟩
theorem KRow.node {E:PEnv}{W0:World}{R:List Nat}{v:Value}{ks:List Int}{s:PSt}{w:World}(h:KRow E W0 R v ks s w):IntsAt w v ks:=IntsAt.ofOwns h.1
theorem listLoop_len (toks:List Tok)(one:PSt→Option (Int × PSt)):∀ (r:Nat) (kids:List Int) (st:PSt) (l:List Int × PSt),listLoop toks one r kids st=some l→l.1.length≤kids.length+2 * r
 | 0,kids,st,l,h=>by rw [listLoop] at h;injection h with h;subst h;simp
 | r+1,kids,st,l,h=>by
  rw [listLoop] at h
  split at h
  ·injection h with h;subst h;simp
  ·obtain ⟨k,h1,h⟩:=Option.bind_eq_some_iff.1 h
   split at h
   ·have:=listLoop_len toks one r _ _ _ h
    simp only [List.length_append,List.length_cons,List.length_nil] at this
    omega
   ·injection h with h;subst h;simp;omega
theorem listM_len (toks:List Tok)(one:PSt→Option (Int × PSt))(st:PSt)(l:List Int × PSt)(h:listM toks one st=some l):l.1.length≤16:=by
 unfold listM at h
 split at h
 ·injection h with h;subst h;simp
 ·simpa using listLoop_len toks one 8 [] st l h
theorem name_plain (E:PEnv)(hE:E.ok)(g:Nat)(nest:Nat)(st:PSt)(r:Int × PSt)(w:World)(h:run E.toks E.depth (g+1) (.name nest) st=some r)(hp:PW E st w)(hn:r.2.nodes.length+1≤1099511627776)(_hnest:nest≤E.depth)
  (hcase:(leafM E.toks st).2.clause=true∨nextF E.toks (leafM E.toks st).2 [[46],[40]]=false) :
  Calls Tryz.prog 322 #[.pointer (some ⟨E.pb,0,none⟩),.int .i64 nest] w (PPost E r w):=by
 have hdep:=hE.2.2
 obtain ⟨i0,hi,hz0,hz1,hz2⟩:=info_parts Tryz.infoInt
 rw [run] at h
 have hA:PW E st (nameW E nest w):=hp.later (nameW_below E nest w)
 have hkA:Kp E.B w (nameW E nest w):=Kp.of (nameW_below E nest w) hp.B_le
 ·rw [if_pos hcase] at h
  injection h with h;subst h
  have n2:=nodes_le (nodeM_ext _ _ _) hn
  have n1:=nodes_le (leafM_ext _ _) n2
  have HL:=Lib.hid (fun w hp=>pleaf_any E st w hp hE.1 hE.2.1 n1)
  have HN:=Lib.hid (fun w hp v hv=>pnode_any E 14 v [(leafM E.toks st).1] (leafM E.toks st).2 w hp hv (by simp) n2)
  clear n1 n2 hn
  by_cases hcl:(leafM E.toks st).2.clause=true
  ·have hc:=Lib.hid hcl
   clear hcase hcl
   have hA':PW E st ((w.alloc (.cells #[.pointer (some ⟨E.pb,0,none⟩)] 94)).alloc (.cells #[.int .i64 nest] 3)):=hA
   obtain ⟨d0,_,_,_,_,_⟩:=hA'.cells
   go_enter Tryz.func322,Tryz.ntmps322
   go_wp2_with (go_at_call 140;refine (HL.out _ hA').mono ?_)
   rintro e w1 ⟨rfl,hp1,hk1'⟩
   have hk1:Kp E.B (nameW E nest w) w1:=hk1'
   clear d0 hk1' hA'
   have hpB:=hp1.later (below_new w1 (.cells #[.int .i64 (leafM E.toks st).1] 3))
   have hkB:=hk1.trans (Kp.of (below_new w1 (.cells #[.int .i64 (leafM E.toks st).1] 3)) hp1.B_le)
   have p1:=nameW_p E nest hkB
   obtain ⟨_,_,c1,_,_,_⟩:=hpB.cells
   rw [hc.out] at c1
   have hiB:=ints_new w1 [(leafM E.toks st).1]
   go_wp2_with (go_at_call 88;refine (HN.out _ hpB _ hiB).mono ?_)
   rintro e w2 ⟨rfl,hp2,hk2⟩
   go_wp2
   go_ret
   exact ⟨rfl,hp2,(hkA.trans hkB).trans hk2⟩
  ·have hc:=Lib.hid (eq_false_of_ne_true hcl)
   have HX:=Lib.hid (fun w hp=>next2_is E hE ⟨#[46]⟩ ⟨#[40]⟩ (leafM E.toks st).2 false (hcase.resolve_left hcl) w hp)
   clear hcase hcl
   have hA':PW E st ((w.alloc (.cells #[.pointer (some ⟨E.pb,0,none⟩)] 94)).alloc (.cells #[.int .i64 nest] 3)):=hA
   obtain ⟨d0,_,_,_,_,_⟩:=hA'.cells
   go_enter Tryz.func322,Tryz.ntmps322
   go_wp2_with (go_at_call 140;refine (HL.out _ hA').mono ?_)
   rintro e w1 ⟨rfl,hp1,hk1'⟩
   have hk1:Kp E.B (nameW E nest w) w1:=hk1'
   clear d0 hk1' hA'
   have hpB:=hp1.later (below_new w1 (.cells #[.int .i64 (leafM E.toks st).1] 3))
   have hkB:=hk1.trans (Kp.of (below_new w1 (.cells #[.int .i64 (leafM E.toks st).1] 3)) hp1.B_le)
   have p1:=nameW_p E nest hkB
   obtain ⟨_,_,c1,_,_,_⟩:=hpB.cells
   rw [hc.out] at c1
   have hiB:=ints_new w1 [(leafM E.toks st).1]
   have hXB:=HX.out _ hpB
   rw [show (w1.alloc (.cells #[.int .i64 (leafM E.toks st).1] 3)).heap.size=w1.heap.size+1 by simp] at hXB
   have HXB:=Lib.hid hXB
   clear hXB
   go_wp2_with (go_at_call 138;refine HXB.out.mono ?_)
   rintro e w2 ⟨rfl,hp2,hk2⟩
   have p2:=nameW_p E nest (hkB.trans hk2)
   clear p1 c1
   go_wp2_with (go_at_call 88;refine (HN.out _ hp2 _ (hiB.kept hk2)).mono ?_)
   rintro e w3 ⟨rfl,hp3,hk3⟩
   go_wp2
   go_ret
   exact ⟨rfl,hp3,((hkA.trans hkB).trans hk2).trans hk3⟩
end Go.Proofs.YtbodlpoomfefcaaGreatDoor
