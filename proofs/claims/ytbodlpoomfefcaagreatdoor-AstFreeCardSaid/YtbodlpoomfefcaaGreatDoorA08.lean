/- Walks and plain laws: ParseW5, ParseLaws2, ParseW6, BagW1, BagW2. -/
import Derived.Test.YtbodlpoomfefcaaGreatDoorA07
import Derived.Lib.OwnBridge
import Derived.Sort.OwnSorted
import Derived.Sort.Walk0
set_option maxHeartbeats 16000000
set_option maxRecDepth 100000
set_option linter.unusedVariables false
set_option linter.unusedSimpArgs false
namespace Go.Proofs.YtbodlpoomfefcaaGreatDoor
open Go.RowKit
def PEnv.ok (E:PEnv):Prop:=0<E.toks.length∧E.toks.length≤1099511627776∧E.depth≤1000
theorem pfail_any (E:PEnv)(hE:E.ok)(c:Nat)(st:PSt)(w:World)(h:PW E st w) :
  Calls Tryz.prog 139 #[.pointer (some ⟨E.pb,0,none⟩),.int .i64 c] w (PPost E (0,failM E.toks c st) w):=fail_any E c st w h hE.1 hE.2.1
theorem must_any (E:PEnv)(hE:E.ok)(v:Value)(l:List (List UInt8))(st:PSt)(w:World)(h:PW E st w)(hv:StrsAt w v l)(hl:l.length≤1000)(hn:st.nodes.length+1≤1099511627776) :
  Calls Tryz.prog 141 #[.pointer (some ⟨E.pb,0,none⟩),v] w (PPost E (mustM E.toks l st) w):=by
 have HO:=Lib.hid (ok_any E st w h)
 have HX:=Lib.hid (next_any E v l st w h hv hE.1 hE.2.1 hl)
 have HF:=Lib.hid (fun w=>pfail_any E hE 22 st w)
 have H:=Lib.hid h
 have hsl:∃ ao n cap,v=.slice ao n cap:=by obtain ⟨b,off,cap,rfl,_⟩:=hv;exact ⟨_,_,_,rfl⟩
 obtain ⟨ao,n,cap,rfl⟩:=hsl
 clear h hv
 by_cases hf:st.fE=0
 ·rw [show okB st=true from decide_eq_true hf] at HO
  cases hx:nextF E.toks st l with
  | true =>
   rw [hx] at HX
   have hq:mustM E.toks l st=leafM E.toks st:=by rw [mustM,if_pos ⟨hf,hx⟩]
   rw [hq]
   clear hq hf hx
   go_enter Tryz.func141,Tryz.ntmps141
   go_wp2_with (first|(go_at_call 83;refine HO.out.mono ?_;rintro e w1 ⟨rfl,rfl⟩)|(go_at_call 138;refine HX.out.mono ?_))
   rintro e w2 ⟨rfl,hb⟩
   have h2:=H.out.later hb
   obtain ⟨c0,_,_,_,_,_⟩:=h2.cells
   have HL:=Lib.hid (pleaf_any E st w2 h2 hE.1 hE.2.1 hn)
   clear h2
   go_wp2_with (first|(go_at_call 140;refine HL.out.mono ?_))
   rintro e w3 ⟨rfl,hp,hk⟩
   go_wp2
   go_ret
   exact ⟨rfl,hp,(Kp.of hb H.out.B_le).trans hk⟩
  | false =>
   rw [hx] at HX
   have hq:mustM E.toks l st=(0,failM E.toks 22 st):=by rw [mustM,if_neg (fun q=>by rw [hx] at q;cases q.2)]
   rw [hq]
   clear hq hf hx
   go_enter Tryz.func141,Tryz.ntmps141
   go_wp2_with (first|(go_at_call 83;refine HO.out.mono ?_;rintro e w1 ⟨rfl,rfl⟩)|(go_at_call 138;refine HX.out.mono ?_;rintro e w2 ⟨rfl,hb⟩)|(go_at_call 139;refine (HF.out _ (H.out.later hb)).mono ?_))
   rintro e w3 ⟨rfl,hp,hk⟩
   go_wp2
   go_ret
   exact ⟨rfl,hp,(Kp.of hb H.out.B_le).trans hk⟩
 ·rw [show okB st=false from decide_eq_false hf] at HO
  have hq:mustM E.toks l st=(0,failM E.toks 22 st):=by rw [mustM,if_neg (fun q=>hf q.1)]
  rw [hq]
  clear hq hf
  go_enter Tryz.func141,Tryz.ntmps141
  go_wp2_with (first|(go_at_call 83;refine HO.out.mono ?_;rintro e w1 ⟨rfl,rfl⟩)|(go_at_call 139;refine (HF.out _ H.out).mono ?_))
  rintro e w3 ⟨rfl,hp,hk⟩
  go_wp2
  go_ret
  exact ⟨rfl,hp,hk⟩
theorem kind_any (E:PEnv)(hE:E.ok)(k:Nat)(st:PSt)(w:World)(h:PW E st w)(hn:st.nodes.length+1≤1099511627776) :
  Calls Tryz.prog 89 #[.pointer (some ⟨E.pb,0,none⟩),.int .i64 k] w (PPost E (kindM E.toks k st) w):=by
 have HO:=Lib.hid (ok_any E st w h)
 have hp:=peek_any E.R E.B E.bb E.tv E.toks st.used st.nodes w h.2.1 h.2.2.1 hE.1 h.2.2.2.2.1 hE.2.1
 have HF:=Lib.hid (fun w=>pfail_any E hE 22 st w)
 have H:=Lib.hid h
 have tf:=tokField0
 obtain ⟨c0,_,_,_,_,_⟩:=h.cells
 clear h
 unfold kindM
 generalize peekF E.toks st.used=t at hp
 obtain ⟨kt,x,y,q⟩:=t
 rw [tokAgg] at hp
 simp only
 have HP:=Lib.hid hp
 clear hp
 by_cases hf:st.fE=0
 ·rw [show okB st=true from decide_eq_true hf] at HO
  by_cases hk:kt=k
  ·have t1:((kt:Int) != (k:Int))=false:=by rw [hk];simp
   rw [if_pos ⟨hf,hk⟩]
   clear hf hk
   go_enter Tryz.func89,Tryz.ntmps89
   go_wp2_with (first|(go_at_call 83;refine HO.out.mono ?_;rintro e w1 ⟨rfl,rfl⟩)|(go_at_call 146;refine HP.out.mono ?_))
   rintro e w2 ⟨rfl,hb⟩
   have h2:=H.out.later hb
   obtain ⟨d0,_,_,_,_,_⟩:=h2.cells
   have HL:=Lib.hid (pleaf_any E st w2 h2 hE.1 hE.2.1 hn)
   clear h2
   go_wp2_with (first|(go_at_call 140;refine HL.out.mono ?_))
   rintro e w3 ⟨rfl,hp,hk⟩
   go_wp2
   go_ret
   exact ⟨rfl,hp,(Kp.of hb H.out.B_le).trans hk⟩
  ·have t1:((kt:Int) != (k:Int))=true:=by rw [bne_iff_ne];omega
   rw [if_neg (fun q=>hk q.2)]
   clear hf hk
   go_enter Tryz.func89,Tryz.ntmps89
   go_wp2_with (first|(go_at_call 83;refine HO.out.mono ?_;rintro e w1 ⟨rfl,rfl⟩)|(go_at_call 146;refine HP.out.mono ?_;rintro e w2 ⟨rfl,hb⟩)|(go_at_call 139;refine (HF.out _ (H.out.later hb)).mono ?_))
   rintro e w3 ⟨rfl,hp,hk⟩
   go_wp2
   go_ret
   exact ⟨rfl,hp,(Kp.of hb H.out.B_le).trans hk⟩
 ·rw [show okB st=false from decide_eq_false hf] at HO
  rw [if_neg (fun q=>hf q.1)]
  clear hf
  go_enter Tryz.func89,Tryz.ntmps89
  go_wp2_with (first|(go_at_call 83;refine HO.out.mono ?_;rintro e w1 ⟨rfl,rfl⟩)|(go_at_call 139;refine (HF.out _ H.out).mono ?_))
  rintro e w3 ⟨rfl,hp,hk⟩
  go_wp2
  go_ret
  exact ⟨rfl,hp,hk⟩
def DPost (E:PEnv)(st:PSt)(w:World)(e:Ending)(w':World):Prop:=e=.returned (.bool (!okB st))∧PW E st w'∧Kp E.B w w'
theorem deep_any (E:PEnv)(hE:E.ok)(nest:Nat)(st:PSt)(w:World)(h:PW E st w) :
  Calls Tryz.prog 194 #[.pointer (some ⟨E.pb,0,none⟩),.int .i64 nest] w (DPost E (deepM E.toks E.depth nest st) w):=by
 have HF:=Lib.hid (fun w=>pfail_any E hE 23 st w)
 have H:=Lib.hid h
 obtain ⟨_,c1,_,_,_,_⟩:=h.cells
 by_cases hd:E.depth<nest
 ·have d1:decide (E.depth<nest)=true:=decide_eq_true hd
  have hq:deepM E.toks E.depth nest st=failM E.toks 23 st:=by rw [deepM,if_pos hd]
  rw [hq]
  clear hq hd h
  go_enter Tryz.func194,Tryz.ntmps194
  go_wp2_with (first|(go_at_call 139;refine (HF.out _ H.out).mono ?_))
  rintro e w2 ⟨rfl,hp,hk⟩
  have HO:=Lib.hid (ok_any E _ w2 hp)
  go_wp2_with (first|(go_at_call 83;refine HO.out.mono ?_;rintro e w3 ⟨rfl,rfl⟩))
  go_ret
  exact ⟨rfl,hp,hk⟩
 ·have d1:decide (E.depth<nest)=false:=decide_eq_false hd
  have hq:deepM E.toks E.depth nest st=st:=by rw [deepM,if_neg hd]
  rw [hq]
  have HO:=Lib.hid (ok_any E st w h)
  clear hq hd h
  go_enter Tryz.func194,Tryz.ntmps194
  go_wp2_with (first|(go_at_call 83;refine HO.out.mono ?_;rintro e w3 ⟨rfl,rfl⟩))
  go_ret
  exact ⟨rfl,H.out,Kp.refl _ _⟩
end Go.Proofs.YtbodlpoomfefcaaGreatDoor

namespace Go.Proofs.YtbodlpoomfefcaaGreatDoor
theorem deep_eq {toks:List Tok}{d d' n:Nat}{st:PSt}(hdd:d≤d')(h:(deepM toks d n st).fE=0):deepM toks d' n st=deepM toks d n st:=by
 unfold deepM at h ⊢
 split at h
 ·exact absurd h (failM_fE (by decide) st)
 ·rename_i hn
  rw [if_neg hn,if_neg (by omega)]
theorem listLoop_deeper (toks:List Tok)(one one':PSt→Option (Int × PSt))(h1:∀ s k,one s=some k→PExt s k.2)(h2:∀ s k,one s=some k→k.2.fE=0→one' s=some k):∀ (r:Nat) (kids:List Int) (st:PSt) (l:List Int × PSt),listLoop toks one r kids st=some l→l.2.fE=0→listLoop toks one' r kids st=some l
 | 0,kids,st,l,h,_=>h
 | r+1,kids,st,l,h,hl=>by
  rw [listLoop] at h ⊢
  split at h
  ·rename_i hf;rw [if_pos hf];exact h
  ·rename_i hf
   rw [if_neg hf]
   obtain ⟨k,hk,h⟩:=Option.bind_eq_some_iff.1 h
   have hk0:k.2.fE=0:=by
    split at h
    ·exact ((leafM_ext toks k.2).trans (listLoop_ext toks one h1 r _ _ _ h)).zero hl
    ·injection h with h;subst h;exact hl
   rw [h2 _ _ hk hk0,Option.bind_some]
   split at h
   ·rename_i hc;rw [if_pos hc];exact listLoop_deeper toks one one' h1 h2 r _ _ _ h hl
   ·rename_i hc;rw [if_neg hc];exact h
theorem listM_deeper (toks:List Tok)(one one':PSt→Option (Int × PSt))(h1:∀ s k,one s=some k→PExt s k.2)(h2:∀ s k,one s=some k→k.2.fE=0→one' s=some k)(st:PSt)(l:List Int × PSt)(h:listM toks one st=some l)(hl:l.2.fE=0):listM toks one' st=some l:=by
 unfold listM at h ⊢
 split at h
 ·rename_i hc;rw [if_pos hc];exact h
 ·rename_i hc;rw [if_neg hc];exact listLoop_deeper toks one one' h1 h2 _ _ _ _ h hl
theorem run_deeper (toks:List Tok)(d d':Nat)(hdd:d≤d'):∀ (g:Nat) (t:Task) (st:PSt) (r:Int × PSt),run toks d g t st=some r→r.2.fE=0→run toks d' g t st=some r
 | 0,_,_,_,h,_=>by rw [run] at h;cases h
 | g+1,.expr nest,st,r,h,hr=>by
  have ih:=run_deeper toks d d' hdd g
  have ex:=run_ext toks d g
  have hd0:(deepM toks d nest st).fE=0:=by
   apply Classical.byContradiction
   intro q
   rw [run,if_pos q] at h
   injection h with h;subst h
   exact q hr
  rw [run] at h ⊢
  rw [deep_eq hdd hd0]
  generalize deepM toks d nest st=s at h hd0
  rw [if_neg (by simp [hd0])] at h ⊢
  split at h
  ·rename_i hc;rw [if_pos hc];exact ih _ _ _ h hr
  rename_i hc;rw [if_neg hc]
  split at h
  ·rename_i hc;rw [if_pos hc]
   obtain ⟨x,h1,h⟩:=Option.bind_eq_some_iff.1 h
   obtain ⟨f,h2,h⟩:=Option.bind_eq_some_iff.1 h
   injection h with h;subst h
   have z2:=(nodeM_ext _ _ _).zero hr
   have z1:=((mustM_ext _ _ _).trans (ex _ _ _ h2)).zero z2
   rw [ih _ _ _ h1 z1,Option.bind_some,ih _ _ _ h2 z2,Option.bind_some]
  rename_i hc;rw [if_neg hc]
  split at h
  ·rename_i hc;rw [if_pos hc]
   obtain ⟨x,h1,h⟩:=Option.bind_eq_some_iff.1 h
   obtain ⟨y,h2,h⟩:=Option.bind_eq_some_iff.1 h
   obtain ⟨f,h3,h⟩:=Option.bind_eq_some_iff.1 h
   injection h with h;subst h
   have z3:=(nodeM_ext _ _ _).zero hr
   have z2:=((mustM_ext _ _ _).trans (ex _ _ _ h3)).zero z3
   have z1:=((mustM_ext _ _ _).trans (ex _ _ _ h2)).zero z2
   rw [ih _ _ _ h1 z1,Option.bind_some,ih _ _ _ h2 z2,Option.bind_some,ih _ _ _ h3 z3,Option.bind_some]
  rename_i hc;rw [if_neg hc]
  split at h
  ·rename_i hc;rw [if_pos hc]
   obtain ⟨x,h1,h⟩:=Option.bind_eq_some_iff.1 h
   obtain ⟨f,h2,h⟩:=Option.bind_eq_some_iff.1 h
   injection h with h;subst h
   have z2:=(nodeM_ext _ _ _).zero hr
   have z1:=((mustM_ext _ _ _).trans (ex _ _ _ h2)).zero z2
   rw [ih _ _ _ h1 z1,Option.bind_some,ih _ _ _ h2 z2,Option.bind_some]
  ·rename_i hc;rw [if_neg hc];exact ih _ _ _ h hr
 | g+1,.formula nest,st,r,h,hr=>by
  have ih:=run_deeper toks d d' hdd g
  have ex:=run_ext toks d g
  rw [run] at h ⊢
  obtain ⟨a,h1,h⟩:=Option.bind_eq_some_iff.1 h
  split at h
  ·rename_i hn
   have hd0:(deepM toks d (nest+1) (leafM toks a.2).2).fE=0:=by
    apply Classical.byContradiction
    intro q
    rw [if_pos q] at h
    injection h with h;subst h
    exact q hr
   rw [if_neg (by simp [hd0])] at h
   obtain ⟨b,h2,h⟩:=Option.bind_eq_some_iff.1 h
   injection h with h;subst h
   have z2:=(nodeM_ext _ _ _).zero hr
   have z1:=((leafM_ext toks a.2).trans (deepM_ext _ _ _ _)).zero hd0
   rw [ih _ _ _ h1 z1,Option.bind_some,if_pos hn,deep_eq hdd hd0,if_neg (by simp [hd0]),ih _ _ _ h2 z2,Option.bind_some]
  ·rename_i hn
   injection h with h;subst h
   rw [ih _ _ _ h1 hr,Option.bind_some,if_neg hn]
 | g+1,.part l nest,st,r,h,hr=>by
  have ih:=run_deeper toks d d' hdd g
  rw [run] at h ⊢
  split at h
  ·rename_i hc;rw [if_pos hc];exact ih _ _ _ h hr
  ·rename_i hc;rw [if_neg hc]
   split at h
   ·rename_i hc;rw [if_pos hc];exact ih _ _ _ h hr
   ·rename_i hc;rw [if_neg hc];exact ih _ _ _ h hr
 | g+1,.row l nest,st,r,h,hr=>by
  have ih:=run_deeper toks d d' hdd g
  have ex:=run_ext toks d g
  rw [run] at h ⊢
  obtain ⟨a,h1,h⟩:=Option.bind_eq_some_iff.1 h
  rw [ih _ _ _ h1 ((ex _ _ _ h).zero hr),Option.bind_some]
  exact ih _ _ _ h hr
 | g+1,.loop l nest a,st,r,h,hr=>by
  have ih:=run_deeper toks d d' hdd g
  have ex:=run_ext toks d g
  rw [run] at h ⊢
  split at h
  ·rename_i hn
   rw [if_pos hn]
   obtain ⟨b,h1,h⟩:=Option.bind_eq_some_iff.1 h
   have z:(nodeM 10 [a,(leafM toks st).1,b.1] b.2).2.fE=0:=by
    split at h
    ·injection h with h;subst h;exact hr
    ·exact (ex _ _ _ h).zero hr
   rw [ih _ _ _ h1 ((nodeM_ext _ _ _).zero z),Option.bind_some]
   split at h
   ·rename_i hc;rw [if_pos hc];exact h
   ·rename_i hc;rw [if_neg hc];exact ih _ _ _ h hr
  ·rename_i hn
   rw [if_neg hn];exact h
 | g+1,.neg nest,st,r,h,hr=>by
  have ih:=run_deeper toks d d' hdd g
  rw [run] at h ⊢
  split at h
  ·rename_i hn
   rw [if_pos hn]
   have hd0:(deepM toks d (nest+1) (leafM toks st).2).fE=0:=by
    apply Classical.byContradiction
    intro q
    rw [if_pos q] at h
    injection h with h;subst h
    exact q hr
   rw [if_neg (by simp [hd0])] at h
   obtain ⟨b,h2,h⟩:=Option.bind_eq_some_iff.1 h
   injection h with h;subst h
   rw [deep_eq hdd hd0,if_neg (by simp [hd0]),ih _ _ _ h2 ((nodeM_ext _ _ _).zero hr),Option.bind_some]
  ·rename_i hn
   rw [if_neg hn];exact ih _ _ _ h hr
 | g+1,.factor nest,st,r,h,hr=>by
  have ih:=run_deeper toks d d' hdd g
  rw [run] at h ⊢
  split at h
  ·rename_i hn
   rw [if_pos hn]
   have hd0:(deepM toks d (nest+1) (leafM toks st).2).fE=0:=by
    apply Classical.byContradiction
    intro q
    rw [if_pos q] at h
    injection h with h;subst h
    exact q hr
   rw [if_neg (by simp [hd0])] at h
   obtain ⟨b,h2,h⟩:=Option.bind_eq_some_iff.1 h
   injection h with h;subst h
   rw [deep_eq hdd hd0,if_neg (by simp [hd0]),ih _ _ _ h2 ((nodeM_ext _ _ _).zero hr),Option.bind_some]
  ·rename_i hn
   rw [if_neg hn];exact ih _ _ _ h hr
 | g+1,.atom nest,st,r,h,hr=>by
  have ih:=run_deeper toks d d' hdd g
  rw [run] at h ⊢
  split at h
  ·rename_i hc;rw [if_pos hc];exact h
  rename_i hc;rw [if_neg hc]
  split at h
  ·rename_i hc;rw [if_pos hc];exact h
  rename_i hc;rw [if_neg hc]
  split at h
  ·rename_i hc;rw [if_pos hc];exact h
  rename_i hc;rw [if_neg hc]
  split at h
  ·rename_i hc;rw [if_pos hc];exact h
  rename_i hc;rw [if_neg hc]
  split at h
  ·rename_i hc;rw [if_pos hc]
   obtain ⟨b,h1,h⟩:=Option.bind_eq_some_iff.1 h
   injection h with h;subst h
   rw [ih _ _ _ h1 (((mustM_ext _ _ _).trans (nodeM_ext _ _ _)).zero hr),Option.bind_some]
  rename_i hc;rw [if_neg hc]
  split at h
  ·rename_i hc;rw [if_pos hc];exact ih _ _ _ h hr
  ·rename_i hc;rw [if_neg hc];exact h
 | g+1,.name nest,st,r,h,hr=>by
  have ih:=run_deeper toks d d' hdd g
  have ex:=run_ext toks d g
  rw [run] at h ⊢
  split at h
  ·rename_i hc;rw [if_pos hc];exact h
  ·rename_i hc;rw [if_neg hc]
   obtain ⟨l,h1,h⟩:=Option.bind_eq_some_iff.1 h
   injection h with h;subst h
   rw [listM_deeper toks _ (fun s=>run toks d' g (.expr (nest+1)) s) (fun s k hk=>ex _ _ _ hk) (fun s k hk hz=>ih _ _ _ hk hz) _ _ h1 (((mustM_ext _ _ _).trans (nodeM_ext _ _ _)).zero hr),Option.bind_some]
theorem aloneM_deeper {toks:List Tok}{d d' g:Nat}{st:PSt}(hdd:d≤d')(h:aloneM toks d g=some st)(hs:st.fE=0):aloneM toks d' g=some st:=by
 unfold aloneM at h ⊢
 obtain ⟨a,h1,h⟩:=Option.bind_eq_some_iff.1 h
 injection h with h;subst h
 rw [run_deeper toks d d' hdd g _ _ _ h1 (((kindM_ext _ _ _).trans (nodeM_ext _ _ _)).zero hs),Option.bind_some]
end Go.Proofs.YtbodlpoomfefcaaGreatDoor

namespace Go.Proofs.YtbodlpoomfefcaaGreatDoor
open Go.RowKit
theorem below_new (w:World)(o:Obj):Below w.heap.size w (w.alloc o):=(Below.refl _ _).alloc (Nat.le_refl _) o
def NPost (E:PEnv)(st:PSt)(b:Bool)(w:World)(e:Ending)(w':World):Prop:=e=.returned (.bool b)∧PW E st w'∧Kp E.B w w'
theorem strs_one (w:World)(b:ByteArray):StrsAt (w.alloc (.cells #[.string b] 9)) (.slice (some ⟨w.heap.size,0,none⟩) 1 1) [b.data.toList]:=by
 refine ⟨w.heap.size,0,1,rfl,by simp,fun j hj=>?_⟩
 obtain rfl:j=0:=by simpa using hj
 rw [Lib.cell_of_heap (heap_alloc_new _ _)]
 have:ByteArray.mk b.data.toList.toArray=b:=by cases b;simp
 simp [this]
theorem strs_two (w:World)(b c:ByteArray):StrsAt (w.alloc (.cells #[.string b,.string c] 9)) (.slice (some ⟨w.heap.size,0,none⟩) 2 2) [b.data.toList,c.data.toList]:=by
 refine ⟨w.heap.size,0,2,rfl,by simp,fun j hj=>?_⟩
 have h1:ByteArray.mk b.data.toList.toArray=b:=by cases b;simp
 have h2:ByteArray.mk c.data.toList.toArray=c:=by cases c;simp
 rw [Lib.cell_of_heap (heap_alloc_new _ _)]
 match j,hj with
 | 0,_=>simp [h1]
 | 1,_=>simp [h2]
theorem next_one (E:PEnv)(hE:E.ok)(b:ByteArray)(st:PSt)(w:World)(h:PW E st w) :
  Calls Tryz.prog 138 #[.pointer (some ⟨E.pb,0,none⟩),.slice (some ⟨w.heap.size,0,none⟩) 1 1] (w.alloc (.cells #[.string b] 9)) (NPost E st (nextF E.toks st [b.data.toList]) w):=by
 have hA:=h.later (below_new w (.cells #[.string b] 9))
 refine (next_any E _ _ st _ hA (strs_one w b) hE.1 hE.2.1 (by simp)).mono ?_
 rintro e w' ⟨rfl,hb⟩
 exact ⟨rfl,hA.later hb,(Kp.of (below_new w _) h.B_le).trans (Kp.of hb hA.B_le)⟩
theorem next_two (E:PEnv)(hE:E.ok)(b c:ByteArray)(st:PSt)(w:World)(h:PW E st w) :
  Calls Tryz.prog 138 #[.pointer (some ⟨E.pb,0,none⟩),.slice (some ⟨w.heap.size,0,none⟩) 2 2] (w.alloc (.cells #[.string b,.string c] 9)) (NPost E st (nextF E.toks st [b.data.toList,c.data.toList]) w):=by
 have hA:=h.later (below_new w (.cells #[.string b,.string c] 9))
 refine (next_any E _ _ st _ hA (strs_two w b c) hE.1 hE.2.1 (by simp)).mono ?_
 rintro e w' ⟨rfl,hb⟩
 exact ⟨rfl,hA.later hb,(Kp.of (below_new w _) h.B_le).trans (Kp.of hb hA.B_le)⟩
theorem must_one (E:PEnv)(hE:E.ok)(b:ByteArray)(st:PSt)(w:World)(h:PW E st w)(hn:st.nodes.length+1≤1099511627776) :
  Calls Tryz.prog 141 #[.pointer (some ⟨E.pb,0,none⟩),.slice (some ⟨w.heap.size,0,none⟩) 1 1] (w.alloc (.cells #[.string b] 9)) (PPost E (mustM E.toks [b.data.toList] st) w):=by
 have hA:=h.later (below_new w (.cells #[.string b] 9))
 refine (must_any E hE _ _ st _ hA (strs_one w b) (by simp) hn).mono ?_
 rintro e w' ⟨rfl,hp,hk⟩
 exact ⟨rfl,hp,(Kp.of (below_new w _) h.B_le).trans hk⟩
theorem ints_new (w:World)(ks:List Int):IntsAt (w.alloc (.cells (ks.map (Value.int .i64)).toArray 3)) (.slice (some ⟨w.heap.size,0,none⟩) ks.length ks.length) ks:=by
 refine ⟨some ⟨w.heap.size,0,none⟩,ks.length,rfl,Nat.le_refl _,fun _=>⟨w.heap.size,0,_,_,rfl,heap_alloc_new _ _,fun j hj=>?_⟩⟩
 simp [hj]
theorem node_lit (E:PEnv)(kind:Int)(ks:List Int)(n:Nat)(cs:Array Value)(st:PSt)(w:World)(h:PW E st w)(hn:ks.length=n)(hc:(ks.map (Value.int .i64)).toArray=cs)(hk:n≤1000)(hl:st.nodes.length+1≤1099511627776) :
  Calls Tryz.prog 88 #[.pointer (some ⟨E.pb,0,none⟩),.int .i64 kind,.slice (some ⟨w.heap.size,0,none⟩) n n] (w.alloc (.cells cs 3)) (PPost E (nodeM kind ks st) w):=by
 subst hn hc
 have hA:=h.later (below_new w (.cells (ks.map (Value.int .i64)).toArray 3))
 refine (pnode_any E kind _ ks st _ hA (ints_new w ks) (by omega) hl).mono ?_
 rintro e w' ⟨rfl,hp,hk⟩
 exact ⟨rfl,hp,(Kp.of (below_new w _) h.B_le).trans hk⟩
def taskCalls (E:PEnv)(r:Int × PSt)(w:World):Task→Prop
 | .expr nest=>Calls Tryz.prog 125 #[.pointer (some ⟨E.pb,0,none⟩),.int .i64 nest] w (PPost E r w)
 | .formula nest=>Calls Tryz.prog 195 #[.pointer (some ⟨E.pb,0,none⟩),.int .i64 nest] w (PPost E r w)
 | .part l nest=>Calls Tryz.prog 280 #[.pointer (some ⟨E.pb,0,none⟩),.int .i64 l,.int .i64 nest] w (PPost E r w)
 | .row l nest=>Calls Tryz.prog 253 #[.pointer (some ⟨E.pb,0,none⟩),.int .i64 l,.int .i64 nest] w (PPost E r w)
 | .neg nest=>Calls Tryz.prog 306 #[.pointer (some ⟨E.pb,0,none⟩),.int .i64 nest] w (PPost E r w)
 | .factor nest=>Calls Tryz.prog 307 #[.pointer (some ⟨E.pb,0,none⟩),.int .i64 nest] w (PPost E r w)
 | .atom nest=>Calls Tryz.prog 320 #[.pointer (some ⟨E.pb,0,none⟩),.int .i64 nest] w (PPost E r w)
 | .name nest=>Calls Tryz.prog 322 #[.pointer (some ⟨E.pb,0,none⟩),.int .i64 nest] w (PPost E r w)
 | .loop _ _ _=>True
def nestOk (E:PEnv):Task→Prop
 | .expr nest=>nest≤E.depth+1
 | .formula nest=>nest≤E.depth
 | .part l nest=>l≤4∧nest≤E.depth
 | .row l nest=>l≤4∧nest≤E.depth
 | .neg nest=>nest≤E.depth
 | .factor nest=>nest≤E.depth
 | .atom nest=>nest≤E.depth
 | .name nest=>nest≤E.depth
 | .loop l nest _=>l≤4∧nest≤E.depth
def AllT (E:PEnv)(g:Nat):Prop:=∀ (t:Task) (st:PSt) (r:Int × PSt) (w:World),run E.toks E.depth g t st=some r→PW E st w→r.2.nodes.length+1≤1099511627776→nestOk E t→taskCalls E r w t
end Go.Proofs.YtbodlpoomfefcaaGreatDoor

namespace Go.Proofs.YtbodlpoomfefcaaGreatDoor
open Go.RowKit Go Go.Sort
def TxAt (P:Nat→Prop)(w:World)(v:Value)(l:List (List UInt8)):Prop:=SlP P w v 1 l.length (l.map encStr)∧∀ n c,v=.slice none n c→c=0
theorem TxAt.clip {P:Nat→Prop}{w:World}{ao:Option Addr}{n c:Nat}{l:List (List UInt8)}(h:TxAt P w (.slice ao n c) l):n=l.length∧TxAt P w (.slice ao l.length l.length) l:=by
 obtain ⟨⟨ao',cap,hv,h1,h2,h3⟩,h4⟩:=h
 simp only [Value.slice.injEq] at hv
 obtain ⟨rfl,rfl,rfl⟩:=hv
 refine ⟨rfl,⟨ao,l.length,rfl,Nat.le_refl _,h2,h3⟩,fun n' c' q=>?_⟩
 simp only [Value.slice.injEq] at q
 obtain ⟨q1,-,rfl⟩:=q
 rcases Nat.eq_zero_or_pos l.length with q|q
 ·exact q
 ·obtain ⟨b,off,q2,_⟩:=h3 (by simpa using q)
  rw [q1] at q2
  cases q2
theorem TxAt.slice {P:Nat→Prop}{w:World}{v:Value}{l:List (List UInt8)}(h:TxAt P w v l):∃ ao cap,v=.slice ao l.length cap∧l.length≤cap∧(0<l.length→∃ b off,ao=some ⟨b,off,none⟩∧P b∧b<w.heap.size∧∀ i,(hi:i<l.length)→w.cell? ⟨b,off+i,none⟩=some (.string ⟨l[i].toArray⟩)):=by
 obtain ⟨ao,cap,hv,h1,h2,h3⟩:=h.1
 refine ⟨ao,cap,hv,h1,fun h0=>?_⟩
 obtain ⟨b,off,q1,q2,q3,q4⟩:=h3 (by simpa using h0)
 refine ⟨b,off,q1,q2,q3,fun i hi=>?_⟩
 have:=q4 i (by simpa using hi)
 simp only [List.getElem_map] at this
 exact this
theorem TxAt.frame {P:Nat→Prop}{w w':World}{v:Value}{l:List (List UInt8)}(h:TxAt P w v l)(ha:Alk P w w'):TxAt P w' v l:=⟨SlP.frame h.1 ha,h.2⟩
theorem TxAt.imp {P Q:Nat→Prop}{w:World}{v:Value}{l:List (List UInt8)}(h:TxAt P w v l)(hq:∀ b,P b→b<w.heap.size→Q b):TxAt Q w v l:=⟨SlP.imp h.1 hq,h.2⟩
theorem TxAt.below {P:Nat→Prop}{w w':World}{v:Value}{l:List (List UInt8)}(h:TxAt P w v l)(hb:Below w.heap.size w w'):TxAt P w' v l:=h.frame (Alk.of hb)
theorem TxAt.nil (P:Nat→Prop)(w:World):TxAt P w (.slice none 0 0) []:=⟨SlP.nil P w 1,fun n c q=>by injection q with _ _ q;exact q.symm⟩
theorem TxAt.owns {P:Nat→Prop}{B:Nat}{w:World}{e:TypeId}{v:Value}{l:List (List UInt8)}(h:w.ownsRow B e 1 v l.length (l.map encStr))(hP:∀ b,B≤b→P b):TxAt P w v l:=by
 refine ⟨SlP.ofOwns h hP,fun n c q=>?_⟩
 rcases h.2 with ⟨h3,_⟩|⟨g,cap,cur,h3,_⟩
 ·rw [q] at h3;injection h3
 ·rw [q] at h3;injection h3 with h3;cases h3
def CloneS (l:List (List UInt8))(w:World)(e:Ending)(w':World):Prop:=∃ v',e=.returned v'∧w'.ownsRow w.heap.size 9 1 v' l.length (l.map encStr)∧Below w.heap.size w w'
theorem cloneS_any (P:Nat→Prop)(v:Value)(l:List (List UInt8))(w:World)(h:TxAt P w v l)(hl:l.length≤1000000):Calls Tryz.prog 176 #[v] w (CloneS l w):=by
 obtain ⟨ao,cap,rfl,hcap,hc⟩:=h.slice
 rcases Nat.eq_zero_or_pos l.length with h0|h0
 ·obtain rfl:=List.eq_nil_of_length_eq_zero h0
  cases ao with
  | none=>exact (Tryz.slices_Clone_string_nil 0 cap w).mono fun e w' q=>⟨_,q.1,World.ownsRow_nil _ _ _ _,by rw [q.2];exact Below.refl _ _⟩
  | some a=>exact (Tryz.slices_Clone_string_zero a cap w).mono fun e w' ⟨v',q1,q2,_,q3⟩=>⟨v',q1,q2,q3⟩
 ·obtain ⟨b,off,rfl,_,_,hcell⟩:=hc h0
  refine (Tryz.slices_Clone_string b off l.length cap (l.map fun s=>⟨s.toArray⟩) w (by simp) (by omega) (fun j hj=>?_)).mono fun e w' ⟨v',q1,q2,_,q3⟩=>⟨v',q1,?_,q3⟩
  ·have hj':j<l.length:=by simpa using hj
   rw [hcell j hj']
   simp [List.getD_eq_getElem?_getD,hj']
  ·rw [List.take_of_length_le (by simp),List.map_map] at q2
   exact q2
theorem clip_any (a:Option Addr)(n c:Nat)(w:World)(h:n≤c)(hc:c≤9223372036854775807)(h0:a=none→n=0):Calls Tryz.prog 234 #[.slice a n c] w fun e w'=>e=.returned (.slice a n n)∧w'=w:=by
 have h1:(n:Int)≤(c:Int):=by omega
 have h2:(0:Int)≤(n:Int):=by omega
 cases a with
 | none =>
  obtain rfl:=h0 rfl
  clear h0
  go_enter Tryz.func234,Tryz.ntmps234
  go_wp2
  go_ret
  exact ⟨rfl,rfl⟩
 | some a =>
  clear h0
  go_enter Tryz.func234,Tryz.ntmps234
  go_wp2
  go_ret
  exact ⟨rfl,rfl⟩
def SetPost (l:List (List UInt8))(w:World)(e:Ending)(w':World):Prop:=∃ ao c,e=.returned (.agg #[.slice ao l.length c])∧TxAt (fun b=>w.heap.size≤b) w' (.slice ao l.length c) l∧Below w.heap.size w w'
theorem bag_left {w w1:World}{B g cap n nn q:Nat}{os:Array Obj}{ss:List (List UInt8)}(hown:w1.ownsRow B 9 1 (.slice (some ⟨g,0,none⟩) n cap) n (ss.map encStr))(hbel:Below B w w1)(hbg:B≤g)(hBw:B≤w.heap.size)(hlen:ss.length=n) :
  (putRow encStr (Sort.ahead (grow (putRow encStr (Sort.ahead w1 nn) g 0 (sortT ss).toArray) os) q) g 0 (Lib.compact (sortT ss)++List.replicate (n - (Lib.compact (sortT ss)).length) []).toArray).ownsRow B 9 1 (.slice (some ⟨g,0,none⟩) (setT ss).length cap) (setT ss).length ((setT ss).map encStr) ∧
  Below B w (putRow encStr (Sort.ahead (grow (putRow encStr (Sort.ahead w1 nn) g 0 (sortT ss).toArray) os) q) g 0 (Lib.compact (sortT ss)++List.replicate (n - (Lib.compact (sortT ss)).length) []).toArray):=by
 have hl2:(sortT ss).length=ss.length:=sortT_len ss
 have hle:=Lib.compact_length_le (sortT ss)
 subst hlen
 rcases hown.2 with ⟨h0,_⟩|⟨g',cap',cur,hv,hbase,hb,h1,h2,h3,h4⟩
 ·cases h0
 cases hv
 have hs:=ownsRow_sorted (n:=nn) (os:=os) (ts:=sortT ss) hl2 hbase hb h1 h2 h3
 have hc:=Lib.ownsRow_putRow (q:=q) (k:=(Lib.compact (sortT ss)).length) (ys:=Lib.compact (sortT ss)++List.replicate (ss.length - (Lib.compact (sortT ss)).length) []) hs (by simp;omega) (by omega)
 rw [List.take_left] at hc
 exact ⟨hc,Lib.below_putRow (hbel.grown (grownBy_sorted _) (Nat.le_trans hBw hbel.size) (fun j hj=>by cases hj;exact hbase)) hbg⟩
theorem of_any (P:Nat→Prop)(v:Value)(l:List (List UInt8))(w:World)(h:TxAt P w v l)(hl:l.length≤1000000):Calls Tryz.prog 174 #[v] w (SetPost (setT l) w):=by
 have hal:=below_new w (.cells #[.slice none 0 0] 131)
 have hN:=heap_alloc_new w (.cells #[.slice none 0 0] 131)
 have HC:=Lib.hid (fun W (hW:Below w.heap.size w W)=>cloneS_any P v l W (h.below hW) hl)
 clear h
 go_enter Tryz.func174,Tryz.ntmps174
 go_upto_region 1 with fail
 change Code.wp _ _ _ _ (w.alloc (.cells #[.slice none 0 0] 131))
 generalize w.alloc _=w1 at hal hN ⊢
 have hl1:=(Array.getElem?_eq_some_iff.1 hN).1
 go_upto_region 2 with (go_at_call 176;refine (HC.out _ hal).mono ?_;rintro e w2 ⟨v',rfl,hown,hb2⟩)
 have hz1:=hal.size
 have hz2:=hb2.size
 have hN2:=(hb2.block w.heap.size hl1).trans hN
 by_cases hv:v'=.slice none 0 0
 ·subst hv
  have hl0:l=[]:=by
   rcases hown.2 with ⟨_,q⟩|⟨g,cap,cur,hv,_⟩
   ·exact List.eq_nil_of_length_eq_zero q
   ·cases hv
  subst hl0
  have hfz:w2.frozen? ⟨w.heap.size,0,none⟩=false:=by simp [World.frozen?,hN2]
  have hc0:w2.cell? ⟨w.heap.size,0,none⟩=some (.slice none 0 0):=by rw [Lib.cell_of_heap hN2];rfl
  have hbw:Below w.heap.size w (w2.setCell ⟨w.heap.size,0,none⟩ (.slice none 0 0)):=(hal.trans (hb2.mono hz1)).setCell (Nat.le_refl _) _
  have hs0:(w2.setCell ⟨w.heap.size,0,none⟩ (.slice none 0 0)).cell? ⟨w.heap.size,0,none⟩=some (.slice none 0 0):=by
   have:=heap_setCell_same w2 w.heap.size 0 _ _ (.slice none 0 0) hN2
   rw [Lib.cell_of_heap this];rfl
  clear hN hN2 hown HC hal hb2
  go_wp2_with (first|(go_at_call 233;refine (Tryz.slices_Sort_string_none none 0 _).mono ?_;rintro e w' ⟨rfl,rfl⟩)|(go_at_call 235;refine (Tryz.slices_Compact_string_empty none 0 _).mono ?_;rintro e w' ⟨rfl,rfl⟩)|(go_at_call 234;refine (clip_any none 0 0 _ (by omega) (by omega) (fun _=>rfl)).mono ?_;rintro e w' ⟨rfl,rfl⟩))
  refine bodyPost_ret (v:=.agg #[.slice none 0 0]) (by simp [results,Tryz.results174,go_sem,hs0]) rfl ⟨none,0,by rw [setT_nil];rfl,by rw [setT_nil];exact TxAt.nil _ _,hbw⟩
 ·obtain ⟨g,cap,rfl,hbg,hgl,hncap,hcm,hlen,hH⟩:=Lib.holds_of_ownsRow hown hv
  have hlen':l.length=l.length:=rfl
  have HS:=Lib.hid (Tryz.slices_Sort_string g 0 cap l w2 hH hgl (by omega))
  have HCP:Hid (∀ nn os,Calls Tryz.prog 235 #[.slice (some ⟨g,0,none⟩) l.length cap] (grow (putRow encStr (Sort.ahead w2 nn) g 0 (sortT l).toArray) os) fun e w'=>e=.returned (.slice (some ⟨g,0,none⟩) (setT l).length cap)∧∃ q,w'=putRow encStr (Sort.ahead (grow (putRow encStr (Sort.ahead w2 nn) g 0 (sortT l).toArray) os) q) g 0 (Lib.compact (sortT l)++List.replicate (l.length - (Lib.compact (sortT l)).length) []).toArray):=Lib.hid fun nn os=>by
   have hH2:Holds encStr (grow (putRow encStr (Sort.ahead w2 nn) g 0 (sortT l).toArray) os) g 0 (sortT l).toArray :=
    holds_grow encStr _ os g 0 _ (by simpa [putRow,mapBlock,Sort.ahead] using hgl) (holds_putRow encStr _ g 0 _ _ (holds_ahead encStr w2 nn g 0 _ hH) (by simp [sortT_len]))
   have:=Tryz.slices_Compact_string g 0 cap (sortT l) _ hH2 (by rw [sortT_len];omega) (by rw [sortT_len];omega)
   rw [sortT_len] at this
   exact this
  have hsl:=setT_len l
  have hcp:cap≤9223372036854775807:=by unfold maxLen at hcm;omega
  have HOWN:=Lib.hid hown
  have hN1:=hN
  clear hown hH HC hN hN2 hv
  go_upto_region 3 with (go_at_call 233;refine HS.out.mono ?_;rintro e w3 ⟨rfl,nn,os,rfl⟩)
  have HC2:=Lib.hid (HCP.out nn os)
  have HF:Hid (∀ q,(putRow encStr (Sort.ahead (grow (putRow encStr (Sort.ahead w2 nn) g 0 (sortT l).toArray) os) q) g 0 (Lib.compact (sortT l)++List.replicate (l.length - (Lib.compact (sortT l)).length) []).toArray).ownsRow w1.heap.size 9 1 (.slice (some ⟨g,0,none⟩) (setT l).length cap) (setT l).length ((setT l).map encStr)∧Below w1.heap.size w1 (putRow encStr (Sort.ahead (grow (putRow encStr (Sort.ahead w2 nn) g 0 (sortT l).toArray) os) q) g 0 (Lib.compact (sortT l)++List.replicate (l.length - (Lib.compact (sortT l)).length) []).toArray)):=Lib.hid fun q=>bag_left (nn:=nn) (q:=q) (os:=os) HOWN.out hb2 hbg (Nat.le_refl _) rfl
  clear HCP HS
  change Code.wp _ _ _ _ (grow (putRow encStr (Sort.ahead w2 nn) g 0 (sortT l).toArray) os)
  generalize grow (putRow encStr (Sort.ahead w2 nn) g 0 (sortT l).toArray) os=w3 at HC2 HF ⊢
  have HCL:=Lib.hid (fun W=>clip_any (some ⟨g,0,none⟩) (setT l).length cap W (by omega) hcp (fun q=>by cases q))
  go_wp2_with (first|(go_at_call 235;refine HC2.out.mono ?_;rintro e w4 ⟨rfl,q,rfl⟩;have hF:=HF.out q;clear HC2 HF;generalize putRow encStr _ _ _ _=w4 at hF ⊢;have hN4:=(hF.2.block w.heap.size hl1).trans hN1;have hfz:w4.frozen? ⟨w.heap.size,0,none⟩=false:=(by simp [World.frozen?,hN4]);have hc0:w4.cell? ⟨w.heap.size,0,none⟩=some (.slice none 0 0):=(by rw [Lib.cell_of_heap hN4];rfl))|(go_at_call 234;refine (HCL.out _).mono ?_;rintro e w' ⟨rfl,rfl⟩))
  have hs0:(w'.setCell ⟨w.heap.size,0,none⟩ (.slice (some ⟨g,0,none⟩) (setT l).length (setT l).length)).cell? ⟨w.heap.size,0,none⟩=some (.slice (some ⟨g,0,none⟩) (setT l).length (setT l).length):=by
   have:=heap_setCell_same w' w.heap.size 0 _ _ (.slice (some ⟨g,0,none⟩) (setT l).length (setT l).length) hN4
   rw [Lib.cell_of_heap this];rfl
  have hbw:Below w.heap.size w (w'.setCell ⟨w.heap.size,0,none⟩ (.slice (some ⟨g,0,none⟩) (setT l).length (setT l).length)):=(hal.trans (hF.2.mono hz1)).setCell (Nat.le_refl _) _
  have htx:TxAt (fun b=>w1.heap.size≤b) w' (.slice (some ⟨g,0,none⟩) (setT l).length cap) (setT l):=TxAt.owns hF.1 (fun _ hb=>hb)
  have htx2:TxAt (fun b=>w.heap.size≤b) (w'.setCell ⟨w.heap.size,0,none⟩ (.slice (some ⟨g,0,none⟩) (setT l).length (setT l).length)) (.slice (some ⟨g,0,none⟩) (setT l).length (setT l).length) (setT l):=(htx.clip.2.frame (Alk.set _ fun b hb=>by show b≠w.heap.size;omega)).imp fun b hb _=>by omega
  exact bodyPost_ret (v:=.agg #[.slice (some ⟨g,0,none⟩) (setT l).length (setT l).length]) (by simp [results,Tryz.results174,go_sem,hs0]) rfl ⟨_,_,rfl,htx2,hbw⟩
def seekX (l:List (List UInt8))(x:ByteArray)(j:Nat):ByteArray:=if h:j<l.length then ⟨l[j].toArray⟩ else x
theorem seekX_list (l:List (List UInt8))(x:ByteArray)(j:Nat):(seekX l x j).data.toList=if h:j<l.length then l[j] else x.data.toList:=by
 unfold seekX
 split <;> rfl
theorem take_lt (l:List (List UInt8))(x:List UInt8):∀ t,t<(l.takeWhile fun y=>decide (y<x)).length→∀ (h:t<l.length),l[t]<x:=fun t ht h2=>by
 have h1:(l.takeWhile fun y=>decide (y<x))[t]=l[t]:=List.IsPrefix.getElem (List.takeWhile_prefix _) ht
 have h3:=List.all_takeWhile (l:=l) (p:=fun y=>decide (y<x))
 have h4:=List.all_eq_true.1 h3 _ (List.getElem_mem ht)
 rw [h1] at h4
 simpa using h4
theorem take_stop (x:List UInt8):∀ (l:List (List UInt8)) (h:(l.takeWhile fun y=>decide (y<x)).length<l.length),¬ l[(l.takeWhile fun y=>decide (y<x)).length]<x
 | [],h=>absurd h (by simp)
 | y :: l,h=>by
  by_cases q:y<x
  ·have e:((y :: l).takeWhile fun y=>decide (y<x))=y :: (l.takeWhile fun y=>decide (y<x)):=List.takeWhile_cons_of_pos (by simpa using q)
   have h2:(l.takeWhile fun y=>decide (y<x)).length<l.length:=by
    rw [e] at h
    simpa using h
   have ih:=take_stop x l h2
   have:∀ n,(hn:n<(y :: l).length)→n=(l.takeWhile fun y=>decide (y<x)).length+1→¬ (y :: l)[n]<x:=by
    rintro n hn rfl
    exact ih
   exact this _ h (by rw [e];rfl)
  ·have e:((y :: l).takeWhile fun y=>decide (y<x))=[]:=List.takeWhile_cons_of_neg (by simpa using q)
   have:∀ n,(hn:n<(y :: l).length)→n=0→¬ (y :: l)[n]<x:=by
    rintro n hn rfl
    exact q
   exact this _ h (by rw [e];rfl)
theorem seek_found (l:List (List UInt8))(x:ByteArray)(hl:l.Pairwise (· < ·)):decide (Lib.bsGo (fun t=>Op.bytesLess (seekX l x t).toList x.toList) l.length 0 l.length<l.length∧seekX l x (Lib.bsGo (fun t=>Op.bytesLess (seekX l x t).toList x.toList) l.length 0 l.length)=x)=decide (x.data.toList∈l):=by
 simp only [Lib.toList_data,Go.Proofs.bytesLess_eq,seekX_list]
 have hA:=take_lt l x.data.toList
 have hB:=take_stop x.data.toList l
 have hC:=(List.takeWhile_prefix (l:=l) (fun y=>decide (y<x.data.toList))).length_le
 generalize (l.takeWhile fun y=>decide (y<x.data.toList)).length=k at hA hB hC
 have hk:=Lib.bsGo_spec (fun t=>decide ((if h:t<l.length then l[t] else x.data.toList)<x.data.toList)) k (fun t ht=>by
   have htl:t<l.length:=by omega
   rw [dif_pos htl]
   exact decide_eq_true (hA t ht htl)) (fun t ht=>by
   by_cases htl:t<l.length
   ·rw [dif_pos htl]
    refine decide_eq_false fun q=>?_
    by_cases e:t=k
    ·subst e;exact hB htl q
    ·exact hB (by omega) (List.lt_trans (List.pairwise_iff_getElem.1 hl k t (by omega) htl (by omega)) q)
   ·rw [dif_neg htl]
    exact decide_eq_false (List.lt_irrefl _)) l.length 0 l.length (by omega) (by omega) hC
 rw [hk]
 congr 1
 apply propext
 constructor
 ·rintro ⟨h1,h2⟩
  have h3:=congrArg (fun b:ByteArray=>b.data.toList) h2
  simp only [seekX_list] at h3
  rw [dif_pos h1] at h3
  rw [← h3]
  exact List.getElem_mem h1
 ·intro h
  obtain ⟨j,hj,e⟩:=List.getElem_of_mem h
  have hjk:k≤j:=by
   apply Classical.byContradiction
   intro q
   have:=hA j (by omega) hj
   rw [e] at this
   exact List.lt_irrefl _ this
  have hkj:k=j:=by
   apply Classical.byContradiction
   intro q
   refine hB (by omega) ?_
   rw [← e]
   exact List.pairwise_iff_getElem.1 hl k j (by omega) hj (by omega)
  subst hkj
  refine ⟨hj,bytes_ext ?_⟩
  rw [seekX_list,dif_pos hj,e]
def SeekOk (l:List (List UInt8))(x:ByteArray)(w:World)(e:Ending)(w':World):Prop:=(∃ i:Int,e=.returned (.tuple #[.int .i64 i,.bool (decide (x.data.toList∈l))]))∧Below w.heap.size w w'
theorem seek_any (P:Nat→Prop)(ao:Option Addr)(c:Nat)(l:List (List UInt8))(x:ByteArray)(w:World)(h:TxAt P w (.slice ao l.length c) l)(hr:l.Pairwise (· < ·))(hn:l.length≤1000000):Calls Tryz.prog 178 #[.slice ao l.length c,.string x] w (SeekOk l x w):=by
 obtain ⟨ao',cap,hv,hcap,hc⟩:=h.slice
 simp only [Value.slice.injEq] at hv
 obtain ⟨rfl,-,rfl⟩:=hv
 rcases Nat.eq_zero_or_pos l.length with h0|h0
 ·obtain rfl:=List.eq_nil_of_length_eq_zero h0
  refine (Any2.slices_BinarySearch_string_empty Tryz.lays2x26 ao c x w).mono fun e w' q=>⟨⟨0,by rw [q.1];simp⟩,by rw [q.2];exact Below.refl _ _⟩
 ·obtain ⟨b,off,rfl,_,_,hcell⟩:=hc h0
  refine (Any2.slices_BinarySearch_string Tryz.lays2x26 b off l.length c (seekX l x) x w (by omega) (fun j hj=>by rw [hcell j hj,seekX,dif_pos hj])).mono fun e w' ⟨q1,n,q2⟩=>⟨⟨(Lib.bsGo (fun t=>Op.bytesLess (seekX l x t).toList x.toList) l.length 0 l.length:Nat),by rw [q1,seek_found l x hr]⟩,by rw [q2];exact ⟨rfl,rfl,rfl,Nat.le_refl _,fun _ _=>rfl⟩⟩
theorem setBox_cell {w:World}{b:Nat}{v:Value}(h:w.heap[b]?=some (.cells #[v] 131 (0,0))):w.cell? ⟨b,0,none⟩=some v∧w.frozen? ⟨b,0,none⟩=false:=⟨by rw [Lib.cell_of_heap h];rfl,by simp [World.frozen?,h]⟩
def TxPost (l:List (List UInt8))(w:World)(e:Ending)(w':World):Prop:=∃ ao c,e=.returned (.slice ao l.length c)∧TxAt (fun b=>w.heap.size≤b) w' (.slice ao l.length c) l∧Below w.heap.size w w'
theorem CloneS.tx {l:List (List UInt8)}{w w':World}{e:Ending}(h:CloneS l w e w'):TxPost l w e w':=by
 obtain ⟨v',h1,h2,h3⟩:=h
 have h4:TxAt (fun b=>w.heap.size≤b) w' v' l:=TxAt.owns h2 (fun _ hb=>hb)
 obtain ⟨ao,cap,rfl,_,_⟩:=h4.slice
 exact ⟨ao,cap,h1,h4,h3⟩
theorem items_any (P:Nat→Prop)(ao:Option Addr)(c:Nat)(l:List (List UInt8))(w:World)(h:TxAt P w (.slice ao l.length c) l)(hl:l.length≤1000000):Calls Tryz.prog 110 #[.agg #[.slice ao l.length c]] w (TxPost l w):=by
 have hal:=below_new w (.cells #[.slice ao l.length c] 131)
 have hN:=heap_alloc_new w (.cells #[.slice ao l.length c] 131)
 have HC:=Lib.hid (fun W (hW:Below w.heap.size w W)=>(cloneS_any P _ l W (h.below hW) hl).mono fun _ _ q=>q.tx)
 clear h
 go_enter Tryz.func110,Tryz.ntmps110
 go_upto_region 1 with fail
 change Code.wp _ _ _ _ (w.alloc (.cells #[.slice ao l.length c] 131))
 generalize w.alloc _=w1 at hal hN ⊢
 have c0:=(setBox_cell hN).1
 go_wp2_with (go_at_call 176;refine (HC.out _ hal).mono ?_;rintro e w2 ⟨ao',c',rfl,htx,hb2⟩)
 go_ret
 exact ⟨ao',c',rfl,htx.imp fun b hb _=>Nat.le_trans hal.size hb,hal.trans (hb2.mono hal.size)⟩
theorem has_any (P:Nat→Prop)(ao:Option Addr)(c:Nat)(l:List (List UInt8))(x:ByteArray)(w:World)(h:TxAt P w (.slice ao l.length c) l)(hr:l.Pairwise (· < ·))(hl:l.length≤1000000):Calls Tryz.prog 112 #[.agg #[.slice ao l.length c],.string x] w fun e w'=>e=.returned (.bool (decide (x.data.toList∈l)))∧Below w.heap.size w w':=by
 have hal:=below_new w (.cells #[.slice ao l.length c] 131)
 have hN:=heap_alloc_new w (.cells #[.slice ao l.length c] 131)
 have HC:=Lib.hid (fun W (hW:Below w.heap.size w W)=>seek_any P ao c l x W (h.below hW) hr hl)
 clear h hr
 unfold SeekOk at HC
 generalize decide (x.data.toList∈l)=r at *
 go_enter Tryz.func112,Tryz.ntmps112
 go_upto_region 1 with fail
 change Code.wp _ _ _ _ (w.alloc (.cells #[.slice ao l.length c] 131))
 generalize w.alloc _=w1 at hal hN ⊢
 have c0:=(setBox_cell hN).1
 go_wp2_with (go_at_call 178;refine (HC.out _ hal).mono ?_;rintro e w2 ⟨⟨i,rfl⟩,hb2⟩)
 go_ret
 exact ⟨rfl,hal.trans (hb2.mono hal.size)⟩
end Go.Proofs.YtbodlpoomfefcaaGreatDoor
