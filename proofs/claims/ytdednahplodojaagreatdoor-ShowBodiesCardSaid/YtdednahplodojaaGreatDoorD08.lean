/- Walks and plain laws: ParseLaws2, ParseW6, ShowA, TreeW1, ExprMem. -/
import Derived.Test.YtdednahplodojaaGreatDoorD07
import Derived.Test.YtdednahplodojaaGreatDoorD03
set_option maxHeartbeats 16000000
set_option maxRecDepth 100000
set_option linter.unusedVariables false
set_option linter.unusedSimpArgs false
namespace Go.Proofs.YtdednahplodojaaGreatDoor
theorem deep_eq {toks:List Tok}{d d' n:Nat}{st:PSt}(hdd:d≤d')(h:(deepM toks d n st).fE=0):deepM toks d' n st=deepM toks d n st:=by
 unfold deepM at h ⊢
 split at h
 ·exact absurd h (failM_fE (by decide) st)
 ·rename_i hn
  rw [if_neg hn,if_neg (by omega)]
theorem listLoop_deeper (toks:List Tok)(one one':PSt→Option (Int × PSt))(h1:∀ s k,one s=some k→PExt s k.2)(h2:∀ s k,one s=some k→k.2.fE=0→one' s=some k):∀ (r:Nat) (kids:List Int) (st:PSt) (l:List Int × PSt),listLoop toks one r kids st=some l→l.2.fE=0→listLoop toks one' r kids st=some l
 | 0,kids,st,l,h,_=>h
 | r+1,kids,st,l,h,hl=>by
  rw [listLoop] at h ⊢
  split at h
  ·rename_i hf;rw [if_pos hf];exact h
  ·rename_i hf
   rw [if_neg hf]
   obtain ⟨k,hk,h⟩:=Option.bind_eq_some_iff.1 h
   have hk0:k.2.fE=0:=by
    split at h
    ·exact ((leafM_ext toks k.2).trans (listLoop_ext toks one h1 r _ _ _ h)).zero hl
    ·injection h with h;subst h;exact hl
   rw [h2 _ _ hk hk0,Option.bind_some]
   split at h
   ·rename_i hc;rw [if_pos hc];exact listLoop_deeper toks one one' h1 h2 r _ _ _ h hl
   ·rename_i hc;rw [if_neg hc];exact h
theorem listM_deeper (toks:List Tok)(one one':PSt→Option (Int × PSt))(h1:∀ s k,one s=some k→PExt s k.2)(h2:∀ s k,one s=some k→k.2.fE=0→one' s=some k)(st:PSt)(l:List Int × PSt)(h:listM toks one st=some l)(hl:l.2.fE=0):listM toks one' st=some l:=by
 unfold listM at h ⊢
 split at h
 ·rename_i hc;rw [if_pos hc];exact h
 ·rename_i hc;rw [if_neg hc];exact listLoop_deeper toks one one' h1 h2 _ _ _ _ h hl
theorem run_deeper (toks:List Tok)(d d':Nat)(hdd:d≤d'):∀ (g:Nat) (t:Task) (st:PSt) (r:Int × PSt),run toks d g t st=some r→r.2.fE=0→run toks d' g t st=some r
 | 0,_,_,_,h,_=>by rw [run] at h;cases h
 | g+1,.expr nest,st,r,h,hr=>by
  have ih:=run_deeper toks d d' hdd g
  have ex:=run_ext toks d g
  have hd0:(deepM toks d nest st).fE=0:=by
   apply Classical.byContradiction
   intro q
   rw [run,if_pos q] at h
   injection h with h;subst h
   exact q hr
  rw [run] at h ⊢
  rw [deep_eq hdd hd0]
  generalize deepM toks d nest st=s at h hd0
  rw [if_neg (by simp [hd0])] at h ⊢
  split at h
  ·rename_i hc;rw [if_pos hc];exact ih _ _ _ h hr
  rename_i hc;rw [if_neg hc]
  split at h
  ·rename_i hc;rw [if_pos hc]
   obtain ⟨x,h1,h⟩:=Option.bind_eq_some_iff.1 h
   obtain ⟨f,h2,h⟩:=Option.bind_eq_some_iff.1 h
   injection h with h;subst h
   have z2:=(nodeM_ext _ _ _).zero hr
   have z1:=((mustM_ext _ _ _).trans (ex _ _ _ h2)).zero z2
   rw [ih _ _ _ h1 z1,Option.bind_some,ih _ _ _ h2 z2,Option.bind_some]
  rename_i hc;rw [if_neg hc]
  split at h
  ·rename_i hc;rw [if_pos hc]
   obtain ⟨x,h1,h⟩:=Option.bind_eq_some_iff.1 h
   obtain ⟨y,h2,h⟩:=Option.bind_eq_some_iff.1 h
   obtain ⟨f,h3,h⟩:=Option.bind_eq_some_iff.1 h
   injection h with h;subst h
   have z3:=(nodeM_ext _ _ _).zero hr
   have z2:=((mustM_ext _ _ _).trans (ex _ _ _ h3)).zero z3
   have z1:=((mustM_ext _ _ _).trans (ex _ _ _ h2)).zero z2
   rw [ih _ _ _ h1 z1,Option.bind_some,ih _ _ _ h2 z2,Option.bind_some,ih _ _ _ h3 z3,Option.bind_some]
  rename_i hc;rw [if_neg hc]
  split at h
  ·rename_i hc;rw [if_pos hc]
   obtain ⟨x,h1,h⟩:=Option.bind_eq_some_iff.1 h
   obtain ⟨f,h2,h⟩:=Option.bind_eq_some_iff.1 h
   injection h with h;subst h
   have z2:=(nodeM_ext _ _ _).zero hr
   have z1:=((mustM_ext _ _ _).trans (ex _ _ _ h2)).zero z2
   rw [ih _ _ _ h1 z1,Option.bind_some,ih _ _ _ h2 z2,Option.bind_some]
  ·rename_i hc;rw [if_neg hc];exact ih _ _ _ h hr
 | g+1,.formula nest,st,r,h,hr=>by
  have ih:=run_deeper toks d d' hdd g
  have ex:=run_ext toks d g
  rw [run] at h ⊢
  obtain ⟨a,h1,h⟩:=Option.bind_eq_some_iff.1 h
  split at h
  ·rename_i hn
   have hd0:(deepM toks d (nest+1) (leafM toks a.2).2).fE=0:=by
    apply Classical.byContradiction
    intro q
    rw [if_pos q] at h
    injection h with h;subst h
    exact q hr
   rw [if_neg (by simp [hd0])] at h
   obtain ⟨b,h2,h⟩:=Option.bind_eq_some_iff.1 h
   injection h with h;subst h
   have z2:=(nodeM_ext _ _ _).zero hr
   have z1:=((leafM_ext toks a.2).trans (deepM_ext _ _ _ _)).zero hd0
   rw [ih _ _ _ h1 z1,Option.bind_some,if_pos hn,deep_eq hdd hd0,if_neg (by simp [hd0]),ih _ _ _ h2 z2,Option.bind_some]
  ·rename_i hn
   injection h with h;subst h
   rw [ih _ _ _ h1 hr,Option.bind_some,if_neg hn]
 | g+1,.part l nest,st,r,h,hr=>by
  have ih:=run_deeper toks d d' hdd g
  rw [run] at h ⊢
  split at h
  ·rename_i hc;rw [if_pos hc];exact ih _ _ _ h hr
  ·rename_i hc;rw [if_neg hc]
   split at h
   ·rename_i hc;rw [if_pos hc];exact ih _ _ _ h hr
   ·rename_i hc;rw [if_neg hc];exact ih _ _ _ h hr
 | g+1,.row l nest,st,r,h,hr=>by
  have ih:=run_deeper toks d d' hdd g
  have ex:=run_ext toks d g
  rw [run] at h ⊢
  obtain ⟨a,h1,h⟩:=Option.bind_eq_some_iff.1 h
  rw [ih _ _ _ h1 ((ex _ _ _ h).zero hr),Option.bind_some]
  exact ih _ _ _ h hr
 | g+1,.loop l nest a,st,r,h,hr=>by
  have ih:=run_deeper toks d d' hdd g
  have ex:=run_ext toks d g
  rw [run] at h ⊢
  split at h
  ·rename_i hn
   rw [if_pos hn]
   obtain ⟨b,h1,h⟩:=Option.bind_eq_some_iff.1 h
   have z:(nodeM 10 [a,(leafM toks st).1,b.1] b.2).2.fE=0:=by
    split at h
    ·injection h with h;subst h;exact hr
    ·exact (ex _ _ _ h).zero hr
   rw [ih _ _ _ h1 ((nodeM_ext _ _ _).zero z),Option.bind_some]
   split at h
   ·rename_i hc;rw [if_pos hc];exact h
   ·rename_i hc;rw [if_neg hc];exact ih _ _ _ h hr
  ·rename_i hn
   rw [if_neg hn];exact h
 | g+1,.neg nest,st,r,h,hr=>by
  have ih:=run_deeper toks d d' hdd g
  rw [run] at h ⊢
  split at h
  ·rename_i hn
   rw [if_pos hn]
   have hd0:(deepM toks d (nest+1) (leafM toks st).2).fE=0:=by
    apply Classical.byContradiction
    intro q
    rw [if_pos q] at h
    injection h with h;subst h
    exact q hr
   rw [if_neg (by simp [hd0])] at h
   obtain ⟨b,h2,h⟩:=Option.bind_eq_some_iff.1 h
   injection h with h;subst h
   rw [deep_eq hdd hd0,if_neg (by simp [hd0]),ih _ _ _ h2 ((nodeM_ext _ _ _).zero hr),Option.bind_some]
  ·rename_i hn
   rw [if_neg hn];exact ih _ _ _ h hr
 | g+1,.factor nest,st,r,h,hr=>by
  have ih:=run_deeper toks d d' hdd g
  rw [run] at h ⊢
  split at h
  ·rename_i hn
   rw [if_pos hn]
   have hd0:(deepM toks d (nest+1) (leafM toks st).2).fE=0:=by
    apply Classical.byContradiction
    intro q
    rw [if_pos q] at h
    injection h with h;subst h
    exact q hr
   rw [if_neg (by simp [hd0])] at h
   obtain ⟨b,h2,h⟩:=Option.bind_eq_some_iff.1 h
   injection h with h;subst h
   rw [deep_eq hdd hd0,if_neg (by simp [hd0]),ih _ _ _ h2 ((nodeM_ext _ _ _).zero hr),Option.bind_some]
  ·rename_i hn
   rw [if_neg hn];exact ih _ _ _ h hr
 | g+1,.atom nest,st,r,h,hr=>by
  have ih:=run_deeper toks d d' hdd g
  rw [run] at h ⊢
  split at h
  ·rename_i hc;rw [if_pos hc];exact h
  rename_i hc;rw [if_neg hc]
  split at h
  ·rename_i hc;rw [if_pos hc];exact h
  rename_i hc;rw [if_neg hc]
  split at h
  ·rename_i hc;rw [if_pos hc];exact h
  rename_i hc;rw [if_neg hc]
  split at h
  ·rename_i hc;rw [if_pos hc];exact h
  rename_i hc;rw [if_neg hc]
  split at h
  ·rename_i hc;rw [if_pos hc]
   obtain ⟨b,h1,h⟩:=Option.bind_eq_some_iff.1 h
   injection h with h;subst h
   rw [ih _ _ _ h1 (((mustM_ext _ _ _).trans (nodeM_ext _ _ _)).zero hr),Option.bind_some]
  rename_i hc;rw [if_neg hc]
  split at h
  ·rename_i hc;rw [if_pos hc];exact ih _ _ _ h hr
  ·rename_i hc;rw [if_neg hc];exact h
 | g+1,.name nest,st,r,h,hr=>by
  have ih:=run_deeper toks d d' hdd g
  have ex:=run_ext toks d g
  rw [run] at h ⊢
  split at h
  ·rename_i hc;rw [if_pos hc];exact h
  ·rename_i hc;rw [if_neg hc]
   obtain ⟨l,h1,h⟩:=Option.bind_eq_some_iff.1 h
   injection h with h;subst h
   rw [listM_deeper toks _ (fun s=>run toks d' g (.expr (nest+1)) s) (fun s k hk=>ex _ _ _ hk) (fun s k hk hz=>ih _ _ _ hk hz) _ _ h1 (((mustM_ext _ _ _).trans (nodeM_ext _ _ _)).zero hr),Option.bind_some]
theorem aloneM_deeper {toks:List Tok}{d d' g:Nat}{st:PSt}(hdd:d≤d')(h:aloneM toks d g=some st)(hs:st.fE=0):aloneM toks d' g=some st:=by
 unfold aloneM at h ⊢
 obtain ⟨a,h1,h⟩:=Option.bind_eq_some_iff.1 h
 injection h with h;subst h
 rw [run_deeper toks d d' hdd g _ _ _ h1 (((kindM_ext _ _ _).trans (nodeM_ext _ _ _)).zero hs),Option.bind_some]
end Go.Proofs.YtdednahplodojaaGreatDoor

namespace Go.Proofs.YtdednahplodojaaGreatDoor
open Go.RowKit
theorem below_new (w:World)(o:Obj):Below w.heap.size w (w.alloc o):=(Below.refl _ _).alloc (Nat.le_refl _) o
def NPost (E:PEnv)(st:PSt)(b:Bool)(w:World)(e:Ending)(w':World):Prop:=e=.returned (.bool b)∧PW E st w'∧Kp E.B w w'
theorem strs_one (w:World)(b:ByteArray):StrsAt (w.alloc (.cells #[.string b] 9)) (.slice (some ⟨w.heap.size,0,none⟩) 1 1) [b.data.toList]:=by
 refine ⟨w.heap.size,0,1,rfl,by simp,fun j hj=>?_⟩
 obtain rfl:j=0:=by simpa using hj
 rw [Lib.cell_of_heap (heap_alloc_new _ _)]
 have:ByteArray.mk b.data.toList.toArray=b:=by cases b;simp
 simp [this]
theorem strs_two (w:World)(b c:ByteArray):StrsAt (w.alloc (.cells #[.string b,.string c] 9)) (.slice (some ⟨w.heap.size,0,none⟩) 2 2) [b.data.toList,c.data.toList]:=by
 refine ⟨w.heap.size,0,2,rfl,by simp,fun j hj=>?_⟩
 have h1:ByteArray.mk b.data.toList.toArray=b:=by cases b;simp
 have h2:ByteArray.mk c.data.toList.toArray=c:=by cases c;simp
 rw [Lib.cell_of_heap (heap_alloc_new _ _)]
 match j,hj with
 | 0,_=>simp [h1]
 | 1,_=>simp [h2]
theorem next_one (E:PEnv)(hE:E.ok)(b:ByteArray)(st:PSt)(w:World)(h:PW E st w) :
  Calls Tryz.prog 108 #[.pointer (some ⟨E.pb,0,none⟩),.slice (some ⟨w.heap.size,0,none⟩) 1 1] (w.alloc (.cells #[.string b] 9)) (NPost E st (nextF E.toks st [b.data.toList]) w):=by
 have hA:=h.later (below_new w (.cells #[.string b] 9))
 refine (next_any E _ _ st _ hA (strs_one w b) hE.1 hE.2.1 (by simp)).mono ?_
 rintro e w' ⟨rfl,hb⟩
 exact ⟨rfl,hA.later hb,(Kp.of (below_new w _) h.B_le).trans (Kp.of hb hA.B_le)⟩
theorem next_two (E:PEnv)(hE:E.ok)(b c:ByteArray)(st:PSt)(w:World)(h:PW E st w) :
  Calls Tryz.prog 108 #[.pointer (some ⟨E.pb,0,none⟩),.slice (some ⟨w.heap.size,0,none⟩) 2 2] (w.alloc (.cells #[.string b,.string c] 9)) (NPost E st (nextF E.toks st [b.data.toList,c.data.toList]) w):=by
 have hA:=h.later (below_new w (.cells #[.string b,.string c] 9))
 refine (next_any E _ _ st _ hA (strs_two w b c) hE.1 hE.2.1 (by simp)).mono ?_
 rintro e w' ⟨rfl,hb⟩
 exact ⟨rfl,hA.later hb,(Kp.of (below_new w _) h.B_le).trans (Kp.of hb hA.B_le)⟩
theorem must_one (E:PEnv)(hE:E.ok)(b:ByteArray)(st:PSt)(w:World)(h:PW E st w)(hn:st.nodes.length+1≤1099511627776) :
  Calls Tryz.prog 111 #[.pointer (some ⟨E.pb,0,none⟩),.slice (some ⟨w.heap.size,0,none⟩) 1 1] (w.alloc (.cells #[.string b] 9)) (PPost E (mustM E.toks [b.data.toList] st) w):=by
 have hA:=h.later (below_new w (.cells #[.string b] 9))
 refine (must_any E hE _ _ st _ hA (strs_one w b) (by simp) hn).mono ?_
 rintro e w' ⟨rfl,hp,hk⟩
 exact ⟨rfl,hp,(Kp.of (below_new w _) h.B_le).trans hk⟩
theorem ints_new (w:World)(ks:List Int):IntsAt (w.alloc (.cells (ks.map (Value.int .i64)).toArray 3)) (.slice (some ⟨w.heap.size,0,none⟩) ks.length ks.length) ks:=by
 refine ⟨some ⟨w.heap.size,0,none⟩,ks.length,rfl,Nat.le_refl _,fun _=>⟨w.heap.size,0,_,_,rfl,heap_alloc_new _ _,fun j hj=>?_⟩⟩
 simp [hj]
theorem node_lit (E:PEnv)(kind:Int)(ks:List Int)(n:Nat)(cs:Array Value)(st:PSt)(w:World)(h:PW E st w)(hn:ks.length=n)(hc:(ks.map (Value.int .i64)).toArray=cs)(hk:n≤1000)(hl:st.nodes.length+1≤1099511627776) :
  Calls Tryz.prog 76 #[.pointer (some ⟨E.pb,0,none⟩),.int .i64 kind,.slice (some ⟨w.heap.size,0,none⟩) n n] (w.alloc (.cells cs 3)) (PPost E (nodeM kind ks st) w):=by
 subst hn hc
 have hA:=h.later (below_new w (.cells (ks.map (Value.int .i64)).toArray 3))
 refine (pnode_any E kind _ ks st _ hA (ints_new w ks) (by omega) hl).mono ?_
 rintro e w' ⟨rfl,hp,hk⟩
 exact ⟨rfl,hp,(Kp.of (below_new w _) h.B_le).trans hk⟩
def taskCalls (E:PEnv)(r:Int × PSt)(w:World):Task→Prop
 | .expr nest=>Calls Tryz.prog 92 #[.pointer (some ⟨E.pb,0,none⟩),.int .i64 nest] w (PPost E r w)
 | .formula nest=>Calls Tryz.prog 144 #[.pointer (some ⟨E.pb,0,none⟩),.int .i64 nest] w (PPost E r w)
 | .part l nest=>Calls Tryz.prog 197 #[.pointer (some ⟨E.pb,0,none⟩),.int .i64 l,.int .i64 nest] w (PPost E r w)
 | .row l nest=>Calls Tryz.prog 175 #[.pointer (some ⟨E.pb,0,none⟩),.int .i64 l,.int .i64 nest] w (PPost E r w)
 | .neg nest=>Calls Tryz.prog 212 #[.pointer (some ⟨E.pb,0,none⟩),.int .i64 nest] w (PPost E r w)
 | .factor nest=>Calls Tryz.prog 213 #[.pointer (some ⟨E.pb,0,none⟩),.int .i64 nest] w (PPost E r w)
 | .atom nest=>Calls Tryz.prog 220 #[.pointer (some ⟨E.pb,0,none⟩),.int .i64 nest] w (PPost E r w)
 | .name nest=>Calls Tryz.prog 221 #[.pointer (some ⟨E.pb,0,none⟩),.int .i64 nest] w (PPost E r w)
 | .loop _ _ _=>True
def nestOk (E:PEnv):Task→Prop
 | .expr nest=>nest≤E.depth+1
 | .formula nest=>nest≤E.depth
 | .part l nest=>l≤4∧nest≤E.depth
 | .row l nest=>l≤4∧nest≤E.depth
 | .neg nest=>nest≤E.depth
 | .factor nest=>nest≤E.depth
 | .atom nest=>nest≤E.depth
 | .name nest=>nest≤E.depth
 | .loop l nest _=>l≤4∧nest≤E.depth
def AllT (E:PEnv)(g:Nat):Prop:=∀ (t:Task) (st:PSt) (r:Int × PSt) (w:World),run E.toks E.depth g t st=some r→PW E st w→r.2.nodes.length+1≤1099511627776→nestOk E t→taskCalls E r w t
end Go.Proofs.YtdednahplodojaaGreatDoor

namespace Go.Proofs.YtdednahplodojaaGreatDoor
open Go.RowKit Go
theorem same_text (a:List UInt8)(s:ByteArray):(a == s.toList)=decide (a=s.data.toList):=by
 rw [Go.ByteArray.toList_eq]
 by_cases h:a=s.data.toList
 ·rw [decide_eq_true h,beq_iff_eq];exact h
 ·rw [decide_eq_false h,← Bool.not_eq_true,beq_iff_eq];exact h
theorem kind_one (k:Nat):((k:Int) == 1)=decide (k=1):=by
 by_cases h:k=1
 ·subst h;rfl
 ·rw [decide_eq_false h];exact beq_eq_false_iff_ne.2 (by omega)
theorem plainB_len {s:List UInt8}{l:List Tok}(h:lexAll s=.ok l)(hl:l.length≠2):plainB s=false:=by
 unfold plainB
 rw [h]
 match l,hl with
 | [],_=>rfl
 | [_],_=>rfl
 | [_,_],h=>exact absurd rfl h
 | _ :: _ :: _ :: _,_=>rfl
theorem lplain_any (s:ByteArray)(w:World)(hs:s.size≤1099511627776) :
  Calls Tryz.prog 55 #[.string s] w fun e w'=>e=.returned (.bool (plainB s.data.toList))∧Below w.heap.size w w':=by
 have hL:=lex_any s w hs
 unfold LexOk at hL
 cases hl:lexAll s.data.toList with
 | error x =>
  rw [hl] at hL
  have hp:plainB s.data.toList=false:=by unfold plainB;rw [hl]
  have h0:((x.1:Int) == 0)=false:=beq_eq_false_iff_ne.2 (by have:=(lexAll_fault hl).2;omega)
  rw [hp]
  have HL:=Lib.hid hL
  clear hl hp hL
  go_enter Tryz.func55,Tryz.ntmps55
  go_wp2_with (go_at_call 69;refine HL.out.mono ?_;rintro e w1 ⟨hb1,rfl⟩)
  go_ret
  exact ⟨rfl,hb1.trans ((below_new w1 _).mono hb1.size)⟩
 | ok l =>
  rw [hl] at hL
  by_cases h2:l.length=2
  ·match l,h2 with
   | [t,u],_ =>
    have hp:plainB s.data.toList=(decide (t.kind=1) && decide (t.text=s.data.toList)):=by unfold plainB;rw [hl]
    rw [hp]
    have HL:=Lib.hid hL
    clear hl hp hL
    have hk1:=kind_one t.kind
    have hs1:=same_text t.text s
    generalize decide (t.kind=1)=kb at hk1 ⊢
    generalize decide (t.text=s.data.toList)=tb at hs1 ⊢
    go_enter Tryz.func55,Tryz.ntmps55
    go_upto_region 2 with (go_at_call 69;refine HL.out.mono ?_;rintro e w1 ⟨hb1,v,rfl,hv⟩;obtain ⟨ao,cap,rfl,hcap,hf⟩:=hv.form (fun _=>rfl);obtain ⟨b,off,rfl,hb,hcell⟩:=hf (by simp);have hal:=below_new w1 (.cells #[.int .i64 0,.int .i64 0] 44);have x0:=(hal.cell (p:=⟨b,off,none⟩) hb).trans (by simpa using hcell 0 0 _ (by simp) rfl);have x2:=(hal.cell (p:=⟨b,off+2,none⟩) hb).trans (by simpa using hcell 0 2 _ (by simp) rfl))
    clear hcell hf hv
    cases kb <;> cases tb <;> (go_wp2;go_ret;exact ⟨rfl,hb1.trans (hal.mono hb1.size)⟩)
  ·have hp:=plainB_len hl h2
   have h2I:((l.length:Int) == 2)=false:=beq_eq_false_iff_ne.2 (by omega)
   rw [hp]
   have HL:=Lib.hid hL
   clear hl hp hL h2
   go_enter Tryz.func55,Tryz.ntmps55
   go_wp2_with (go_at_call 69;refine HL.out.mono ?_;rintro e w1 ⟨hb1,v,rfl,hv⟩;obtain ⟨ao,cap,rfl,hcap,hf⟩:=hv.form (fun _=>rfl);clear hf hv)
   go_ret
   exact ⟨rfl,hb1.trans ((below_new w1 _).mono hb1.size)⟩
end Go.Proofs.YtdednahplodojaaGreatDoor

namespace Go.Proofs.YtdednahplodojaaGreatDoor
open Go.RowKit
def nodeCells (p:Nd × Value):List Value:=[.int .i64 p.1.kind,.int .i64 p.1.tok,p.2]
def Ints (B:Nat)(w:World)(v:Value)(ks:List Int):Prop:=Sl B w v 1 ks.length (ks.map (Value.int .i64))
def TreeAt (B:Nat)(w:World)(v:Value)(toks:List Tok)(nodes:List Nd):Prop :=
 ∃ (tv nv:Value) (l:List (Nd × Value)),v=.agg #[tv,nv]∧Rec B w tv 4 tokCells toks∧l.map Prod.fst=nodes∧Rec B w nv 3 nodeCells l∧∀ p∈l,Ints B w p.2 p.1.kids
theorem Ints.below {B:Nat}{w w':World}{v:Value}{ks:List Int}(h:Ints B w v ks)(hb:Below B w w'):Ints B w' v ks:=Sl.below h hb
theorem Ints.mono {B B':Nat}{w:World}{v:Value}{ks:List Int}(h:Ints B w v ks)(hB:B≤B'):Ints B' w v ks:=Sl.mono h hB
theorem TreeAt.below {B:Nat}{w w':World}{v:Value}{toks:List Tok}{nodes:List Nd}(h:TreeAt B w v toks nodes)(hb:Below B w w'):TreeAt B w' v toks nodes:=by
 obtain ⟨tv,nv,l,h1,h2,h3,h4,h5⟩:=h
 exact ⟨tv,nv,l,h1,h2.below hb,h3,h4.below hb,fun p hp=>(h5 p hp).below hb⟩
theorem TreeAt.mono {B B':Nat}{w:World}{v:Value}{toks:List Tok}{nodes:List Nd}(h:TreeAt B w v toks nodes)(hB:B≤B'):TreeAt B' w v toks nodes:=by
 obtain ⟨tv,nv,l,h1,h2,h3,h4,h5⟩:=h
 exact ⟨tv,nv,l,h1,h2.mono hB,h3,h4.mono hB,fun p hp=>(h5 p hp).mono hB⟩
theorem Ints.form {B:Nat}{w:World}{v:Value}{ks:List Int}(h:Ints B w v ks):∃ ao cap,v=.slice ao ks.length cap∧ks.length≤cap ∧
  (0<ks.length→∃ b off,ao=some ⟨b,off,none⟩∧b<B∧∀ j,(hj:j<ks.length)→w.cell? ⟨b,off+j,none⟩=some (.int .i64 ks[j])):=by
 obtain ⟨ao,cap,hv,hn,hl,hc⟩:=h
 refine ⟨ao,cap,hv,hn,fun h0=>?_⟩
 obtain ⟨b,off,ha,hB,hcell⟩:=hc h0
 exact ⟨b,off,ha,hB,fun j hj=>by rw [hcell j (by simpa using hj)];simp⟩
theorem TreeAt.node {B:Nat}{w:World}{tv nv:Value}{toks:List Tok}{nodes:List Nd}(h:TreeAt B w (.agg #[tv,nv]) toks nodes){i:Nat}(hi:i<nodes.length) :
  ∃ b off cap kv,nv=.slice (some ⟨b,off,none⟩) nodes.length cap∧b<B∧w.cell? ⟨b,off+i * 3,none⟩=some (.int .i64 nodes[i].kind)∧w.cell? ⟨b,off+i * 3+1,none⟩=some (.int .i64 nodes[i].tok)∧w.cell? ⟨b,off+i * 3+2,none⟩=some kv∧Ints B w kv nodes[i].kids:=by
 obtain ⟨tv',nv',l,h1,h2,h3,h4,h5⟩:=h
 simp only [Value.agg.injEq] at h1
 obtain ⟨rfl,rfl⟩:tv=tv'∧nv=nv':=by simpa using h1
 subst h3
 rw [List.length_map] at hi ⊢
 obtain ⟨ao,cap,rfl,_,hf⟩:=h4.form (fun _=>rfl)
 obtain ⟨b,off,rfl,hb,hc⟩:=hf (by omega)
 refine ⟨b,off,cap,l[i].2,rfl,hb,?_,?_,?_,?_⟩
 ·rw [show off+i * 3=off+i * 3+0 by rfl,hc i 0 (.int .i64 l[i].1.kind) hi rfl];simp
 ·rw [hc i 1 (.int .i64 l[i].1.tok) hi rfl];simp
 ·rw [hc i 2 l[i].2 hi rfl]
 ·rw [List.getElem_map];exact h5 _ (List.getElem_mem hi)
theorem TreeAt.slices {B:Nat}{w:World}{v:Value}{toks:List Tok}{nodes:List Nd}(h:TreeAt B w v toks nodes) :
  ∃ at_ ct an cn,v=.agg #[.slice at_ toks.length ct,.slice an nodes.length cn]:=by
 obtain ⟨tv,nv,l,h1,h2,h3,h4,h5⟩:=h
 obtain ⟨a1,c1,rfl,_,_⟩:=h2.form (fun _=>rfl)
 obtain ⟨a2,c2,rfl,_,_⟩:=h4.form (fun _=>rfl)
 subst h3
 rw [List.length_map]
 exact ⟨a1,c1,a2,c2,h1⟩
theorem formedTest_any (i g:Nat)(k:Int)(w:World)(hg:w.cell? ⟨g,0,none⟩=some (.int .i64 i)) :
  Calls Tryz.prog 162 #[.int .i64 k,.pointer (some ⟨g,0,none⟩)] w fun e w'=>e=.returned (.bool (decide (k<0) || decide ((i:Int)≤k)))∧w'=w:=by
 by_cases hk:k<0
 ·have d1:decide (k<0)=true:=decide_eq_true hk
  go_enter Tryz.func162,Tryz.ntmps162
  go_wp2
  all_goals (go_ret;refine ⟨ret_bool ?_,rfl⟩;simp [*])
 ·have d1:decide (k<0)=false:=decide_eq_false hk
  go_enter Tryz.func162,Tryz.ntmps162
  go_wp2
  all_goals (go_ret;refine ⟨ret_bool ?_,rfl⟩;simp [*])
def badI (i:Nat)(k:Int):Bool:=decide (k<0) || decide ((i:Int)≤k)
def IdxP (p:Bool)(w:World)(e:Ending)(w':World):Prop:=(∃ r:Int,e=.returned (.int .i64 r)∧(0≤r↔p=true)∧-1≤r)∧w'=w
theorem formedIndex_any (i g B:Nat)(v:Value)(ks:List Int)(w:World)(hg:w.cell? ⟨g,0,none⟩=some (.int .i64 i))(hv:Ints B w v ks)(hn:ks.length≤1099511627776) :
  Calls Tryz.prog 187 #[v,.func (.func 162) #[] #[.pointer (some ⟨g,0,none⟩)]] w (IdxP (ks.any (badI i)) w):=by
 obtain ⟨ao,cap,rfl,_,hf⟩:=hv.form
 have HT:=Lib.hid (fun k=>formedTest_any i g k w hg)
 have HF:=Lib.hid hf
 clear hf hv hg
 go_enter Tryz.func187,Tryz.ntmps187
 go_wp2
 go_loop [8] (fun q=>∃ k:Nat,k≤ks.length∧q=.int .i64 k∧∀ j,(hj:j<ks.length)→j<k→badI i ks[j]=false) (fun q=>ks.length - (intOf q).toNat)
 case atStart=>exact ⟨0,Nat.zero_le _,rfl,fun j _ h=>absurd h (by omega)⟩
 case round =>
  obtain ⟨k,hk,rfl,hj⟩:=hrel
  by_cases hlt:k<ks.length
  ·obtain ⟨b,off,rfl,_,hc⟩:=HF.out (by omega)
   have hx:=hc k hlt
   have hI:(k:Int)<(ks.length:Int):=by omega
   have hT:=HT.out ks[k]
   cases ht:badI i ks[k] with
   | true =>
    have hany:ks.any (badI i)=true:=List.any_eq_true.2 ⟨_,List.getElem_mem hlt,ht⟩
    unfold badI at ht
    rw [ht] at hT
    generalize ks[k]=x at hx hT
    have H1:=Lib.hid hT
    have H2:=Lib.hid hany
    clear hc hj ht hT hany
    go_wp2_with (go_at_call 162;refine H1.out.mono ?_;rintro e w1 ⟨rfl,rfl⟩)
    go_ret
    exact ⟨⟨k,rfl,⟨fun _=>H2.out,fun _=>by omega⟩,by omega⟩,rfl⟩
   | false =>
    have HJ:Hid (∀ j,(hj:j<ks.length)→j<k+1→badI i ks[j]=false):=Lib.hid (fun j hjl hjk=>by
     by_cases hkj:j=k
     ·subst hkj;exact ht
     ·exact hj j hjl (by omega))
    unfold badI at ht
    rw [ht] at hT
    generalize ks[k]=x at hx hT
    have H1:=Lib.hid hT
    clear hc hj ht hT
    go_wp2_with (go_at_call 162;refine H1.out.mono ?_;rintro e w1 ⟨rfl,rfl⟩)
    go_round
    case rel=>exact ⟨k+1,by omega,by go_num,HJ.out⟩
    case measure=>simp [intOf];omega
  ·have hany:ks.any (badI i)=false:=by
    rw [← Bool.not_eq_true,List.any_eq_true]
    rintro ⟨x,hx,hb⟩
    obtain ⟨j,hjl,e⟩:=List.mem_iff_getElem.1 hx
    rw [← e,hj j hjl (by omega)] at hb
    cases hb
   have hI:decide ((k:Int)<(ks.length:Int))=false:=decide_eq_false (by omega)
   have H2:=Lib.hid hany
   clear hany hj
   go_wp2
   go_ret
   exact ⟨⟨-1,rfl,⟨fun h=>by omega,fun h=>by rw [H2.out] at h;cases h⟩,by omega⟩,rfl⟩
theorem formedContains_any (i g B:Nat)(v:Value)(ks:List Int)(w:World)(hg:w.cell? ⟨g,0,none⟩=some (.int .i64 i))(hv:Ints B w v ks)(hn:ks.length≤1099511627776) :
  Calls Tryz.prog 159 #[v,.func (.func 162) #[] #[.pointer (some ⟨g,0,none⟩)]] w fun e w'=>e=.returned (.bool (ks.any (badI i)))∧w'=w:=by
 have H:=Lib.hid (formedIndex_any i g B v ks w hg hv hn)
 clear hg hv
 go_enter Tryz.func159,Tryz.ntmps159
 go_wp2_with (go_at_call 187;refine H.out.mono ?_)
 rintro e w1 ⟨⟨r,rfl,hr,_⟩,rfl⟩
 have hq:(ks.any (badI i))=decide (0≤r):=by
  by_cases h:0≤r
  ·rw [decide_eq_true h];exact hr.1 h
  ·rw [decide_eq_false h,← Bool.not_eq_true];exact fun q=>h (hr.2 q)
 have HQ:=Lib.hid hq
 clear hq hr
 go_wp2
 go_ret
 exact ⟨ret_bool HQ.out.symm,rfl⟩
theorem formed_any (at_ an:Option Addr)(nt ct nn cn i B:Nat)(n:Nd)(kv:Value)(w:World)(hk:Ints B w kv n.kids)(hB:B≤w.heap.size)(hn:n.kids.length≤1099511627776) :
  Calls Tryz.prog 118 #[.agg #[.slice at_ nt ct,.slice an nn cn],.int .i64 i,.agg #[.int .i64 n.kind,.int .i64 n.tok,kv]] w fun e w'=>e=.returned (.bool (formedB nt i n))∧Below w.heap.size w w':=by
 obtain ⟨kind,tok,ks⟩:=n
 simp only at hk hn ⊢
 obtain ⟨ak,ck,rfl,_,_⟩:=hk.form
 by_cases h1:kind<1
 ·have hq:formedB nt i ⟨kind,tok,ks⟩=false:=by simp [formedB,h1]
  rw [hq]
  clear hq
  have d1:decide (kind<1)=true:=decide_eq_true h1
  go_enter Tryz.func118,Tryz.ntmps118
  go_wp2
  go_ret
  exact ⟨rfl,(((Below.refl _ _).alloc (Nat.le_refl _) _).alloc (by simp) _).alloc (by simp;omega) _⟩
 by_cases h2:19<kind
 ·have hq:formedB nt i ⟨kind,tok,ks⟩=false:=by simp [formedB,h2]
  rw [hq]
  clear hq
  have d1:decide (kind<1)=false:=decide_eq_false h1
  have d2:decide (19<kind)=true:=decide_eq_true h2
  go_enter Tryz.func118,Tryz.ntmps118
  go_wp2
  go_ret
  exact ⟨rfl,(((Below.refl _ _).alloc (Nat.le_refl _) _).alloc (by simp) _).alloc (by simp;omega) _⟩
 have d1:decide (kind<1)=false:=decide_eq_false h1
 have d2:decide (19<kind)=false:=decide_eq_false h2
 by_cases h3:kind=19
 ·subst h3
  have hq:formedB nt i ⟨19,tok,ks⟩=(decide ((ks.length:Int)=0) && (decide (0≤tok) && decide (tok<nt))):=by simp [formedB]
  rw [hq]
  clear hq hk d1 d2
  by_cases h4:ks.length=0
  ·obtain rfl:ks=[]:=List.length_eq_zero_iff.1 h4
   clear h4
   by_cases h5:0≤tok
   ·have d5:decide (0≤tok)=true:=decide_eq_true h5
    cases d6:decide (tok<(nt:Int)) with
    | true =>
     go_enter Tryz.func118,Tryz.ntmps118
     go_wp2
     go_ret
     exact ⟨ret_bool (by simp [*]),(((Below.refl _ _).alloc (Nat.le_refl _) _).alloc (by simp) _).alloc (by simp;omega) _⟩
    | false =>
     go_enter Tryz.func118,Tryz.ntmps118
     go_wp2
     go_ret
     exact ⟨ret_bool (by simp [*]),(((Below.refl _ _).alloc (Nat.le_refl _) _).alloc (by simp) _).alloc (by simp;omega) _⟩
   ·have d5:decide (0≤tok)=false:=decide_eq_false h5
    go_enter Tryz.func118,Tryz.ntmps118
    go_wp2
    go_ret
    exact ⟨ret_bool (by simp [*]),(((Below.refl _ _).alloc (Nat.le_refl _) _).alloc (by simp) _).alloc (by simp;omega) _⟩
  ·have d4:((ks.length:Int) == 0)=false:=by simp [h4]
   have d5:decide ((ks.length:Int)=0)=false:=decide_eq_false (by omega)
   rw [d5,Bool.false_and]
   clear d5
   go_enter Tryz.func118,Tryz.ntmps118
   go_wp2
   go_ret
   exact ⟨rfl,(((Below.refl _ _).alloc (Nat.le_refl _) _).alloc (by simp) _).alloc (by simp;omega) _⟩
 ·have d3:(kind == 19)=false:=by simp [h3]
  by_cases h4:tok=-1
  ·subst h4
   have hq:formedB nt i ⟨kind,-1,ks⟩=!(ks.any (badI i)):=by
    unfold formedB
    rw [if_neg (by simp only;omega),if_neg h3]
    rfl
   rw [hq]
   clear hq
   have HK:=Lib.hid hk
   clear hk
   go_enter Tryz.func118,Tryz.ntmps118
   go_wp2_with (go_at_call 159;refine (formedContains_any i (w.heap.size+1) B _ ks _ ?c1 (HK.out.below ?c2) hn).mono ?_)
   case c2=>exact (((Below.refl _ _).alloc hB _).alloc (by simp;omega) _).alloc (by simp;omega) _
   go_ret
   exact ⟨rfl,(((Below.refl _ _).alloc (Nat.le_refl _) _).alloc (by simp) _).alloc (by simp;omega) _⟩
  ·have hq:formedB nt i ⟨kind,tok,ks⟩=false:=by
    unfold formedB
    rw [if_neg (by simp only;omega),if_neg h3]
    simp [h4]
   rw [hq]
   clear hq hk
   have d4:(tok == -1)=false:=by simp [h4]
   go_enter Tryz.func118,Tryz.ntmps118
   go_wp2
   go_ret
   exact ⟨rfl,(((Below.refl _ _).alloc (Nat.le_refl _) _).alloc (by simp) _).alloc (by simp;omega) _⟩
def SlP (P:Nat→Prop)(w:World)(v:Value)(sz n:Nat)(cs:List Value):Prop :=
 ∃ ao cap,v=.slice ao n cap∧n≤cap∧cs.length=n * sz ∧
  (0<n→∃ b off,ao=some ⟨b,off,none⟩∧P b∧b<w.heap.size∧∀ i,(h:i<cs.length)→w.cell? ⟨b,off+i,none⟩=some cs[i])
def Alk (P:Nat→Prop)(w w':World):Prop:=w.heap.size≤w'.heap.size∧∀ b,P b→b<w.heap.size→w'.heap[b]?=w.heap[b]?
theorem Alk.refl (P:Nat→Prop)(w:World):Alk P w w:=⟨Nat.le_refl _,fun _ _ _=>rfl⟩
theorem Alk.trans {P:Nat→Prop}{a b c:World}(h:Alk P a b)(k:Alk P b c):Alk P a c:=⟨Nat.le_trans h.1 k.1,fun n hn hl=>(k.2 n hn (Nat.lt_of_lt_of_le hl h.1)).trans (h.2 n hn hl)⟩
theorem Alk.of {P:Nat→Prop}{w w':World}(h:Below w.heap.size w w'):Alk P w w':=⟨h.size,fun b _ hb=>h.block b hb⟩
theorem Alk.ofB {P:Nat→Prop}{B:Nat}{w w':World}(h:Below B w w')(hP:∀ b,P b→b<B):Alk P w w':=⟨h.size,fun b hb _=>h.block b (hP b hb)⟩
theorem Alk.grown {P:Nat→Prop}{w w':World}{row:Option Nat}(h:w.grownBy w' row)(hP:∀ b,P b→some b≠row):Alk P w w':=⟨h.size,fun b hb hl=>h.block b hl (hP b hb)⟩
theorem Alk.set {P:Nat→Prop}{w:World}{a:Addr}(u:Value)(hP:∀ b,P b→b≠a.block):Alk P w (w.setCell a u):=⟨by simp,fun b hb _=>heap_setCell_other _ _ _ _ (hP b hb)⟩
theorem SlP.frame {P:Nat→Prop}{w w':World}{v:Value}{sz n:Nat}{cs:List Value}(h:SlP P w v sz n cs)(ha:Alk P w w'):SlP P w' v sz n cs:=by
 obtain ⟨ao,cap,hv,hn,hl,hc⟩:=h
 refine ⟨ao,cap,hv,hn,hl,fun h0=>?_⟩
 obtain ⟨b,off,e,hP,hlt,hcell⟩:=hc h0
 exact ⟨b,off,e,hP,Nat.lt_of_lt_of_le hlt ha.1,fun i hi=>(World.cell?_of_block (a:=⟨b,off+i,none⟩) (ha.2 b hP hlt)).trans (hcell i hi)⟩
theorem SlP.imp {P Q:Nat→Prop}{w:World}{v:Value}{sz n:Nat}{cs:List Value}(h:SlP P w v sz n cs)(hq:∀ b,P b→b<w.heap.size→Q b):SlP Q w v sz n cs:=by
 obtain ⟨ao,cap,hv,hn,hl,hc⟩:=h
 refine ⟨ao,cap,hv,hn,hl,fun h0=>?_⟩
 obtain ⟨b,off,e,hP,hlt,hcell⟩:=hc h0
 exact ⟨b,off,e,hq b hP hlt,hlt,hcell⟩
theorem SlP.nil (P:Nat→Prop)(w:World)(sz:Nat):SlP P w (.slice none 0 0) sz 0 []:=⟨none,0,rfl,Nat.le_refl _,by simp,fun h=>absurd h (by omega)⟩
theorem SlP.ofOwns {P:Nat→Prop}{B:Nat}{w:World}{e sz:Nat}{v:Value}{n:Nat}{cs:List Value}(h:w.ownsRow B e sz v n cs)(hP:∀ b,B≤b→P b):SlP P w v sz n cs:=by
 obtain ⟨ao,cap,hv,hn,hl,hc⟩:=Sl.ofOwns h
 refine ⟨ao,cap,hv,hn,hl,fun h0=>?_⟩
 obtain ⟨b,off,e,hlt,hcell⟩:=hc h0
 refine ⟨b,off,e,hP b ?_,hlt,hcell⟩
 rcases h.2 with ⟨hv',h1⟩|⟨g,cap',cur,hv',hg,_⟩
 ·omega
 ·rw [hv,e] at hv'
  simp only [Value.slice.injEq,Option.some.injEq,Addr.mk.injEq] at hv'
  omega
theorem SlP.form {P:Nat→Prop}{w:World}{v:Value}{sz n:Nat}{cs:List Value}(h:SlP P w v sz n cs):∃ ao cap,v=.slice ao n cap:=by
 obtain ⟨ao,cap,hv,_⟩:=h
 exact ⟨ao,cap,hv⟩
structure Shape where
 sz:Nat
 cells:PE→Value→Value→List Value
 agg:PE→Value→Value→Value
 num:(Nat→Prop)→World→Int→Value→Prop
 len:∀ e m k,(cells e m k).length=sz
 frame:∀ {P:Nat→Prop} {w w':World} {n:Int} {m:Value},num P w n m→Alk P w w'→num P w' n m
 imp:∀ {P Q:Nat→Prop} {w:World} {n:Int} {m:Value},num P w n m→(∀ b,P b→b<w.heap.size→Q b)→num Q w n m
def rowsE (S:Shape):List PE→List (Value × Value)→List Value
 | e :: es,p :: l=>S.cells e p.1 p.2++rowsE S es l
 | _,_=>[]
mutual
def EAt (S:Shape)(P:Nat→Prop)(w:World)(mag kv:Value):PE→Prop
 | .mk _op _name _module num _txt _yes kids _at_=>S.num P w num mag∧∃ l:List (Value × Value),SlP P w kv S.sz kids.length (rowsE S kids l)∧EAtL S P w l kids
def EAtL (S:Shape)(P:Nat→Prop)(w:World)(l:List (Value × Value)):List PE→Prop
 | []=>l=[]
 | e :: es=>∃ p l',l=p :: l'∧EAt S P w p.1 p.2 e∧EAtL S P w l' es
end
mutual
theorem EAt.frame {S:Shape}{P:Nat→Prop}{w w':World}(ha:Alk P w w'):∀ {e:PE} {m k:Value},EAt S P w m k e→EAt S P w' m k e
 | .mk op name module num txt yes kids at_,m,k,h=>by
  rw [EAt] at h ⊢
  obtain ⟨h1,l,h2,h3⟩:=h
  exact ⟨S.frame h1 ha,l,h2.frame ha,EAtL.frame ha h3⟩
theorem EAtL.frame {S:Shape}{P:Nat→Prop}{w w':World}(ha:Alk P w w'):∀ {es:List PE} {l:List (Value × Value)},EAtL S P w l es→EAtL S P w' l es
 | [],l,h=>by rw [EAtL] at h ⊢;exact h
 | e :: es,l,h=>by
  rw [EAtL] at h ⊢
  obtain ⟨p,l',h1,h2,h3⟩:=h
  exact ⟨p,l',h1,EAt.frame ha h2,EAtL.frame ha h3⟩
end
mutual
theorem EAt.imp {S:Shape}{P Q:Nat→Prop}{w:World}(hq:∀ b,P b→b<w.heap.size→Q b):∀ {e:PE} {m k:Value},EAt S P w m k e→EAt S Q w m k e
 | .mk op name module num txt yes kids at_,m,k,h=>by
  rw [EAt] at h ⊢
  obtain ⟨h1,l,h2,h3⟩:=h
  exact ⟨S.imp h1 hq,l,h2.imp hq,EAtL.imp hq h3⟩
theorem EAtL.imp {S:Shape}{P Q:Nat→Prop}{w:World}(hq:∀ b,P b→b<w.heap.size→Q b):∀ {es:List PE} {l:List (Value × Value)},EAtL S P w l es→EAtL S Q w l es
 | [],l,h=>by rw [EAtL] at h ⊢;exact h
 | e :: es,l,h=>by
  rw [EAtL] at h ⊢
  obtain ⟨p,l',h1,h2,h3⟩:=h
  exact ⟨p,l',h1,EAt.imp hq h2,EAtL.imp hq h3⟩
end
theorem EAtL.len {S:Shape}{P:Nat→Prop}{w:World}:∀ {es:List PE} {l:List (Value × Value)},EAtL S P w l es→l.length=es.length
 | [],l,h=>by rw [EAtL] at h;subst h;rfl
 | e :: es,l,h=>by
  rw [EAtL] at h
  obtain ⟨p,l',rfl,_,h3⟩:=h
  simp [EAtL.len h3]
theorem EAtL.snoc {S:Shape}{P:Nat→Prop}{w:World}:∀ {es:List PE} {l:List (Value × Value)} {e:PE} {m k:Value},EAtL S P w l es→EAt S P w m k e→EAtL S P w (l++[(m,k)]) (es++[e])
 | [],l,e,m,k,h,h2=>by
  rw [EAtL] at h
  subst h
  rw [List.nil_append,List.nil_append,EAtL]
  exact ⟨(m,k),[],rfl,h2,by rw [EAtL]⟩
 | x :: es,l,e,m,k,h,h2=>by
  rw [EAtL] at h
  obtain ⟨p,l',rfl,h3,h4⟩:=h
  rw [List.cons_append,List.cons_append,EAtL]
  exact ⟨p,_,rfl,h3,h4.snoc h2⟩
theorem rowsE_snoc (S:Shape):∀ (es:List PE) (l:List (Value × Value)) (e:PE) (m k:Value),l.length=es.length→rowsE S (es++[e]) (l++[(m,k)])=rowsE S es l++S.cells e m k
 | [],[],e,m,k,_=>by simp [rowsE]
 | x :: es,p :: l,e,m,k,h=>by
  simp only [List.cons_append,rowsE,rowsE_snoc S es l e m k (by simpa using h),List.append_assoc]
 | [],_ :: _,_,_,_,h=>by simp at h
 | _ :: _,[],_,_,_,h=>by simp at h
theorem rowsE_at (S:Shape):∀ (es:List PE) (l:List (Value × Value)) (i j:Nat) (hl:l.length=es.length) (hi:i<es.length),j<S.sz→(rowsE S es l)[i * S.sz+j]?=(S.cells es[i] (l[i]'(by omega)).1 (l[i]'(by omega)).2)[j]?
 | [],[],i,j,_,h,_=>absurd h (by simp)
 | x :: es,p :: l,0,j,_,_,hj=>by
  simp only [rowsE,Nat.zero_mul,Nat.zero_add,List.getElem_cons_zero]
  rw [List.getElem?_append_left (by rw [S.len];exact hj)]
 | x :: es,p :: l,i+1,j,hl,hi,hj=>by
  simp only [rowsE,List.getElem_cons_succ]
  rw [List.getElem?_append_right (by rw [S.len,Nat.succ_mul];omega),S.len,show (i+1) * S.sz+j - S.sz=i * S.sz+j by rw [Nat.succ_mul];omega]
  exact rowsE_at S es l i j (by simpa using hl) (by simpa using hi) hj
 | [],_ :: _,_,_,h,_,_=>by simp at h
 | _ :: _,[],_,_,h,_,_=>by simp at h
theorem EAtL.get {S:Shape}{P:Nat→Prop}{w:World}:∀ {es:List PE} {l:List (Value × Value)} (h:EAtL S P w l es) (i:Nat) (hi:i<es.length),EAt S P w (l[i]'(by rw [h.len];exact hi)).1 (l[i]'(by rw [h.len];exact hi)).2 es[i]
 | [],l,h,i,hi=>absurd hi (by simp)
 | e :: es,l,h,i,hi=>by
  have h':=h
  rw [EAtL] at h'
  obtain ⟨p,l',rfl,h3,h4⟩:=h'
  cases i with
  | zero=>exact h3
  | succ i=>exact h4.get i (by simpa using hi)
theorem EAt.form {S:Shape}{P:Nat→Prop}{w:World}{e:PE}{mag kv:Value}(h:EAt S P w mag kv e):S.num P w e.num mag∧∃ ao cap,kv=.slice ao e.kids.length cap∧e.kids.length≤cap ∧
  (0<e.kids.length→∃ b off,ao=some ⟨b,off,none⟩∧P b∧b<w.heap.size∧∀ i,(hi:i<e.kids.length)→∃ m k,EAt S P w m k e.kids[i]∧∀ j u,(S.cells e.kids[i] m k)[j]?=some u→w.cell? ⟨b,off+i * S.sz+j,none⟩=some u):=by
 cases e with
 | mk op name module num txt yes kids at_ =>
  rw [EAt] at h
  obtain ⟨h1,l,⟨ao,cap,hv,hn,hl,hc⟩,h3⟩:=h
  refine ⟨h1,ao,cap,hv,hn,fun h0=>?_⟩
  obtain ⟨b,off,ha,hP,hlt,hcell⟩:=hc h0
  refine ⟨b,off,ha,hP,hlt,fun i hi=>?_⟩
  have hll:=h3.len
  refine ⟨_,_,h3.get i hi,fun j u hu=>?_⟩
  have hj:j<S.sz:=by
   rcases Nat.lt_or_ge j S.sz with h'|h'
   ·exact h'
   ·rw [List.getElem?_eq_none (by rw [S.len];exact h')] at hu;cases hu
  have hr:=rowsE_at S kids l i j hll hi hj
  have hu':=hr.trans hu
  obtain ⟨h',e⟩:=List.getElem?_eq_some_iff.1 hu'
  have:=hcell (i * S.sz+j) h'
  rw [e] at this
  rw [Nat.add_assoc]
  exact this
def NumAt (P:Nat→Prop)(w:World)(n:Int)(m:Value):Prop :=
 ∃ ws:List Nat,SlP P w m 1 ws.length (ws.map fun d=>.int .u32 (d:Nat))∧trimW ws=ws∧(∀ x∈ws,x<4294967296)∧magV ws=n.natAbs
def strV (l:List UInt8):Value:=.string ⟨l.toArray⟩
def XA:Shape where
 sz:=8
 cells e m k:=[.int .i64 e.op,strV e.name,strV e.module,.bool (decide (e.num<0)),m,.bool e.yes,k,.int .i64 e.at_]
 agg e m k:=.agg #[.int .i64 e.op,strV e.name,strV e.module,.bool (decide (e.num<0)),m,.bool e.yes,k,.int .i64 e.at_]
 num:=NumAt
 len _ _ _:=rfl
 frame h ha:=by obtain ⟨ws,h1,h2⟩:=h;exact ⟨ws,h1.frame ha,h2⟩
 imp h hq:=by obtain ⟨ws,h1,h2⟩:=h;exact ⟨ws,h1.imp hq,h2⟩
def XR:Shape where
 sz:=7
 cells e _ k:=[.int .i64 e.op,strV e.name,strV e.module,strV e.txt,.bool e.yes,k,.int .i64 e.at_]
 agg e _ k:=.agg #[.int .i64 e.op,strV e.name,strV e.module,strV e.txt,.bool e.yes,k,.int .i64 e.at_]
 num _ _ _ _:=True
 len _ _ _:=rfl
 frame _ _:=trivial
 imp _ _:=trivial
theorem NumAt.zero (P:Nat→Prop)(w:World):NumAt P w 0 (.slice none 0 0):=⟨[],SlP.nil P w 1,rfl,fun x h=>(by cases h),rfl⟩
def EPost (S:Shape)(e:PE)(w:World)(r:Ending)(w':World):Prop:=∃ m k,r=.returned (S.agg e m k)∧EAt S (fun b=>w.heap.size≤b) w' m k e∧Below w.heap.size w w'
end Go.Proofs.YtdednahplodojaaGreatDoor
