/- Walks and plain laws: FormW, LeavesW1. -/
import Derived.Test.YtbodlpoomfefcaaGreatDoorA15
import Derived.RangeFuncNested
import Derived.RangeFuncBound
import Derived.RangeFuncCalls
import Derived.RangeFuncLeaves
import Derived.RangeFuncWrites
import Derived.Shelf.RegionOpen
import Derived.OwnWalkIn
import Derived.TacticsInMore
import Derived.LoopNIn
import Derived.LoopIn
import Derived.Sort.LoopGhostIn
set_option maxHeartbeats 16000000
set_option maxRecDepth 100000
set_option linter.unusedVariables false
set_option linter.unusedSimpArgs false
namespace Go.Proofs.YtbodlpoomfefcaaGreatDoor
open Go.RowKit Go
def FormOk (r:FRes)(w:World)(e:Ending)(w':World):Prop :=
 Below w.heap.size w w'∧match r with
 | .bad c a=>e=.returned (.tuple #[.agg #[.slice none 0 0,.slice none 0 0],.agg #[.int .i64 c,.int .i64 a]])
 | .good toks nodes=>∃ at_ ct an cn,e=.returned (.tuple #[.agg #[.slice at_ toks.length ct,.slice an nodes.length cn],.agg #[.int .i64 0,.int .i64 0]])∧TreeTy w' (.agg #[.slice at_ toks.length ct,.slice an nodes.length cn]) toks nodes
theorem fault_cells {w:World}{b:Nat}{x y:Value}(h:w.heap[b]?=some (.cells #[x,y] 44 (0,0))):w.cell? ⟨b,0,none⟩=some x∧w.cell? ⟨b,1,none⟩=some y∧∀ j,w.frozen? ⟨b,j,none⟩=false:=by
 refine ⟨?_,?_,fun j=>?_⟩
 ·rw [Lib.cell_of_heap h];rfl
 ·rw [Lib.cell_of_heap h];rfl
 ·simp [World.frozen?,h]
theorem tree_cellsz {w:World}{b:Nat}{x y:Value}(h:w.heap[b]?=some (.cells #[x,y] 25 (0,0))):w.cell? ⟨b,0,none⟩=some x∧w.cell? ⟨b,1,none⟩=some y∧∀ j,w.frozen? ⟨b,j,none⟩=false:=by
 refine ⟨?_,?_,fun j=>?_⟩
 ·rw [Lib.cell_of_heap h];rfl
 ·rw [Lib.cell_of_heap h];rfl
 ·simp [World.frozen?,h]
theorem read_lexbad (s:ByteArray)(d:Nat)(fv:Value)(w:World)(hd1:1≤d)(hd2:d≤200)(hs:s.size≤1099511627776)(c a:Nat)(hl:lexAll s.data.toList=.error (c,a))(hc:c≠0) :
  Calls Tryz.prog 43 #[.string s,.int .i64 d,fv] w (FormOk (.bad c a) w):=by
 have HL:Hid (∀ W,Calls Tryz.prog 81 #[.string s] W fun e w'=>e=.returned (.tuple #[.slice none 0 0,.agg #[.int .i64 c,.int .i64 a]])∧Below W.heap.size W w'):=Lib.hid fun W=>(lex_any s W hs).mono fun e w' h=>by
  unfold LexOk at h
  rw [hl] at h
  exact ⟨h.2,h.1⟩
 have hc0:((c:Int) == 0)=false:=by simp;omega
 have hal:=(below_new w (.cells #[.slice none 0 0,.slice none 0 0] 25)).alloc (by simp) (.cells #[.int .i64 0,.int .i64 0] 44)
 have e1:=(Lib.alloc_old (w.alloc (.cells #[.slice none 0 0,.slice none 0 0] 25)) (.cells #[.int .i64 0,.int .i64 0] 44) w.heap.size (by simp)).trans (heap_alloc_new w (.cells #[.slice none 0 0,.slice none 0 0] 25))
 have e2:=heap_alloc_new (w.alloc (.cells #[.slice none 0 0,.slice none 0 0] 25)) (.cells #[.int .i64 0,.int .i64 0] 44)
 rw [World.size_alloc] at e2
 have hdI1:¬ ((d:Int)<1):=by omega
 have hdI2:¬ ((200:Int)<(d:Int)):=by omega
 clear hl
 go_enter Tryz.func43,Tryz.ntmps43
 go_upto_region 5 with (go_at_call 81;refine (HL.out _).mono ?_;rintro e w3 ⟨rfl,hb3⟩;have hz3:=hb3.size)
 rw [World.size_alloc,World.size_alloc] at hz3
 have G6:=(Lib.alloc_old w3 (.cells #[.int .i64 c,.int .i64 a] 44) w.heap.size (by omega)).trans ((hb3.block w.heap.size (by simp;omega)).trans e1)
 have G7:=(Lib.alloc_old w3 (.cells #[.int .i64 c,.int .i64 a] 44) (w.heap.size+1) (by omega)).trans ((hb3.block (w.heap.size+1) (by simp)).trans e2)
 have hb4:=(hal.trans (hb3.mono (by simp;omega))).alloc (by omega) (.cells #[.int .i64 c,.int .i64 a] 44)
 have N9:=heap_alloc_new w3 (.cells #[.int .i64 c,.int .i64 a] 44)
 clear hb3 e1 e2 hal HL
 generalize hx:w3.heap.size=xb at N9 ⊢
 generalize w3.alloc _=w4 at G6 G7 hb4 N9 ⊢
 obtain ⟨q0,q1,qz⟩:=tree_cellsz G6
 obtain ⟨p0,p1,pz⟩:=fault_cells G7
 obtain ⟨f0,f1,fz⟩:=fault_cells N9
 go_region
 go_wp2
 refine bodyPost_ret (v:=.tuple #[.agg #[.slice none 0 0,.slice none 0 0],.agg #[.int .i64 c,.int .i64 a]]) (by simp [results,Tryz.results43,go_sem,q0,q1,p0,p1]) rfl ⟨?_,rfl⟩
 exact ((((hb4.setCell (by simp) _).setCell (by simp) _).setCell (by simp) _).setCell (by simp) _).drew
theorem read_parse (s:ByteArray)(d:Nat)(w:World)(hd1:1≤d)(hd2:d≤200)(hs:s.size≤1099511627776)(toks:List Tok)(hl:lexAll s.data.toList=.ok toks)(hn:toks.length≤100000)
  (a:Int × PSt) (ha:run toks d (gasA toks) (.expr 1) { startP with clause:=true }=some a) (han:a.2.nodes.length≤2 * toks.length) (hkl:(nodeM 18 [a.1,(kindM toks 5 a.2).1] (kindM toks 5 a.2).2).2.fE=0→∀ n∈(nodeM 18 [a.1,(kindM toks 5 a.2).1] (kindM toks 5 a.2).2).2.nodes,n.kids.length≤1000000) :
  Calls Tryz.prog 43 #[.string s,.int .i64 d,.func (.func 72) #[] #[]] w (FormOk (ofSt toks (nodeM 18 [a.1,(kindM toks 5 a.2).1] (kindM toks 5 a.2).2).2) w):=by
 have hpos:=(lexAll_laid hl).some
 have g1:=nodeM_grows 18 [a.1,(kindM toks 5 a.2).1] (kindM toks 5 a.2).2
 have g2:=kindM_grows toks 5 a.2
 have HA:Hid (∀ (E:PEnv) (w:World),E.toks=toks→E.depth=d→E.ok→PW E startP w→Calls Tryz.prog 72 #[.pointer (some ⟨E.pb,0,none⟩)] w (VPost E (nodeM 18 [a.1,(kindM toks 5 a.2).1] (kindM toks 5 a.2).2).2 w)):=Lib.hid (fun E w h1 h2 hE hp=>by
  subst h1 h2
  exact alone_any E hE (gasA E.toks) startP a w ha hp (by omega))
 clear ha
 generalize (nodeM 18 [a.1,(kindM toks 5 a.2).1] (kindM toks 5 a.2).2).2=st at g1 hkl HA ⊢
 have hnl:st.nodes.length≤1000000:=by omega
 clear g1 g2 han
 have HL:Hid (∀ W,Calls Tryz.prog 81 #[.string s] W fun e w'=>(∃ at_ ct,e=.returned (.tuple #[.slice at_ toks.length ct,.agg #[.int .i64 0,.int .i64 0]])∧Rec w'.heap.size w' (.slice at_ toks.length ct) 4 tokCells toks)∧Below W.heap.size W w'):=Lib.hid fun W=>(lex_any s W hs).mono fun e w' h=>by
  unfold LexOk at h
  rw [hl] at h
  obtain ⟨h1,v,h2,h3⟩:=h
  obtain ⟨at_,ct,rfl,_,_⟩:=h3.form (fun _=>rfl)
  exact ⟨⟨at_,ct,h2,h3⟩,h1⟩
 have hal:=(below_new w (.cells #[.slice none 0 0,.slice none 0 0] 25)).alloc (by simp) (.cells #[.int .i64 0,.int .i64 0] 44)
 have e1:=(Lib.alloc_old (w.alloc (.cells #[.slice none 0 0,.slice none 0 0] 25)) (.cells #[.int .i64 0,.int .i64 0] 44) w.heap.size (by simp)).trans (heap_alloc_new w (.cells #[.slice none 0 0,.slice none 0 0] 25))
 have e2:=heap_alloc_new (w.alloc (.cells #[.slice none 0 0,.slice none 0 0] 25)) (.cells #[.int .i64 0,.int .i64 0] 44)
 rw [World.size_alloc] at e2
 have hdI1:¬ ((d:Int)<1):=by omega
 have hdI2:¬ ((200:Int)<(d:Int)):=by omega
 clear hl
 go_enter Tryz.func43,Tryz.ntmps43
 go_upto_region 6 with (go_at_call 81;refine (HL.out _).mono ?_;rintro e w3 ⟨⟨at_,ct,rfl,hrec⟩,hb3⟩;have hz3:=hb3.size)
 rw [World.size_alloc,World.size_alloc] at hz3
 have G6:=(Lib.alloc_old w3 (.cells #[.int .i64 0,.int .i64 0] 44) w.heap.size (by omega)).trans ((hb3.block w.heap.size (by simp;omega)).trans e1)
 have G7:=(Lib.alloc_old w3 (.cells #[.int .i64 0,.int .i64 0] 44) (w.heap.size+1) (by omega)).trans ((hb3.block (w.heap.size+1) (by simp)).trans e2)
 have hb4:=(hal.trans (hb3.mono (by simp;omega))).alloc (by omega) (.cells #[.int .i64 0,.int .i64 0] 44)
 have hrec4:=hrec.below (below_new w3 (.cells #[.int .i64 0,.int .i64 0] 44))
 have hz4:w3.heap.size≤(w3.alloc (.cells #[.int .i64 0,.int .i64 0] 44)).heap.size:=by simp
 clear hb3 e1 e2 hal HL hrec hdI1 hdI2
 generalize w3.heap.size=B3 at hrec4 hz4 hz3 ⊢
 generalize w3.alloc _=w4 at G6 G7 hb4 hrec4 hz4 ⊢
 have HN:=Lib.hid (newB_any w4.heap.size _ toks w4 (hrec4.mono hz4) hpos (by omega))
 go_upto_region 7 with (go_at_call 82;refine HN.out.mono ?_;rintro e w5 ⟨bb,B,tv,rfl,hbw,hrec5,hBB,hb5⟩)
 have hbw':=hbw
 obtain ⟨hBb,nv0,l0,hbk,_⟩:=hbw'
 have hblt:=(Array.getElem?_eq_some_iff.1 hbk).1
 have G65:=(Lib.alloc_old w5 (.cells #[.pointer (some ⟨bb,0,none⟩),.int .i64 d,.bool false,.int .i64 0,.int .i64 0] 156) w.heap.size (by have:=hb5.size;have:=(Array.getElem?_eq_some_iff.1 G6).1;omega)).trans ((hb5.block w.heap.size (Array.getElem?_eq_some_iff.1 G6).1).trans G6)
 have G75:=(Lib.alloc_old w5 (.cells #[.pointer (some ⟨bb,0,none⟩),.int .i64 d,.bool false,.int .i64 0,.int .i64 0] 156) (w.heap.size+1) (by have:=hb5.size;have:=(Array.getElem?_eq_some_iff.1 G7).1;omega)).trans ((hb5.block (w.heap.size+1) (Array.getElem?_eq_some_iff.1 G7).1).trans G7)
 have hb6:=(hb4.trans (hb5.mono hb4.size)).alloc (by have:=hb4.size;have:=hb5.size;omega) (.cells #[.pointer (some ⟨bb,0,none⟩),.int .i64 d,.bool false,.int .i64 0,.int .i64 0] 156)
 have hPW:PW ⟨[],B,w5.heap.size,bb,tv,toks,d⟩ startP (w5.alloc (.cells #[.pointer (some ⟨bb,0,none⟩),.int .i64 d,.bool false,.int .i64 0,.int .i64 0] 156)) :=
  ⟨heap_alloc_new _ _,hbw.later (below_new _ _),hrec5.below ((below_new w5 _).mono (by omega)),by show B≤w5.heap.size;omega,Nat.zero_le _,fun r hr=>by cases hr⟩
 have hBw:w.heap.size≤B:=Nat.le_trans hb4.size hBB
 have HAL:=Lib.hid (HA.out ⟨[],B,w5.heap.size,bb,tv,toks,d⟩ _ rfl rfl ⟨hpos,by show toks.length≤_;omega,by show d≤1000;omega⟩ hPW)
 clear HN HA hbw hrec5 hb5 hb4 G6 G7 hrec4 hPW hbk
 generalize w5.heap.size=pb at HAL ⊢
 generalize w5.alloc _=w6 at G65 G75 hb6 HAL ⊢
 go_upto_region 8 with (go_at_call 72;refine HAL.out.mono ?_;rintro e w7 ⟨rfl,hp7,hk7⟩)
 have G67:=hk7.2 _ _ _ _ G65 (by decide) (by decide) (by decide)
 have G77:=hk7.2 _ _ _ _ G75 (by decide) (by decide) (by decide)
 have hb7:Below w.heap.size w w7:=hb6.trans (hk7.1.mono hBw)
 have HOK:=Lib.hid (ok_any _ st w7 hp7)
 obtain ⟨c0,c1,c2,c3,c4,cz⟩:=hp7.cells
 obtain ⟨h1,hbw7,hrec7,_⟩:=hp7
 obtain ⟨q0,q1,qz⟩:=tree_cellsz G67
 obtain ⟨p0,p1,pz⟩:=fault_cells G77
 clear hk7 HAL h1 G65 G75 hb6
 simp only at c0 c1 c2 c3 c4 hbw7 hrec7
 by_cases hf:st.fE=0
 ·have hok:okB st=true:=by unfold okB;simp [hf]
  rw [hok] at HOK
  have HD:=Lib.hid (done_any _ B bb tv toks st.nodes st.used w7 hbw7 hrec7 hpos (by omega) hnl (hkl hf))
  have HOF:Hid (ofSt toks st=.good toks st.nodes):=Lib.hid (by rw [ofSt,if_pos hf])
  clear hok hf hbw7 hrec7 c1 c2 c3 c4 q0 q1 qz p0 p1 pz
  rw [HOF.out]
  go_upto_region 10 with (go_at_call 83;refine HOK.out.mono ?_;rintro e w8 ⟨rfl,rfl⟩)
  go_wp2_with (go_at_call 84;refine HD.out.mono ?_;rintro e w9 ⟨v9,rfl,ht9,hb9⟩;obtain ⟨at9,ct9,an9,cn9,rfl⟩:=ht9.at.slices;have G69:=(hb9.block w.heap.size (Array.getElem?_eq_some_iff.1 G67).1).trans G67;have G79:=(hb9.block (w.heap.size+1) (Array.getElem?_eq_some_iff.1 G77).1).trans G77;obtain ⟨q0,q1,qz⟩:=tree_cellsz G69;obtain ⟨p0,p1,pz⟩:=fault_cells G79)
  have T1:=ht9.set G69 (by decide) (by decide) (by decide) 0 (.slice at9 toks.length ct9)
  have G1:=heap_setCell_same w9 w.heap.size 0 _ _ (.slice at9 toks.length ct9) G69
  have T2:=T1.set G1 (by decide) (by decide) (by decide) 1 (.slice an9 st.nodes.length cn9)
  have F1:((w9.setCell ⟨w.heap.size,0,none⟩ (.slice at9 toks.length ct9)).setCell ⟨w.heap.size,1,none⟩ (.slice an9 st.nodes.length cn9)).heap[w.heap.size+1]?=some (.cells #[.int .i64 0,.int .i64 0] 44 (0,0)):=by
   rw [heap_setCell_other _ _ _ _ (by show w.heap.size+1≠w.heap.size;omega),heap_setCell_other _ _ _ _ (by show w.heap.size+1≠w.heap.size;omega)]
   exact G79
  have T3:=T2.set F1 (by decide) (by decide) (by decide) 0 (.int .i64 0)
  have F2:=heap_setCell_same _ (w.heap.size+1) 0 _ _ (.int .i64 0) F1
  have T4:=T3.set F2 (by decide) (by decide) (by decide) 1 (.int .i64 0)
  have hb9':=hb7.trans (hb9.mono hb7.size)
  refine bodyPost_ret (v:=.tuple #[.agg #[.slice at9 toks.length ct9,.slice an9 st.nodes.length cn9],.agg #[.int .i64 0,.int .i64 0]]) (by simp [results,Tryz.results43,go_sem,q0,q1,p0,p1]) rfl ?_
  rw [HOF.out]
  exact ⟨(((hb9'.setCell (by simp) _).setCell (by simp) _).setCell (by simp) _).setCell (by simp) _,at9,ct9,an9,cn9,rfl,T4⟩
 ·have hok:okB st=false:=by unfold okB;simp [hf]
  rw [hok] at HOK
  have HOF:Hid (ofSt toks st=.bad st.fE st.fAt):=Lib.hid (by rw [ofSt,if_neg hf])
  clear hok hf hbw7 hrec7 c1 c2 hkl hnl
  go_upto_region 9 with (go_at_call 83;refine HOK.out.mono ?_;rintro e w8 ⟨rfl,rfl⟩)
  go_region
  go_wp2
  refine bodyPost_ret (v:=.tuple #[.agg #[.slice none 0 0,.slice none 0 0],.agg #[.int .i64 st.fE,.int .i64 st.fAt]]) (by simp [results,Tryz.results43,go_sem,q0,q1,p0,p1]) rfl ?_
  rw [HOF.out]
  exact ⟨((((hb7.setCell (by simp) _).setCell (by simp) _).setCell (by simp) _).setCell (by simp) _).drew,rfl⟩
theorem read_any (s:ByteArray)(d:Nat)(w:World)(hd1:1≤d)(hd2:d≤200)(hs:s.size≤1099511627776) :
  Calls Tryz.prog 43 #[.string s,.int .i64 d,.func (.func 72) #[] #[]] w (FormOk (formF s.data.toList d) w):=by
 cases hl:lexAll s.data.toList with
 | error x =>
  have hf:=(lexAll_fault hl).2
  have e:formF s.data.toList d=.bad x.1 x.2:=by rw [formF,hl]
  rw [e]
  exact read_lexbad s d _ w hd1 hd2 hs x.1 x.2 hl (by omega)
 | ok toks =>
  have hL:=lexAll_laid hl
  have hlen:toks.length≤65537:=by
   have h1:=hL.count
   unfold lexAll at hl
   split at hl
   ·cases hl
   ·omega
  obtain ⟨a,ha,hu,hn⟩:=alone_total hL d
  have e:formF s.data.toList d=ofSt toks (nodeM 18 [a.1,(kindM toks 5 a.2).1] (kindM toks 5 a.2).2).2:=by
   rw [formF,hl]
   simp only
   unfold aloneM
   rw [ha,Option.bind_some]
  rw [e]
  refine read_parse s d w hd1 hd2 hs toks hl (by omega) a ha hn fun hf n hm=>?_
  obtain ⟨ce,he,_⟩:=alone_tree hL ha hf
  have g1:=nodeM_grows 18 [a.1,(kindM toks 5 a.2).1] (kindM toks 5 a.2).2
  have g2:=kindM_grows toks 5 a.2
  rw [he] at hm g1
  rw [PT.em_len] at g1
  have:=em_kids _ _ _ n hm
  omega
theorem formula_any (s:ByteArray)(d:Nat)(w:World)(hd1:1≤d)(hd2:d≤200)(hs:s.size≤1099511627776) :
  Calls Tryz.prog 36 #[.string s,.int .i64 d] w (FormOk (formF s.data.toList d) w):=by
 have HR:=Lib.hid (fun W=>read_any s d W hd1 hd2 hs)
 have hal:=(below_new w (.cells #[.slice none 0 0,.slice none 0 0] 25)).alloc (by simp) (.cells #[.int .i64 0,.int .i64 0] 44)
 have e1:=(Lib.alloc_old (w.alloc (.cells #[.slice none 0 0,.slice none 0 0] 25)) (.cells #[.int .i64 0,.int .i64 0] 44) w.heap.size (by simp)).trans (heap_alloc_new w (.cells #[.slice none 0 0,.slice none 0 0] 25))
 have e2:=heap_alloc_new (w.alloc (.cells #[.slice none 0 0,.slice none 0 0] 25)) (.cells #[.int .i64 0,.int .i64 0] 44)
 rw [World.size_alloc] at e2
 have HB:Hid (∀ w9,Below ((w.alloc (.cells #[.slice none 0 0,.slice none 0 0] 25)).alloc (.cells #[.int .i64 0,.int .i64 0] 44)).heap.size ((w.alloc (.cells #[.slice none 0 0,.slice none 0 0] 25)).alloc (.cells #[.int .i64 0,.int .i64 0] 44)) w9→Below w.heap.size w w9∧w9.heap[w.heap.size]?=some (.cells #[.slice none 0 0,.slice none 0 0] 25 (0,0))∧w9.heap[w.heap.size+1]?=some (.cells #[.int .i64 0,.int .i64 0] 44 (0,0))):=Lib.hid fun w9 hb=>⟨hal.trans (hb.mono (by simp;omega)),(hb.block w.heap.size (by simp;omega)).trans e1,(hb.block (w.heap.size+1) (by simp)).trans e2⟩
 clear hal e1 e2
 generalize formF s.data.toList d=r at HR ⊢
 go_enter Tryz.func36,Tryz.ntmps36
 cases r with
 | bad c a =>
  go_wp2_with (go_at_call 43;refine (HR.out _).mono ?_;rintro e w9 ⟨hb9,rfl⟩;obtain ⟨hb,G6,G7⟩:=HB.out w9 hb9;obtain ⟨q0,q1,qz⟩:=tree_cellsz G6;obtain ⟨p0,p1,pz⟩:=fault_cells G7)
  refine bodyPost_ret (v:=.tuple #[.agg #[.slice none 0 0,.slice none 0 0],.agg #[.int .i64 c,.int .i64 a]]) (by simp [results,Tryz.results36,go_sem,q0,q1,p0,p1]) rfl ?_
  exact ⟨(((hb.setCell (by simp) _).setCell (by simp) _).setCell (by simp) _).setCell (by simp) _,rfl⟩
 | good toks nodes =>
  go_wp2_with (go_at_call 43;refine (HR.out _).mono ?_;rintro e w9 ⟨hb9,at9,ct9,an9,cn9,rfl,ht9⟩;obtain ⟨hb,G69,G79⟩:=HB.out w9 hb9;obtain ⟨q0,q1,qz⟩:=tree_cellsz G69;obtain ⟨p0,p1,pz⟩:=fault_cells G79)
  have T1:=ht9.set G69 (by decide) (by decide) (by decide) 0 (.slice at9 toks.length ct9)
  have G1:=heap_setCell_same w9 w.heap.size 0 _ _ (.slice at9 toks.length ct9) G69
  have T2:=T1.set G1 (by decide) (by decide) (by decide) 1 (.slice an9 nodes.length cn9)
  have F1:((w9.setCell ⟨w.heap.size,0,none⟩ (.slice at9 toks.length ct9)).setCell ⟨w.heap.size,1,none⟩ (.slice an9 nodes.length cn9)).heap[w.heap.size+1]?=some (.cells #[.int .i64 0,.int .i64 0] 44 (0,0)):=by
   rw [heap_setCell_other _ _ _ _ (by show w.heap.size+1≠w.heap.size;omega),heap_setCell_other _ _ _ _ (by show w.heap.size+1≠w.heap.size;omega)]
   exact G79
  have T3:=T2.set F1 (by decide) (by decide) (by decide) 0 (.int .i64 0)
  have F2:=heap_setCell_same _ (w.heap.size+1) 0 _ _ (.int .i64 0) F1
  have T4:=T3.set F2 (by decide) (by decide) (by decide) 1 (.int .i64 0)
  refine bodyPost_ret (v:=.tuple #[.agg #[.slice at9 toks.length ct9,.slice an9 nodes.length cn9],.agg #[.int .i64 0,.int .i64 0]]) (by simp [results,Tryz.results36,go_sem,q0,q1,p0,p1]) rfl ?_
  exact ⟨(((hb.setCell (by simp) _).setCell (by simp) _).setCell (by simp) _).setCell (by simp) _,at9,ct9,an9,cn9,rfl,T4⟩
end Go.Proofs.YtbodlpoomfefcaaGreatDoor

namespace Go.Proofs.YtbodlpoomfefcaaGreatDoor
open Go.RowKit Go.Shelf
attribute [local go_sem] Oper.semAt_some
def backF (ks:List Int)(k:Nat):List (Int × Int):=(List.range k).map fun (j:Nat)=>((ks.length:Int) - 1 - (j:Int),ks[ks.length - 1 - j]?.getD 0)
theorem backF_succ (ks:List Int)(k:Nat):backF ks (k+1)=backF ks k++[((ks.length:Int) - 1 - (k:Int),ks[ks.length - 1 - k]?.getD 0)]:=by simp [backF,List.range_succ]
theorem backF_len (ks:List Int)(k:Nat):(backF ks k).length=k:=by simp [backF]
theorem backF_snd (ks:List Int)(k:Nat)(hk:k≤ks.length):(backF ks k).map Prod.snd=ks.reverse.take k:=by
 apply List.ext_getElem
 ·simp [backF,hk]
 ·intro i h1 h2
  simp only [List.length_map,backF_len] at h1
  simp [backF,show ks.length - 1 - i<ks.length by omega]
def BackKp (n₀ Bs:Nat)(W W':World):Prop:=Below n₀ W W'∧W'.cell? ⟨Bs,0,none⟩=W.cell? ⟨Bs,0,none⟩
theorem BackKp.refl (n₀ Bs:Nat)(W:World):BackKp n₀ Bs W W:=⟨Below.refl _ _,rfl⟩
theorem BackKp.trans {n₀ Bs:Nat}{A B C:World}(h:BackKp n₀ Bs A B)(k:BackKp n₀ Bs B C):BackKp n₀ Bs A C:=⟨h.1.trans k.1,k.2.trans h.2⟩
theorem back1_in (F:Fence)(n:Nat)(h8:F.fn 265)(hro:F.round=none)(hn:1≤n)(l Bs n₀ b off cap:Nat)(ks:List Int)(hreach:ks.length≤1099511627776)(hb:b<n₀)(J Jx:List (Int × Int)→World→Prop)
  (hY:∀ pre x W,J pre W→pre.length<ks.length→YieldAt F (n - 1) Tryz.prog l #[.int .i64 x.1,.int .i64 x.2] W fun e W' =>
   (e=.returned (.bool true)∧J (pre++[x]) W'∧BackKp n₀ Bs W W')∨(e=.returned (.bool false)∧Jx (pre++[x]) W'))
  (W:World) (hBs:W.cell? ⟨Bs,0,none⟩=some (.slice (some ⟨b,off,none⟩) ks.length cap)) (hc:∀ j,j<ks.length→W.cell? ⟨b,off+j,none⟩=some (.int .i64 (ks[j]?.getD 0))) (h0:J [] W) :
  CallsIn F n Tryz.prog 265 #[.func (.yield l) #[] #[],.pointer (some ⟨Bs,0,none⟩)] W fun e W'=>(∃ v,e=.returned v) ∧
   ((∃ ys,ys=backF ks ks.length∧J ys W')∨(∃ pre,(∃ k,k≤ks.length∧pre=backF ks k)∧Jx pre W')):=by
 refine callsIn_of_wp Tryz.func265 rfl h8 ?_ hro
 simp only [Tryz.ntmps265,List.size_toArray,List.length_cons,List.length_nil,Nat.reduceAdd,Nat.reduceSub,Array.replicate_succ,Array.replicate_zero,List.push_toArray,List.append_toArray,List.nil_append,List.cons_append]
 gi_wp2
 gi_loopw [3] (fun i wr=>∃ k:Nat,k≤ks.length∧i=.int .i64 ((ks.length:Int) - 1 - (k:Int))∧J (backF ks k) wr∧BackKp n₀ Bs W wr)
  (fun i _=>(intOf i+1).toNat)
 case atStart=>exact ⟨0,Nat.zero_le _,by simp,h0,BackKp.refl _ _ _⟩
 case round =>
  obtain ⟨k,hk,rfl,hJs,hnx⟩:=hrel
  have hBs':=hnx.2.trans hBs
  by_cases hlt:k<ks.length
  ·obtain ⟨m,hm⟩:∃ m:Nat,ks.length=m+k+1:=⟨ks.length - 1 - k,by omega⟩
   have e1:(ks.length:Int) - 1 - (k:Int)=(m:Int):=by omega
   have e2:ks.length - 1 - k=m:=by omega
   have hsucc:=backF_succ ks k
   rw [e1,e2] at hsucc
   rw [e1]
   have hcx:=(hnx.1.cell (p:=⟨b,off+m,none⟩) hb).trans (hc m (by omega))
   obtain ⟨fn,tmps,assign,body,hy,hR⟩:=hY _ ((m:Int),ks[m]?.getD 0) wr hJs (by rw [backF_len];exact hlt)
   dsimp only at hy
   have hmI:(m:Int)<(ks.length:Int):=by omega
   have hm0:(0:Int)≤(m:Int):=by omega
   have HS:=Lib.hid hsucc
   have HM:=Lib.hid hm
   clear hsucc e1 e2 hm hc
   gi_wp2
   refine hR.mono ?_
   rintro e W3 (⟨rfl,hJ3,hk3⟩|⟨rfl,hJx3⟩)
   ·gi_wp2
    go_roundw
    case rel=>exact ⟨k+1,by omega,congrArg (Value.int .i64) (by have:=HM.out;omega),by rw [HS.out];exact hJ3,hnx.trans hk3⟩
    case measure=>simp only [intOf];omega
   ·gi_wp2
    refine bodyPost_ret (results_none rfl _ _ _) rfl ?_
    exact ⟨⟨_,rfl⟩,.inr ⟨_,⟨k+1,by omega,HS.out.symm⟩,hJx3⟩⟩
  ·obtain rfl:k=ks.length:=by omega
   have e1:(ks.length:Int) - 1 - (ks.length:Int)=-1:=by omega
   rw [e1]
   clear e1 hlt
   gi_wp2
   go_end0
   exact ⟨⟨_,rfl⟩,.inl ⟨_,rfl,hJs⟩⟩
theorem back1_nil_in (F:Fence)(n:Nat)(h8:F.fn 265)(hro:F.round=none)(l Bs:Nat)(ao:Option Addr)(cap:Nat)(J:List (Int × Int)→World→Prop)(W:World)(hBs:W.cell? ⟨Bs,0,none⟩=some (.slice ao 0 cap))(h0:J [] W) :
  CallsIn F n Tryz.prog 265 #[.func (.yield l) #[] #[],.pointer (some ⟨Bs,0,none⟩)] W fun e W'=>(∃ v,e=.returned v)∧J [] W':=by
 refine callsIn_of_wp Tryz.func265 rfl h8 ?_ hro
 simp only [Tryz.ntmps265,List.size_toArray,List.length_cons,List.length_nil,Nat.reduceAdd,Nat.reduceSub,Array.replicate_succ,Array.replicate_zero,List.push_toArray,List.append_toArray,List.nil_append,List.cons_append]
 gi_wp2
 gi_loopw [3] (fun i wr=>i=.int .i64 (-1)∧J [] wr) (fun _ _=>0)
 case atStart=>exact ⟨rfl,h0⟩
 case round =>
  obtain ⟨rfl,hJs⟩:=hrel
  gi_wp2
  go_end0
  exact ⟨⟨_,rfl⟩,hJs⟩
theorem back_in (F:Fence)(n:Nat)(h6:F.fn 220)(hro:F.round=none)(a:Option Addr)(len cap:Nat)(w:World) :
  CallsIn F n Tryz.prog 220 #[.slice a len cap] w fun e w'=>e=.returned (.func (.func 265) #[] #[.pointer (some ⟨w.heap.size,0,none⟩)])∧w'=w.alloc (.cells #[.slice a len cap] 81):=by
 refine callsIn_of_wp Tryz.func220 rfl h6 ?_ hro
 simp only [Tryz.ntmps220,List.size_toArray,List.length_cons,List.length_nil,Nat.reduceAdd,Nat.reduceSub,Array.replicate_succ,Array.replicate_zero,List.push_toArray,List.append_toArray,List.nil_append,List.cons_append]
 gi_wp2
 go_ret
 exact ⟨rfl,rfl⟩
theorem back_stops (F:Fence)(n:Nat)(h8:F.fn 265)(hro:F.round=none)(hn:1≤n)(Bs n₀:Nat)(sv:Value)(ks:List Int)(hreach:ks.length≤1099511627776)(w:World)(hBs:Bs<w.heap.size)(hn₀:n₀≤w.heap.size)
  (hc:w.cell? ⟨Bs,0,none⟩=some sv) (hI:Ints n₀ w sv ks) :
  SeqStopsK F n Tryz.prog 265 #[.pointer (some ⟨Bs,0,none⟩)] (fun x:Int × Int=>#[Value.int .i64 x.1,Value.int .i64 x.2]) (BackKp n₀ Bs) (fun ys=>ys=backF ks ks.length)
   (fun pre=>∃ k,k≤ks.length∧pre=backF ks k) ks.length w:=fun l J Jx W hW _ _ hY h0=>by
 have hc':=(hW.cell (p:=⟨Bs,0,none⟩) hBs).trans hc
 obtain ⟨ao,cap,rfl,hcap,hf⟩:=(hI.below (hW.mono hn₀)).form
 by_cases h:0<ks.length
 ·obtain ⟨b,off,rfl,hb,hcs⟩:=hf h
  exact back1_in F n h8 hro hn l Bs n₀ b off cap ks hreach hb J Jx hY W hc' (fun j hj=>by rw [hcs j hj];simp [hj]) h0
 ·obtain rfl:ks=[]:=List.length_eq_zero_iff.1 (by omega)
  exact (back1_nil_in F n h8 hro l Bs ao cap J W hc' h0).mono fun e W' ⟨he,hj⟩=>⟨he,.inl ⟨_,rfl,hj⟩⟩
end Go.Proofs.YtbodlpoomfefcaaGreatDoor
