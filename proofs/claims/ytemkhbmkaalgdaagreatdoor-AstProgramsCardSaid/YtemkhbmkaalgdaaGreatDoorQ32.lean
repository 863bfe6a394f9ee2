/- Walks and plain laws: FormW, TdumpW2, AsW, AsW2, FofW. -/
import Derived.Test.YtemkhbmkaalgdaaGreatDoorQ31
set_option maxHeartbeats 16000000
set_option maxRecDepth 100000
namespace Go.Proofs.YtemkhbmkaalgdaaGreatDoor
open Go.RowKit Go
def FormOk (r:FRes)(w:World)(e:Ending)(w':World):Prop :=
 Below w.heap.size w w'∧match r with
 | .bad c a=>e=.returned (.tuple #[.agg #[.slice none 0 0,.slice none 0 0],.agg #[.int .i64 c,.int .i64 a]])
 | .good toks nodes=>∃ at_ ct an cn,e=.returned (.tuple #[.agg #[.slice at_ toks.length ct,.slice an nodes.length cn],.agg #[.int .i64 0,.int .i64 0]])∧TreeTy w' (.agg #[.slice at_ toks.length ct,.slice an nodes.length cn]) toks nodes
theorem fault_cells {w:World}{b:Nat}{x y:Value}(h:w.heap[b]?=some (.cells #[x,y] 44 (0,0))):w.cell? ⟨b,0,none⟩=some x∧w.cell? ⟨b,1,none⟩=some y∧∀ j,w.frozen? ⟨b,j,none⟩=false:=by
 refine ⟨?_,?_,fun j=>?_⟩
 ·rw [Lib.cell_of_heap h];rfl
 ·rw [Lib.cell_of_heap h];rfl
 ·simp [World.frozen?,h]
theorem tree_cellsz {w:World}{b:Nat}{x y:Value}(h:w.heap[b]?=some (.cells #[x,y] 25 (0,0))):w.cell? ⟨b,0,none⟩=some x∧w.cell? ⟨b,1,none⟩=some y∧∀ j,w.frozen? ⟨b,j,none⟩=false:=by
 refine ⟨?_,?_,fun j=>?_⟩
 ·rw [Lib.cell_of_heap h];rfl
 ·rw [Lib.cell_of_heap h];rfl
 ·simp [World.frozen?,h]
theorem read_lexbad (s:ByteArray)(d:Nat)(fv:Value)(w:World)(hd1:1≤d)(hd2:d≤200)(hs:s.size≤1099511627776)(c a:Nat)(hl:lexAll s.data.toList=.error (c,a))(hc:c≠0) :
  Calls Tryz.prog 32 #[.string s,.int .i64 d,fv] w (FormOk (.bad c a) w):=by
 have HL:Hid (∀ W,Calls Tryz.prog 53 #[.string s] W fun e w'=>e=.returned (.tuple #[.slice none 0 0,.agg #[.int .i64 c,.int .i64 a]])∧Below W.heap.size W w'):=Lib.hid fun W=>(lex_any s W hs).mono fun e w' h=>by
  unfold LexOk at h
  rw [hl] at h
  exact ⟨h.2,h.1⟩
 have hc0:((c:Int) == 0)=false:=by simp;omega
 have hal:=(below_new w (.cells #[.slice none 0 0,.slice none 0 0] 25)).alloc (by simp) (.cells #[.int .i64 0,.int .i64 0] 44)
 have e1:=(Lib.alloc_old (w.alloc (.cells #[.slice none 0 0,.slice none 0 0] 25)) (.cells #[.int .i64 0,.int .i64 0] 44) w.heap.size (by simp)).trans (heap_alloc_new w (.cells #[.slice none 0 0,.slice none 0 0] 25))
 have e2:=heap_alloc_new (w.alloc (.cells #[.slice none 0 0,.slice none 0 0] 25)) (.cells #[.int .i64 0,.int .i64 0] 44)
 rw [World.size_alloc] at e2
 have hdI1:¬ ((d:Int)<1):=by omega
 have hdI2:¬ ((200:Int)<(d:Int)):=by omega
 clear hl
 go_enter Tryz.func32,Tryz.ntmps32
 go_upto_region 5 with (go_at_call 53;refine (HL.out _).mono ?_;rintro e w3 ⟨rfl,hb3⟩;have hz3:=hb3.size)
 rw [World.size_alloc,World.size_alloc] at hz3
 have G6:=(Lib.alloc_old w3 (.cells #[.int .i64 c,.int .i64 a] 44) w.heap.size (by omega)).trans ((hb3.block w.heap.size (by simp;omega)).trans e1)
 have G7:=(Lib.alloc_old w3 (.cells #[.int .i64 c,.int .i64 a] 44) (w.heap.size+1) (by omega)).trans ((hb3.block (w.heap.size+1) (by simp)).trans e2)
 have hb4:=(hal.trans (hb3.mono (by simp;omega))).alloc (by omega) (.cells #[.int .i64 c,.int .i64 a] 44)
 have N9:=heap_alloc_new w3 (.cells #[.int .i64 c,.int .i64 a] 44)
 clear hb3 e1 e2 hal HL
 generalize hx:w3.heap.size=xb at N9 ⊢
 generalize w3.alloc _=w4 at G6 G7 hb4 N9 ⊢
 obtain ⟨q0,q1,qz⟩:=tree_cellsz G6
 obtain ⟨p0,p1,pz⟩:=fault_cells G7
 obtain ⟨f0,f1,fz⟩:=fault_cells N9
 go_region
 go_wp2
 refine bodyPost_ret (v:=.tuple #[.agg #[.slice none 0 0,.slice none 0 0],.agg #[.int .i64 c,.int .i64 a]]) (by simp [results,Tryz.results32,go_sem,q0,q1,p0,p1]) rfl ⟨?_,rfl⟩
 exact ((((hb4.setCell (by simp) _).setCell (by simp) _).setCell (by simp) _).setCell (by simp) _).drew
theorem read_parse (s:ByteArray)(d:Nat)(w:World)(hd1:1≤d)(hd2:d≤200)(hs:s.size≤1099511627776)(toks:List Tok)(hl:lexAll s.data.toList=.ok toks)(hn:toks.length≤100000)
  (a:Int × PSt) (ha:run toks d (gasA toks) (.expr 1) { startP with clause:=true }=some a) (han:a.2.nodes.length≤2 * toks.length) (hkl:(nodeM 18 [a.1,(kindM toks 5 a.2).1] (kindM toks 5 a.2).2).2.fE=0→∀ n∈(nodeM 18 [a.1,(kindM toks 5 a.2).1] (kindM toks 5 a.2).2).2.nodes,n.kids.length≤1000000) :
  Calls Tryz.prog 32 #[.string s,.int .i64 d,.func (.func 44) #[] #[]] w (FormOk (ofSt toks (nodeM 18 [a.1,(kindM toks 5 a.2).1] (kindM toks 5 a.2).2).2) w):=by
 have hpos:=(lexAll_laid hl).some
 have g1:=nodeM_grows 18 [a.1,(kindM toks 5 a.2).1] (kindM toks 5 a.2).2
 have g2:=kindM_grows toks 5 a.2
 have HA:Hid (∀ (E:PEnv) (w:World),E.toks=toks→E.depth=d→E.ok→PW E startP w→Calls Tryz.prog 44 #[.pointer (some ⟨E.pb,0,none⟩)] w (VPost E (nodeM 18 [a.1,(kindM toks 5 a.2).1] (kindM toks 5 a.2).2).2 w)):=Lib.hid (fun E w h1 h2 hE hp=>by
  subst h1 h2
  exact alone_any E hE (gasA E.toks) startP a w ha hp (by omega))
 clear ha
 generalize (nodeM 18 [a.1,(kindM toks 5 a.2).1] (kindM toks 5 a.2).2).2=st at g1 hkl HA ⊢
 have hnl:st.nodes.length≤1000000:=by omega
 clear g1 g2 han
 have HL:Hid (∀ W,Calls Tryz.prog 53 #[.string s] W fun e w'=>(∃ at_ ct,e=.returned (.tuple #[.slice at_ toks.length ct,.agg #[.int .i64 0,.int .i64 0]])∧Rec w'.heap.size w' (.slice at_ toks.length ct) 4 tokCells toks)∧Below W.heap.size W w'):=Lib.hid fun W=>(lex_any s W hs).mono fun e w' h=>by
  unfold LexOk at h
  rw [hl] at h
  obtain ⟨h1,v,h2,h3⟩:=h
  obtain ⟨at_,ct,rfl,_,_⟩:=h3.form (fun _=>rfl)
  exact ⟨⟨at_,ct,h2,h3⟩,h1⟩
 have hal:=(below_new w (.cells #[.slice none 0 0,.slice none 0 0] 25)).alloc (by simp) (.cells #[.int .i64 0,.int .i64 0] 44)
 have e1:=(Lib.alloc_old (w.alloc (.cells #[.slice none 0 0,.slice none 0 0] 25)) (.cells #[.int .i64 0,.int .i64 0] 44) w.heap.size (by simp)).trans (heap_alloc_new w (.cells #[.slice none 0 0,.slice none 0 0] 25))
 have e2:=heap_alloc_new (w.alloc (.cells #[.slice none 0 0,.slice none 0 0] 25)) (.cells #[.int .i64 0,.int .i64 0] 44)
 rw [World.size_alloc] at e2
 have hdI1:¬ ((d:Int)<1):=by omega
 have hdI2:¬ ((200:Int)<(d:Int)):=by omega
 clear hl
 go_enter Tryz.func32,Tryz.ntmps32
 go_upto_region 6 with (go_at_call 53;refine (HL.out _).mono ?_;rintro e w3 ⟨⟨at_,ct,rfl,hrec⟩,hb3⟩;have hz3:=hb3.size)
 rw [World.size_alloc,World.size_alloc] at hz3
 have G6:=(Lib.alloc_old w3 (.cells #[.int .i64 0,.int .i64 0] 44) w.heap.size (by omega)).trans ((hb3.block w.heap.size (by simp;omega)).trans e1)
 have G7:=(Lib.alloc_old w3 (.cells #[.int .i64 0,.int .i64 0] 44) (w.heap.size+1) (by omega)).trans ((hb3.block (w.heap.size+1) (by simp)).trans e2)
 have hb4:=(hal.trans (hb3.mono (by simp;omega))).alloc (by omega) (.cells #[.int .i64 0,.int .i64 0] 44)
 have hrec4:=hrec.below (below_new w3 (.cells #[.int .i64 0,.int .i64 0] 44))
 have hz4:w3.heap.size≤(w3.alloc (.cells #[.int .i64 0,.int .i64 0] 44)).heap.size:=by simp
 clear hb3 e1 e2 hal HL hrec hdI1 hdI2
 generalize w3.heap.size=B3 at hrec4 hz4 hz3 ⊢
 generalize w3.alloc _=w4 at G6 G7 hb4 hrec4 hz4 ⊢
 have HN:=Lib.hid (newB_any w4.heap.size _ toks w4 (hrec4.mono hz4) hpos (by omega))
 go_upto_region 7 with (go_at_call 54;refine HN.out.mono ?_;rintro e w5 ⟨bb,B,tv,rfl,hbw,hrec5,hBB,hb5⟩)
 have hbw':=hbw
 obtain ⟨hBb,nv0,l0,hbk,_⟩:=hbw'
 have hblt:=(Array.getElem?_eq_some_iff.1 hbk).1
 have G65:=(Lib.alloc_old w5 (.cells #[.pointer (some ⟨bb,0,none⟩),.int .i64 d,.bool false,.int .i64 0,.int .i64 0] 126) w.heap.size (by have:=hb5.size;have:=(Array.getElem?_eq_some_iff.1 G6).1;omega)).trans ((hb5.block w.heap.size (Array.getElem?_eq_some_iff.1 G6).1).trans G6)
 have G75:=(Lib.alloc_old w5 (.cells #[.pointer (some ⟨bb,0,none⟩),.int .i64 d,.bool false,.int .i64 0,.int .i64 0] 126) (w.heap.size+1) (by have:=hb5.size;have:=(Array.getElem?_eq_some_iff.1 G7).1;omega)).trans ((hb5.block (w.heap.size+1) (Array.getElem?_eq_some_iff.1 G7).1).trans G7)
 have hb6:=(hb4.trans (hb5.mono hb4.size)).alloc (by have:=hb4.size;have:=hb5.size;omega) (.cells #[.pointer (some ⟨bb,0,none⟩),.int .i64 d,.bool false,.int .i64 0,.int .i64 0] 126)
 have hPW:PW ⟨[],B,w5.heap.size,bb,tv,toks,d⟩ startP (w5.alloc (.cells #[.pointer (some ⟨bb,0,none⟩),.int .i64 d,.bool false,.int .i64 0,.int .i64 0] 126)) :=
  ⟨heap_alloc_new _ _,hbw.later (below_new _ _),hrec5.below ((below_new w5 _).mono (by omega)),by show B≤w5.heap.size;omega,Nat.zero_le _,fun r hr=>by cases hr⟩
 have hBw:w.heap.size≤B:=Nat.le_trans hb4.size hBB
 have HAL:=Lib.hid (HA.out ⟨[],B,w5.heap.size,bb,tv,toks,d⟩ _ rfl rfl ⟨hpos,by show toks.length≤_;omega,by show d≤1000;omega⟩ hPW)
 clear HN HA hbw hrec5 hb5 hb4 G6 G7 hrec4 hPW hbk
 generalize w5.heap.size=pb at HAL ⊢
 generalize w5.alloc _=w6 at G65 G75 hb6 HAL ⊢
 go_upto_region 8 with (go_at_call 44;refine HAL.out.mono ?_;rintro e w7 ⟨rfl,hp7,hk7⟩)
 have G67:=hk7.2 _ _ _ _ G65 (by decide) (by decide) (by decide)
 have G77:=hk7.2 _ _ _ _ G75 (by decide) (by decide) (by decide)
 have hb7:Below w.heap.size w w7:=hb6.trans (hk7.1.mono hBw)
 have HOK:=Lib.hid (ok_any _ st w7 hp7)
 obtain ⟨c0,c1,c2,c3,c4,cz⟩:=hp7.cells
 obtain ⟨h1,hbw7,hrec7,_⟩:=hp7
 obtain ⟨q0,q1,qz⟩:=tree_cellsz G67
 obtain ⟨p0,p1,pz⟩:=fault_cells G77
 clear hk7 HAL h1 G65 G75 hb6
 simp only at c0 c1 c2 c3 c4 hbw7 hrec7
 by_cases hf:st.fE=0
 ·have hok:okB st=true:=by unfold okB;simp [hf]
  rw [hok] at HOK
  have HD:=Lib.hid (done_any _ B bb tv toks st.nodes st.used w7 hbw7 hrec7 hpos (by omega) hnl (hkl hf))
  have HOF:Hid (ofSt toks st=.good toks st.nodes):=Lib.hid (by rw [ofSt,if_pos hf])
  clear hok hf hbw7 hrec7 c1 c2 c3 c4 q0 q1 qz p0 p1 pz
  rw [HOF.out]
  go_upto_region 10 with (go_at_call 55;refine HOK.out.mono ?_;rintro e w8 ⟨rfl,rfl⟩)
  go_wp2_with (go_at_call 56;refine HD.out.mono ?_;rintro e w9 ⟨v9,rfl,ht9,hb9⟩;obtain ⟨at9,ct9,an9,cn9,rfl⟩:=ht9.at.slices;have G69:=(hb9.block w.heap.size (Array.getElem?_eq_some_iff.1 G67).1).trans G67;have G79:=(hb9.block (w.heap.size+1) (Array.getElem?_eq_some_iff.1 G77).1).trans G77;obtain ⟨q0,q1,qz⟩:=tree_cellsz G69;obtain ⟨p0,p1,pz⟩:=fault_cells G79)
  have T1:=ht9.set G69 (by decide) (by decide) (by decide) 0 (.slice at9 toks.length ct9)
  have G1:=heap_setCell_same w9 w.heap.size 0 _ _ (.slice at9 toks.length ct9) G69
  have T2:=T1.set G1 (by decide) (by decide) (by decide) 1 (.slice an9 st.nodes.length cn9)
  have F1:((w9.setCell ⟨w.heap.size,0,none⟩ (.slice at9 toks.length ct9)).setCell ⟨w.heap.size,1,none⟩ (.slice an9 st.nodes.length cn9)).heap[w.heap.size+1]?=some (.cells #[.int .i64 0,.int .i64 0] 44 (0,0)):=by
   rw [heap_setCell_other _ _ _ _ (by show w.heap.size+1≠w.heap.size;omega),heap_setCell_other _ _ _ _ (by show w.heap.size+1≠w.heap.size;omega)]
   exact G79
  have T3:=T2.set F1 (by decide) (by decide) (by decide) 0 (.int .i64 0)
  have F2:=heap_setCell_same _ (w.heap.size+1) 0 _ _ (.int .i64 0) F1
  have T4:=T3.set F2 (by decide) (by decide) (by decide) 1 (.int .i64 0)
  have hb9':=hb7.trans (hb9.mono hb7.size)
  refine bodyPost_ret (v:=.tuple #[.agg #[.slice at9 toks.length ct9,.slice an9 st.nodes.length cn9],.agg #[.int .i64 0,.int .i64 0]]) (by simp [results,Tryz.results32,go_sem,q0,q1,p0,p1]) rfl ?_
  rw [HOF.out]
  exact ⟨(((hb9'.setCell (by simp) _).setCell (by simp) _).setCell (by simp) _).setCell (by simp) _,at9,ct9,an9,cn9,rfl,T4⟩
 ·have hok:okB st=false:=by unfold okB;simp [hf]
  rw [hok] at HOK
  have HOF:Hid (ofSt toks st=.bad st.fE st.fAt):=Lib.hid (by rw [ofSt,if_neg hf])
  clear hok hf hbw7 hrec7 c1 c2 hkl hnl
  go_upto_region 9 with (go_at_call 55;refine HOK.out.mono ?_;rintro e w8 ⟨rfl,rfl⟩)
  go_region
  go_wp2
  refine bodyPost_ret (v:=.tuple #[.agg #[.slice none 0 0,.slice none 0 0],.agg #[.int .i64 st.fE,.int .i64 st.fAt]]) (by simp [results,Tryz.results32,go_sem,q0,q1,p0,p1]) rfl ?_
  rw [HOF.out]
  exact ⟨((((hb7.setCell (by simp) _).setCell (by simp) _).setCell (by simp) _).setCell (by simp) _).drew,rfl⟩
theorem read_any (s:ByteArray)(d:Nat)(w:World)(hd1:1≤d)(hd2:d≤200)(hs:s.size≤1099511627776) :
  Calls Tryz.prog 32 #[.string s,.int .i64 d,.func (.func 44) #[] #[]] w (FormOk (formF s.data.toList d) w):=by
 cases hl:lexAll s.data.toList with
 | error x =>
  have hf:=(lexAll_fault hl).2
  have e:formF s.data.toList d=.bad x.1 x.2:=by rw [formF,hl]
  rw [e]
  exact read_lexbad s d _ w hd1 hd2 hs x.1 x.2 hl (by omega)
 | ok toks =>
  have hL:=lexAll_laid hl
  have hlen:toks.length≤65537:=by
   have h1:=hL.count
   unfold lexAll at hl
   split at hl
   ·cases hl
   ·omega
  obtain ⟨a,ha,hu,hn⟩:=alone_total hL d
  have e:formF s.data.toList d=ofSt toks (nodeM 18 [a.1,(kindM toks 5 a.2).1] (kindM toks 5 a.2).2).2:=by
   rw [formF,hl]
   simp only
   unfold aloneM
   rw [ha,Option.bind_some]
  rw [e]
  refine read_parse s d w hd1 hd2 hs toks hl (by omega) a ha hn fun hf n hm=>?_
  obtain ⟨ce,he,_⟩:=alone_tree hL ha hf
  have g1:=nodeM_grows 18 [a.1,(kindM toks 5 a.2).1] (kindM toks 5 a.2).2
  have g2:=kindM_grows toks 5 a.2
  rw [he] at hm g1
  rw [PT.em_len] at g1
  have:=em_kids _ _ _ n hm
  omega
theorem formula_any (s:ByteArray)(d:Nat)(w:World)(hd1:1≤d)(hd2:d≤200)(hs:s.size≤1099511627776) :
  Calls Tryz.prog 25 #[.string s,.int .i64 d] w (FormOk (formF s.data.toList d) w):=by
 have HR:=Lib.hid (fun W=>read_any s d W hd1 hd2 hs)
 have hal:=(below_new w (.cells #[.slice none 0 0,.slice none 0 0] 25)).alloc (by simp) (.cells #[.int .i64 0,.int .i64 0] 44)
 have e1:=(Lib.alloc_old (w.alloc (.cells #[.slice none 0 0,.slice none 0 0] 25)) (.cells #[.int .i64 0,.int .i64 0] 44) w.heap.size (by simp)).trans (heap_alloc_new w (.cells #[.slice none 0 0,.slice none 0 0] 25))
 have e2:=heap_alloc_new (w.alloc (.cells #[.slice none 0 0,.slice none 0 0] 25)) (.cells #[.int .i64 0,.int .i64 0] 44)
 rw [World.size_alloc] at e2
 have HB:Hid (∀ w9,Below ((w.alloc (.cells #[.slice none 0 0,.slice none 0 0] 25)).alloc (.cells #[.int .i64 0,.int .i64 0] 44)).heap.size ((w.alloc (.cells #[.slice none 0 0,.slice none 0 0] 25)).alloc (.cells #[.int .i64 0,.int .i64 0] 44)) w9→Below w.heap.size w w9∧w9.heap[w.heap.size]?=some (.cells #[.slice none 0 0,.slice none 0 0] 25 (0,0))∧w9.heap[w.heap.size+1]?=some (.cells #[.int .i64 0,.int .i64 0] 44 (0,0))):=Lib.hid fun w9 hb=>⟨hal.trans (hb.mono (by simp;omega)),(hb.block w.heap.size (by simp;omega)).trans e1,(hb.block (w.heap.size+1) (by simp)).trans e2⟩
 clear hal e1 e2
 generalize formF s.data.toList d=r at HR ⊢
 go_enter Tryz.func25,Tryz.ntmps25
 cases r with
 | bad c a =>
  go_wp2_with (go_at_call 32;refine (HR.out _).mono ?_;rintro e w9 ⟨hb9,rfl⟩;obtain ⟨hb,G6,G7⟩:=HB.out w9 hb9;obtain ⟨q0,q1,qz⟩:=tree_cellsz G6;obtain ⟨p0,p1,pz⟩:=fault_cells G7)
  refine bodyPost_ret (v:=.tuple #[.agg #[.slice none 0 0,.slice none 0 0],.agg #[.int .i64 c,.int .i64 a]]) (by simp [results,Tryz.results25,go_sem,q0,q1,p0,p1]) rfl ?_
  exact ⟨(((hb.setCell (by simp) _).setCell (by simp) _).setCell (by simp) _).setCell (by simp) _,rfl⟩
 | good toks nodes =>
  go_wp2_with (go_at_call 32;refine (HR.out _).mono ?_;rintro e w9 ⟨hb9,at9,ct9,an9,cn9,rfl,ht9⟩;obtain ⟨hb,G69,G79⟩:=HB.out w9 hb9;obtain ⟨q0,q1,qz⟩:=tree_cellsz G69;obtain ⟨p0,p1,pz⟩:=fault_cells G79)
  have T1:=ht9.set G69 (by decide) (by decide) (by decide) 0 (.slice at9 toks.length ct9)
  have G1:=heap_setCell_same w9 w.heap.size 0 _ _ (.slice at9 toks.length ct9) G69
  have T2:=T1.set G1 (by decide) (by decide) (by decide) 1 (.slice an9 nodes.length cn9)
  have F1:((w9.setCell ⟨w.heap.size,0,none⟩ (.slice at9 toks.length ct9)).setCell ⟨w.heap.size,1,none⟩ (.slice an9 nodes.length cn9)).heap[w.heap.size+1]?=some (.cells #[.int .i64 0,.int .i64 0] 44 (0,0)):=by
   rw [heap_setCell_other _ _ _ _ (by show w.heap.size+1≠w.heap.size;omega),heap_setCell_other _ _ _ _ (by show w.heap.size+1≠w.heap.size;omega)]
   exact G79
  have T3:=T2.set F1 (by decide) (by decide) (by decide) 0 (.int .i64 0)
  have F2:=heap_setCell_same _ (w.heap.size+1) 0 _ _ (.int .i64 0) F1
  have T4:=T3.set F2 (by decide) (by decide) (by decide) 1 (.int .i64 0)
  refine bodyPost_ret (v:=.tuple #[.agg #[.slice at9 toks.length ct9,.slice an9 nodes.length cn9],.agg #[.int .i64 0,.int .i64 0]]) (by simp [results,Tryz.results25,go_sem,q0,q1,p0,p1]) rfl ?_
  exact ⟨(((hb.setCell (by simp) _).setCell (by simp) _).setCell (by simp) _).setCell (by simp) _,at9,ct9,an9,cn9,rfl,T4⟩
theorem slNil (B:Nat)(w:World)(sz:Nat):Sl B w (.slice none 0 0) sz 0 []:=⟨none,0,rfl,Nat.le_refl _,by simp,fun h=>absurd h (by omega)⟩
theorem treeNil (w:World):TreeAt 0 w (.agg #[.slice none 0 0,.slice none 0 0]) [] []:=⟨_,_,[],rfl,slNil _ _ _,rfl,slNil _ _ _,fun p hp=>by cases hp⟩
theorem check_yes {toks:List Tok}{nodes:List Nd}{D:List UInt8}(G:GoodT toks nodes D)(B:Nat)(tv nv:Value)(w:World)(h:TreeAt B w (.agg #[tv,nv]) toks nodes)(hB:B≤w.heap.size) :
  Calls Tryz.prog 35 #[.agg #[tv,nv],.int .i64 ((nodes.length:Int) - 1)] w fun e w'=>e=.returned (.int .i64 0)∧Below w.heap.size w w':=by
 have hR:=fun W (hW:Below w.heap.size w W)=>right_any B tv nv toks nodes (tokR 0 toks.length) (nodes.length+1) W (h.below (hW.mono hB)) (Nat.le_trans hB hW.size) G.few G.kids (fun _ _ _ _=>G.leaves) (by simp [tokR];have:=G.fewt;omega) (by have:=G.fewt;omega)
 rw [G.right] at hR
 have hp:=G.pos
 have hf:=G.few
 obtain ⟨at_,ct,an,cn,hv⟩:=h.slices
 simp only [Value.agg.injEq,Array.mk.injEq,List.cons.injEq,and_true] at hv
 obtain ⟨rfl,rfl⟩:=hv
 have hI1:((nodes.length:Int) - 1)<(nodes.length:Int):=by omega
 have hI0:0≤((nodes.length:Int) - 1):=by omega
 have HR:=Lib.hid hR
 have hbb:=(Below.refl w.heap.size w).alloc (Nat.le_refl _) (.cells #[.slice at_ toks.length ct,.slice an nodes.length cn] 25)
 have e1:=heap_alloc_new w (.cells #[.slice at_ toks.length ct,.slice an nodes.length cn] 25)
 clear h G hR
 go_enter Tryz.func35,Tryz.ntmps35
 go_upto_region 3 with (go_at_call 62;refine (HR.out _ hbb).mono ?_;rintro e w3 ⟨rfl,hb3⟩)
 have T3:=(hb3.block w.heap.size (by simp)).trans e1
 obtain ⟨c0,c1⟩:=tree_cells T3
 have hb4:=hbb.trans (hb3.mono (by simp))
 clear hb3 e1 T3 HR hbb
 go_wp2
 go_ret
 exact ⟨rfl,hb4⟩
theorem check_no (n:Int)(w:World) :
  Calls Tryz.prog 35 #[.agg #[.slice none 0 0,.slice none 0 0],.int .i64 n] w fun e w'=>e=.returned (.int .i64 10)∧Below w.heap.size w w':=by
 have hT:∀ W:World,TreeAt 0 W (.agg #[.slice none 0 0,.slice none 0 0]) [] []:=treeNil
 have hR:=fun W=>right_any 0 (.slice none 0 0) (.slice none 0 0) [] [] [] 0 W (hT W) (Nat.zero_le _) (by decide) (fun n hn=>by cases hn) (fun kid hk h0 _=>absurd (by
  rw [marksAll,marksF] at hk
  injection hk with hk
  rw [← hk]
  rfl) h0) (by decide) (by decide)
 have e:rightB ([]:List Tok).length [] []=false:=by decide
 rw [e] at hR
 have HR:=Lib.hid hR
 have hbb:=(Below.refl w.heap.size w).alloc (Nat.le_refl _) (.cells #[.slice none 0 0,.slice none 0 0] 25)
 clear hT hR e
 go_enter Tryz.func35,Tryz.ntmps35
 go_wp2_with (go_at_call 62;refine (HR.out _).mono ?_;rintro e w3 ⟨rfl,hb3⟩)
 go_ret
 exact ⟨rfl,hbb.trans (hb3.mono (by simp))⟩
theorem dump_no (n:Int)(w:World) :
  Calls Tryz.prog 12 #[.agg #[.slice none 0 0,.slice none 0 0],.int .i64 n] w fun e w'=>e=.returned (.tuple #[.string ⟨#[]⟩,.int .i64 10])∧Below w.heap.size w w':=by
 have HR:=Lib.hid (fun W=>check_no n W)
 have hbb:=(Below.refl w.heap.size w).alloc (Nat.le_refl _) (.cells #[.slice none 0 0,.slice none 0 0] 25)
 go_enter Tryz.func12,Tryz.ntmps12
 go_wp2_with (go_at_call 35;refine (HR.out _).mono ?_;rintro e w3 ⟨rfl,hb3⟩)
 go_ret2
 exact ⟨rfl,hbb.trans (hb3.mono (by simp))⟩
theorem dump_yes {toks:List Tok}{nodes:List Nd}{D:List UInt8}(G:GoodT toks nodes D)(B:Nat)(tv nv:Value)(w:World)(h:TreeAt B w (.agg #[tv,nv]) toks nodes)(hB:B≤w.heap.size) :
  Calls Tryz.prog 12 #[.agg #[tv,nv],.int .i64 ((nodes.length:Int) - 1)] w fun e w'=>e=.returned (.tuple #[.string ⟨D.toArray⟩,.int .i64 0])∧Below w.heap.size w w':=by
 have HR:=Lib.hid (fun W (hW:Below w.heap.size w W)=>check_yes G B tv nv W (h.below (hW.mono hB)) (Nat.le_trans hB hW.size))
 have hdl:=G.dlen
 have HD:=Lib.hid (fun W (hW:Below w.heap.size w W)=>tdump_any G B W.heap.size W.heap.size tv nv nodes.length ((nodes.length:Int) - 1) D [] (W.alloc (.cells #[.pointer none,.slice none 0 0] 102)) (h.below ((hW.alloc hW.size _).mono hB)) (Nat.le_trans hB hW.size) (Bld.fresh W) (by simp) G.dump (by rw [List.length_nil];omega))
 obtain ⟨at_,ct,an,cn,hv⟩:=h.slices
 simp only [Value.agg.injEq,Array.mk.injEq,List.cons.injEq,and_true] at hv
 obtain ⟨rfl,rfl⟩:=hv
 have hbb:=(Below.refl w.heap.size w).alloc (Nat.le_refl _) (.cells #[.slice at_ toks.length ct,.slice an nodes.length cn] 25)
 have e1:=heap_alloc_new w (.cells #[.slice at_ toks.length ct,.slice an nodes.length cn] 25)
 clear h G
 go_enter Tryz.func12,Tryz.ntmps12
 go_upto_region 4 with (go_at_call 35;refine (HR.out _ hbb).mono ?_;rintro e w3 ⟨rfl,hb3⟩)
 have T3:=(hb3.block w.heap.size (by simp)).trans e1
 have hb4:=hbb.trans (hb3.mono (by simp))
 have HD3:=Lib.hid (HD.out w3 hb4)
 have T4:=(Lib.alloc_old w3 (.cells #[.pointer none,.slice none 0 0] 102) w.heap.size (Array.getElem?_eq_some_iff.1 T3).1).trans T3
 have hb5:=hb4.alloc hb4.size (.cells #[.pointer none,.slice none 0 0] 102)
 obtain ⟨c0,c1⟩:=tree_cells T4
 have hz3:=hb4.size
 clear hb3 e1 T3 T4 HR hbb HD
 go_wp2_with (first|(go_at_call 36;refine HD3.out.mono ?_;rintro e w6 ⟨rfl,hbd6,hl6,ho6⟩;rw [List.nil_append] at hbd6;have hz6:=hl6.size;simp only [World.size_alloc] at hz6)|(go_at_call 37;refine (bstring_any w3.heap.size w3.heap.size D _ hbd6 (by omega)).mono ?_;rintro e w7 ⟨rfl,hbd7,hl7,ho7⟩))
 go_ret2
 exact ⟨rfl,hb5.trans ((hl6.mono hz3).trans (hl7.mono hz3))⟩
theorem show_any (B:Nat)(tv nv:Value)(toks:List Tok)(w:World)(hl:toks.length≤1099511627776)(hn:tokAt toks toks.length≤1099511627776)(h:Rec B w tv 4 tokCells toks)(hB:B≤w.heap.size) :
  Calls Tryz.prog 11 #[.agg #[tv,nv]] w fun e w'=>e=.returned (.string ⟨(wholeF toks).toArray⟩)∧Below w.heap.size w w':=by
 have HW:=Lib.hid (fun W (hW:Below w.heap.size w W)=>whole_any tv toks W hl hn ((h.below (hW.mono hB)).mono (Nat.le_trans hB hW.size)))
 obtain ⟨X,hX,eX⟩:=bytes_of (wholeF toks)
 rw [eX] at HW ⊢
 have hbb:=(Below.refl w.heap.size w).alloc (Nat.le_refl _) (.cells #[tv,nv] 25)
 clear h
 go_enter Tryz.func11,Tryz.ntmps11
 go_wp2_with (go_at_call 34;refine (HW.out _ hbb).mono ?_;rintro e w3 ⟨rfl,hb3⟩)
 go_ret
 exact ⟨rfl,hbb.trans (hb3.mono (by simp))⟩
theorem root_tree (at_:Option Addr)(nt ct:Nat)(an:Option Addr)(n cn:Nat)(w:World)(hn:n≤1099511627776) :
  Calls Tryz.prog 13 #[.agg #[.slice at_ nt ct,.slice an n cn]] w fun e w'=>e=.returned (.int .i64 ((n:Int) - 1))∧Below w.heap.size w w':=root_any _ an n cn w hn
theorem as_yes (B:Nat)(at_:Option Addr)(ct:Nat)(an:Option Addr)(cn:Nat)(S:ByteArray)(toks:List Tok)(nodes:List Nd)(D:List UInt8)(w:World)(h:TreeAt B w (.agg #[.slice at_ toks.length ct,.slice an nodes.length cn]) toks nodes)(hB:B≤w.heap.size)
  (G:GoodT toks nodes D) (hS:S.size≤65536) (hw:wholeF toks=S.data.toList) (hf:formF S.data.toList 200=.good toks nodes) :
  Calls Tryz.prog 28 #[.agg #[.slice at_ toks.length ct,.slice an nodes.length cn],.func (.func 25) #[] #[]] w fun e w'=>e=.returned (.bool true)∧Below w.heap.size w w':=by
 have hft:=G.fewt
 have hfn:=G.few
 obtain ⟨XD,hXD,eX⟩:=bytes_of D
 have HDump:Hid (∀ (B:Nat) (at_:Option Addr) (ct:Nat) (an:Option Addr) (cn:Nat) (W:World),TreeAt B W (.agg #[.slice at_ toks.length ct,.slice an nodes.length cn]) toks nodes→B≤W.heap.size→Calls Tryz.prog 12 #[.agg #[.slice at_ toks.length ct,.slice an nodes.length cn],.int .i64 ((nodes.length:Int) - 1)] W fun e w'=>e=.returned (.tuple #[.string XD,.int .i64 0])∧Below W.heap.size W w') :=
  Lib.hid fun B at_ ct an cn W hT hBW=>(dump_yes G B _ _ W hT hBW).mono fun e w' h=>⟨by rw [h.1,eX],h.2⟩
 have hlen:tokAt toks toks.length≤1099511627776:=by
  rw [← wholeF_len,hw,size_list]
  omega
 have eS:ByteArray.mk (S.data.toList).toArray=S:=by cases S;simp
 have HShow:Hid (∀ W,Below w.heap.size w W→Calls Tryz.prog 11 #[.agg #[.slice at_ toks.length ct,.slice an nodes.length cn]] W fun e w'=>e=.returned (.string S)∧Below W.heap.size W w'):=Lib.hid fun W hW=>by
  obtain ⟨tv',nv',l,e1,e2,_⟩:=h.below (hW.mono hB)
  simp only [Value.agg.injEq,Array.mk.injEq,List.cons.injEq,and_true] at e1
  obtain ⟨rfl,rfl⟩:=e1
  have:=show_any B (.slice at_ toks.length ct) (.slice an nodes.length cn) toks W (by omega) hlen e2 (Nat.le_trans hB hW.size)
  rw [hw,eS] at this
  exact this
 have HForm:=Lib.hid (fun W=>formula_any S 200 W (by omega) (by omega) (by omega))
 rw [hf] at HForm
 have HT:=Lib.hid h
 have hal:=below_new w (.cells #[.slice at_ toks.length ct,.slice an nodes.length cn] 25)
 have e1:=heap_alloc_new w (.cells #[.slice at_ toks.length ct,.slice an nodes.length cn] 25)
 clear h G hf hw hXD eX eS hlen
 go_enter Tryz.func28,Tryz.ntmps28
 go_upto_region 1 with fail
 generalize w.alloc _=w1 at hal e1 ⊢
 obtain ⟨c0,c1⟩:=tree_cells e1
 have hl1:=(Array.getElem?_eq_some_iff.1 e1).1
 go_cut [5,6] (fun a e wx=>a=.string XD∧e=.int .i64 0∧wx.heap[w.heap.size]?=some (.cells #[.slice at_ toks.length ct,.slice an nodes.length cn] 25 (0,0))∧Below w.heap.size w wx)
 case first =>
  go_region_with (first|(go_at_call 13;refine (root_tree at_ toks.length ct an nodes.length cn _ (by omega)).mono ?_;rintro e w5 ⟨rfl,hb5⟩;have d0:=(hb5.cell (p:=⟨w.heap.size,0,none⟩) hl1).trans c0;have d1:=(hb5.cell (p:=⟨w.heap.size,1,none⟩) hl1).trans c1)|(go_at_call 12;refine (HDump.out B at_ ct an cn _ (HT.out.below ((hal.drew.trans (hb5.mono hal.size)).mono hB)) (Nat.le_trans hB (hal.drew.trans (hb5.mono hal.size)).size)).mono ?_;rintro e w6 ⟨rfl,hb6⟩))
  all_goals
   have hb56:=hal.drew.trans (hb5.mono hal.size)
   have T6:=(hb6.block w.heap.size (Nat.lt_of_lt_of_le hl1 hb5.size)).trans ((hb5.block w.heap.size hl1).trans e1)
   go_wp2_with fail
   go_meet
   exact ⟨rfl,rfl,T6,hb56.trans (hb6.mono hb56.size)⟩
 case rest =>
  obtain ⟨rfl,rfl,hT,hbc⟩:=hcut
  clear hal e1 c0 c1 hl1 w1
  obtain ⟨wo,rfl⟩:∃ wo:World,wo=wc:=⟨_,rfl⟩
  obtain ⟨c0,c1⟩:=tree_cells hT
  go_upto_region 3 with (first|(go_at_call 11;refine (HShow.out _ hbc).mono ?_;rintro e w7 ⟨rfl,hb7⟩)|(go_at_call 25;refine (HForm.out _).mono ?_;rintro e w8 ⟨hb8,a8,c8,b8,d8,rfl,ht8⟩))
  have hb78:=(hbc.trans (hb7.mono hbc.size))
  have hb88:=hb78.trans (hb8.mono hb78.size)
  have hT8:=(hb8.block w.heap.size (Nat.lt_of_lt_of_le (Array.getElem?_eq_some_iff.1 hT).1 hb7.size)).trans ((hb7.block w.heap.size (Array.getElem?_eq_some_iff.1 hT).1).trans hT)
  have hlt8:=(Array.getElem?_eq_some_iff.1 hT8).1
  have hal9:=(below_new w8 (.cells #[.slice a8 toks.length c8,.slice b8 nodes.length d8] 25)).alloc (by simp) (.cells #[.int .i64 0,.int .i64 0] 44)
  have hT9:=(hal9.block w.heap.size hlt8).trans hT8
  have hU9:=(Lib.alloc_old (w8.alloc (.cells #[.slice a8 toks.length c8,.slice b8 nodes.length d8] 25)) (.cells #[.int .i64 0,.int .i64 0] 44) w8.heap.size (by simp)).trans (heap_alloc_new w8 (.cells #[.slice a8 toks.length c8,.slice b8 nodes.length d8] 25))
  have hF9:=heap_alloc_new (w8.alloc (.cells #[.slice a8 toks.length c8,.slice b8 nodes.length d8] 25)) (.cells #[.int .i64 0,.int .i64 0] 44)
  rw [World.size_alloc] at hF9
  have hU:=Lib.hid (ht8.at.below hal9)
  have hb9:=hb88.trans (hal9.mono hb88.size)
  have hz9:=hal9.size
  clear hb7 hb8 hT8 hal9 ht8 hb78 hT hbc c0 c1 HShow HForm
  generalize w8.heap.size=ub at hU9 hF9 hU hz9 hlt8 hb88 ⊢
  generalize (w8.alloc _).alloc _=w9 at hT9 hU9 hF9 hU hb9 hz9 ⊢
  obtain ⟨c0,c1⟩:=tree_cells hU9
  have hl9:=(Array.getElem?_eq_some_iff.1 hU9).1
  have hlT:=(Array.getElem?_eq_some_iff.1 hT9).1
  have hlF:=(Array.getElem?_eq_some_iff.1 hF9).1
  go_cut [9,10] (fun a e wx=>a=.string XD∧e=.int .i64 0∧Below w9.heap.size w9 wx)
  case first =>
   go_region_with (first|(go_at_call 13;refine (root_tree a8 toks.length c8 b8 nodes.length d8 _ (by omega)).mono ?_;rintro e w5 ⟨rfl,hb5⟩;have d0:=(hb5.cell (p:=⟨ub,0,none⟩) hl9).trans c0;have d1:=(hb5.cell (p:=⟨ub,1,none⟩) hl9).trans c1)|(go_at_call 12;refine (HDump.out ub a8 c8 b8 d8 _ (hU.out.below (((Below.refl w9.heap.size w9).drew.trans hb5).mono hz9)) (Nat.le_trans hz9 hb5.size)).mono ?_;rintro e w6 ⟨rfl,hb6⟩))
   all_goals
    have hb56:=(Below.refl w9.heap.size w9).drew.trans hb5
    go_wp2_with fail
    go_meet
    exact ⟨rfl,rfl,hb56.trans (hb6.mono hb56.size)⟩
  case rest =>
   obtain ⟨rfl,rfl,hbc⟩:=hcut
   have hTc:=(hbc.block _ hlT).trans hT9
   have hUc:=(hbc.block _ hl9).trans hU9
   have hFc:=(hbc.block _ hlF).trans hF9
   have HU:=Lib.hid (hU.out.below (hbc.mono hz9))
   have hbw:Below w.heap.size w wc:=hb9.trans (hbc.mono hb9.size)
   have HT2:=Lib.hid (HT.out.below (hbw.mono hB))
   clear hT9 hU9 hF9 hU hb9 hz9 hlt8 hb88 c0 c1 hl9 hlT hlF hbc HDump HT
   obtain ⟨wo,rfl⟩:∃ wo:World,wo=wc:=⟨_,rfl⟩
   obtain ⟨c0,c1⟩:=tree_cells hTc
   obtain ⟨u0,u1⟩:=tree_cells hUc
   obtain ⟨f0,f1,_⟩:=fault_cells hFc
   have hlU:=(Array.getElem?_eq_some_iff.1 hUc).1
   have hzo:=hbw.size
   go_wp2
   clear c0 c1 u0 u1 f0 f1
   go_loopw [58] (fun q wr=>∃ k:Nat,k≤toks.length∧q=.int .i64 k∧Below wo.heap.size wo wr) (fun q _=>toks.length - (intOf q).toNat)
   case atStart=>exact ⟨0,Nat.zero_le _,rfl,Below.refl _ _⟩
   case round =>
    obtain ⟨k,hk,rfl,hbl⟩:=hrel
    have hwz:=hbl.size
    by_cases hlt:k<toks.length
    ·obtain ⟨b1,o1,cap1,ev,hb1,t0,t1,t2,t3⟩:=HT2.out.tok hlt
     simp only [Value.slice.injEq] at ev
     obtain ⟨rfl,-,rfl⟩:=ev
     obtain ⟨b2,o2,cap2,ev,hb2,s0,s1,s2,s3⟩:=HU.out.tok hlt
     simp only [Value.slice.injEq] at ev
     obtain ⟨rfl,-,rfl⟩:=ev
     have x0:=(hbl.cell (p:=⟨b1,o1+k * 4,none⟩) (by show b1<_;omega)).trans t0
     have x1:=(hbl.cell (p:=⟨b1,o1+k * 4+1,none⟩) (by show b1<_;omega)).trans t1
     have x2:=(hbl.cell (p:=⟨b1,o1+k * 4+2,none⟩) (by show b1<_;omega)).trans t2
     have x3:=(hbl.cell (p:=⟨b1,o1+k * 4+3,none⟩) (by show b1<_;omega)).trans t3
     generalize toks[k]=tk at x0 x1 x2 x3 s0 s1 s2 s3
     simp only [strV] at x1 x2 s1 s2
     have hal:=below_new wr (.cells #[.int .i64 tk.kind,.string ⟨tk.lead.toArray⟩,.string ⟨tk.text.toArray⟩,.int .i64 tk.place] 83)
     have hba:=hbl.trans (hal.mono hwz)
     have y0:=(hba.cell (p:=⟨b2,o2+k * 4,none⟩) (by show b2<_;omega)).trans s0
     have y1:=(hba.cell (p:=⟨b2,o2+k * 4+1,none⟩) (by show b2<_;omega)).trans s1
     have y2:=(hba.cell (p:=⟨b2,o2+k * 4+2,none⟩) (by show b2<_;omega)).trans s2
     have y3:=(hba.cell (p:=⟨b2,o2+k * 4+3,none⟩) (by show b2<_;omega)).trans s3
     have U2:=(hba.block ub hlU).trans hUc
     have N2:=heap_alloc_new wr (.cells #[.int .i64 tk.kind,.string ⟨tk.lead.toArray⟩,.string ⟨tk.text.toArray⟩,.int .i64 tk.place] 83)
     have hkI:(k:Int)<(toks.length:Int):=by omega
     clear t0 t1 t2 t3 s0 s1 s2 s3 hal
     go_upto_region 9 with fail
     clear x0 x1 x2 x3
     generalize wr.heap.size=nb at N2 ⊢
     generalize wr.alloc _=w2 at hba y0 y1 y2 y3 U2 N2 ⊢
     obtain ⟨d0,d1⟩:=tree_cells U2
     have n0:w2.cell? ⟨nb,0,none⟩=some (.int .i64 tk.kind):=by rw [Lib.cell_of_heap N2];rfl
     have n1:w2.cell? ⟨nb,1,none⟩=some (.string ⟨tk.lead.toArray⟩):=by rw [Lib.cell_of_heap N2];rfl
     have n2:w2.cell? ⟨nb,2,none⟩=some (.string ⟨tk.text.toArray⟩):=by rw [Lib.cell_of_heap N2];rfl
     have n3:w2.cell? ⟨nb,3,none⟩=some (.int .i64 tk.place):=by rw [Lib.cell_of_heap N2];rfl
     clear N2 U2
     go_quiet (fail)
     go_wp2
     go_roundw
     case rel=>exact ⟨k+1,by omega,by go_num,below_drewN hba _⟩
     case measure=>simp [intOf];omega
    ·obtain rfl:k=toks.length:=by omega
     have hkI:decide ((toks.length:Int)<(toks.length:Int))=false:=decide_eq_false (by omega)
     go_wp2
     go_ret
     exact ⟨rfl,hbw.trans (hbl.mono hzo)⟩
end Go.Proofs.YtemkhbmkaalgdaaGreatDoor

namespace Go.Proofs.YtemkhbmkaalgdaaGreatDoor
open Go.RowKit Go
end Go.Proofs.YtemkhbmkaalgdaaGreatDoor

namespace Go.Proofs.YtemkhbmkaalgdaaGreatDoor
open Go.RowKit Go
def FofPost (x:PE)(w:World)(r:Ending)(w':World):Prop :=
 ∃ am wn cm ae ce,r=.returned (.tuple #[.agg #[.int .i64 x.op,.string ⟨x.name.toArray⟩,.string ⟨x.module.toArray⟩,.bool (decide (x.num<0)),.slice am wn cm,.bool x.yes,.slice ae x.kids.length ce,.int .i64 x.at_],.int .i64 0]) ∧
  EAt XA (fun b=>w.heap.size≤b) w' (.slice am wn cm) (.slice ae x.kids.length ce) x∧Below w.heap.size w w'
def EPostZ (x:PE)(w:World)(e:Ending)(w':World):Prop :=
 ∃ am wn cm ae ce,e=.returned (.agg #[.int .i64 x.op,.string ⟨x.name.toArray⟩,.string ⟨x.module.toArray⟩,.bool (decide (x.num<0)),.slice am wn cm,.bool x.yes,.slice ae x.kids.length ce,.int .i64 x.at_]) ∧
  EAt XA (fun b=>w.heap.size≤b) w' (.slice am wn cm) (.slice ae x.kids.length ce) x∧Below w.heap.size w w'
theorem EPostA.s {x:PE}{w w':World}{e:Ending}(h:EPostA x w e w'):EPostZ x w e w':=h
theorem env_ok {S:List UInt8}{toks:List Tok}{nodes:List Nd}{ce:CE}(F:FGood S toks nodes ce)(B:Nat)(tv nv:Value):REnv.ok ⟨B,tv,nv,toks,nodes,true⟩ where
 len:=F.good.fewt
 nums u hu hk W:=by
  have h:=lexAll_nums F.lexed _ (peek_mem (lexAll_laid F.lexed).some u) hk
  obtain ⟨X,hX,eX⟩:=bytes_of (textAt toks u)
  simp only
  rw [eX,← hX]
  have h':numTok X.data.toList:=by rw [hX];exact h
  refine zparse_any X W ?_ ?_ h'.1 (fun q=>by rw [← size_list];exact h'.2.2.2 q)
  ·rw [← size_list];exact List.length_pos_iff.2 h'.2.1
  ·rw [← size_list];exact h'.2.2.1
theorem root_kid {S:List UInt8}{toks:List Tok}{nodes:List Nd}{ce:CE}(F:FGood S toks nodes ce):∃ (r k:Nat) (ks:List Int),nodes.length=r+1∧nodes[r]?=some ⟨18,-1,(k:Int) :: ks⟩∧Rep nodes k 0 ce.pt:=by
 have hr:=Rep.em (pre:=[]) (aloneT ce) 0 0 rfl
 have hnd:nodes.length=(aloneT ce).nd:=by rw [F.nodes_eq,PT.em_len]
 have hp:=(aloneT ce).nd_pos
 rw [List.nil_append,Nat.zero_add,← F.nodes_eq,← hnd] at hr
 obtain ⟨r,hr1⟩:∃ r,nodes.length=r+1:=⟨nodes.length - 1,by omega⟩
 rw [hr1,show (((r+1:Nat):Int) - 1)=(r:Int) by omega,aloneT] at hr
 obtain ⟨ks,h1,h2⟩:=rep_node hr
 obtain ⟨k,ks',rfl,h3,_⟩:=repL_sub h2
 exact ⟨r,k,ks',hr1,h1,h3⟩
theorem expr_cells {w:World}{b:Nat}{c0 c1 c2 c3 c4 c5 c6 c7:Value}(h:w.heap[b]?=some (.cells #[c0,c1,c2,c3,c4,c5,c6,c7] 40 (0,0))) :
  w.cell? ⟨b,0,none⟩=some c0∧w.cell? ⟨b,1,none⟩=some c1∧w.cell? ⟨b,2,none⟩=some c2∧w.cell? ⟨b,3,none⟩=some c3∧w.cell? ⟨b,4,none⟩=some c4∧w.cell? ⟨b,5,none⟩=some c5∧w.cell? ⟨b,6,none⟩=some c6∧w.cell? ⟨b,7,none⟩=some c7∧∀ j,w.frozen? ⟨b,j,none⟩=false:=by
 refine ⟨?_,?_,?_,?_,?_,?_,?_,?_,fun j=>by simp [World.frozen?,h]⟩ <;> (rw [Lib.cell_of_heap h];rfl)
theorem formulaOf_yes (B:Nat)(at_:Option Addr)(ct:Nat)(an:Option Addr)(cn:Nat)(S:ByteArray)(toks:List Tok)(nodes:List Nd)(ce:CE)(w:World)(h:TreeAt B w (.agg #[.slice at_ toks.length ct,.slice an nodes.length cn]) toks nodes)(hB:B≤w.heap.size)(F:FGood S.data.toList toks nodes ce) :
  Calls Tryz.prog 9 #[.agg #[.slice at_ toks.length ct,.slice an nodes.length cn]] w (FofPost (ce.pe toks 0) w):=by
 have hft:=F.good.fewt
 have hfn:=F.good.few
 obtain ⟨r,k,ks,hr1,hn,hrep⟩:=root_kid F
 have HA:=Lib.hid (fun W (hW:Below w.heap.size w W)=>as_yes B at_ ct an cn S toks nodes _ W (h.below (hW.mono hB)) (Nat.le_trans hB hW.size) F.good (by have:=F.small;rw [size_list] at this;exact this) F.whole F.deep)
 have HX:Hid (∀ W,Below w.heap.size w W→Calls Tryz.prog 31 #[.agg #[.slice at_ toks.length ct,.slice an nodes.length cn],.int .i64 k] W (EPostZ (ce.pe toks 0) W)):=Lib.hid (fun W hW=>by
  have hx:=rexpr_reads ⟨B,.slice at_ toks.length ct,.slice an nodes.length cn,toks,nodes,true⟩ (env_ok F B _ _) (SizeOf.sizeOf ce+1) ce 0 (by omega) F.okk (by have:=F.lv;show 0+ce.pt.lv≤toks.length;omega)
  have hy:=hx k W hrep ⟨h.below (hW.mono hB),Nat.le_trans hB hW.size⟩
  exact hy.mono fun _ _ h=>h.a.s)
 have HT:=Lib.hid h
 have HN:=Lib.hid hn
 have HR1:=Lib.hid hr1
 clear hr1
 generalize ce.pe toks 0=x at HX ⊢
 have hal:=(below_new w (.cells #[.slice at_ toks.length ct,.slice an nodes.length cn] 25)).alloc (by simp) (.cells #[.int .i64 0,.string ⟨#[]⟩,.string ⟨#[]⟩,.bool false,.slice none 0 0,.bool false,.slice none 0 0,.int .i64 0] 40)
 have e1:=(Lib.alloc_old (w.alloc (.cells #[.slice at_ toks.length ct,.slice an nodes.length cn] 25)) (.cells #[.int .i64 0,.string ⟨#[]⟩,.string ⟨#[]⟩,.bool false,.slice none 0 0,.bool false,.slice none 0 0,.int .i64 0] 40) w.heap.size (by simp)).trans (heap_alloc_new w (.cells #[.slice at_ toks.length ct,.slice an nodes.length cn] 25))
 have e2:=heap_alloc_new (w.alloc (.cells #[.slice at_ toks.length ct,.slice an nodes.length cn] 25)) (.cells #[.int .i64 0,.string ⟨#[]⟩,.string ⟨#[]⟩,.bool false,.slice none 0 0,.bool false,.slice none 0 0,.int .i64 0] 40)
 rw [World.size_alloc] at e2
 clear h F hrep hn
 go_enter Tryz.func9,Tryz.ntmps9
 go_upto_region 3 with (go_at_call 28;refine (HA.out _ hal).mono ?_;rintro e w3 ⟨rfl,hb3⟩)
 have E1:=(hb3.block w.heap.size (by simp;omega)).trans e1
 have E2:=(hb3.block (w.heap.size+1) (by simp)).trans e2
 have hb4:=hal.trans (hb3.mono (by simp;omega))
 obtain ⟨hi,hni⟩:=List.getElem?_eq_some_iff.1 HN.out
 obtain ⟨b,off,cap,kv,hnv,hbB,x0,x1,x2,hkv⟩:=(HT.out.below (hb4.mono hB)).node hi
 simp only [Value.slice.injEq] at hnv
 obtain ⟨rfl,-,rfl⟩:=hnv
 rw [hni] at hkv
 obtain ⟨ak,ck,rfl,_,hkf⟩:=hkv.form
 simp only at x2 hkf
 obtain ⟨bk,ok,rfl,hbk,hkc⟩:=hkf (by simp)
 have k0:=hkc 0 (by simp)
 simp only [List.getElem_cons_zero,Nat.add_zero] at k0
 obtain ⟨c0,c1⟩:=tree_cells E1
 have hz4:=hb4.size
 have hl1:=(Array.getElem?_eq_some_iff.1 E1).1
 have hl2:=(Array.getElem?_eq_some_iff.1 E2).1
 have hr1:=HR1.out
 have HNI:Hid (((nodes.length:Int) - 1)=(r:Int)):=Lib.hid (by omega)
 have hrI:(r:Int)<(nodes.length:Int):=by omega
 clear hb3 e1 e2 hal HA x0 x1 hkc hkf hkv hni HT HN E1 hr1 HR1
 go_region_with (first|(go_at_call 13;refine (root_tree at_ toks.length ct (some ⟨b,off,none⟩) nodes.length cn _ (by omega)).mono ?_;rintro e w5 ⟨rfl,hb5⟩;rw [HNI.out];have d0:=(hb5.cell (p:=⟨w.heap.size,0,none⟩) hl1).trans c0;have d1:=(hb5.cell (p:=⟨w.heap.size,1,none⟩) hl1).trans c1;have dx:=(hb5.cell (p:=⟨b,off+r * 3+2,none⟩) (by show b<w3.heap.size;omega)).trans x2;have dk:=(hb5.cell (p:=⟨bk,ok,none⟩) (by show bk<w3.heap.size;omega)).trans k0)|(go_at_call 31;refine (HX.out _ (hb4.drew.trans (hb5.mono hz4))).mono ?_;rintro e w6 ⟨am,wn,cm,ae,c6,rfl,hx6,hb6⟩;have E6:=(hb6.block (w.heap.size+1) (Nat.lt_of_lt_of_le hl2 hb5.size)).trans ((hb5.block (w.heap.size+1) hl2).trans E2);obtain ⟨r0,r1,r2,r3,r4,r5,r6,r7,rz⟩:=expr_cells E6;have HX6:=Lib.hid hx6;have HB6:=Lib.hid hb6;have HB5:=Lib.hid hb5;clear hx6 hb6 hb5 E6 d0 d1 dx dk))
 all_goals
  have hb56:=hb4.drew.trans (HB5.out.mono hz4)
  have hb66:=hb56.trans (HB6.out.mono hb56.size)
  have hz5:=hb56.size
  have hl5:w.heap.size+1<w5.heap.size:=Nat.lt_of_lt_of_le hl2 HB5.out.size
  have hx6':EAt XA (fun b=>w.heap.size+1<b) w6 (.slice am wn cm) (.slice ae x.kids.length c6) x:=HX6.out.imp (fun b hb _=>by omega)
  clear HX6 HB6 HB5 hb56 hb4 c0 c1 x2 k0 E2 HX HNI
  go_wp2
  refine bodyPost_ret (v:=.tuple #[.agg #[.int .i64 x.op,.string ⟨x.name.toArray⟩,.string ⟨x.module.toArray⟩,.bool (decide (x.num<0)),.slice am wn cm,.bool x.yes,.slice ae x.kids.length c6,.int .i64 x.at_],.int .i64 0]) (by simp [results,Tryz.results9,go_sem,r0,r1,r2,r3,r4,r5,r6,r7]) rfl ⟨am,wn,cm,ae,c6,rfl,?_,?_⟩
  ·exact (hx6'.frame (((((((Alk.set _ (fun b hb=>by show b≠w.heap.size+1;omega)).trans (Alk.set _ (fun b hb=>by show b≠w.heap.size+1;omega))).trans (Alk.set _ (fun b hb=>by show b≠w.heap.size+1;omega))).trans (Alk.set _ (fun b hb=>by show b≠w.heap.size+1;omega))).trans (Alk.set _ (fun b hb=>by show b≠w.heap.size+1;omega))).trans (Alk.set _ (fun b hb=>by show b≠w.heap.size+1;omega))).trans ((Alk.set _ (fun b hb=>by show b≠w.heap.size+1;omega)).trans (Alk.set _ (fun b hb=>by show b≠w.heap.size+1;omega))))).imp (fun b hb _=>by omega)
  ·exact ((((((((hb66.setCell (by simp) _).setCell (by simp) _).setCell (by simp) _).setCell (by simp) _).setCell (by simp) _).setCell (by simp) _).setCell (by simp) _).setCell (by simp) _)
end Go.Proofs.YtemkhbmkaalgdaaGreatDoor
