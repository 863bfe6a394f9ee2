/- Walks and plain laws: FExprX. -/
import Derived.Test.YtemkhbmkaalgdaaGreatDoorQ24
set_option maxHeartbeats 16000000
set_option maxRecDepth 100000
set_option linter.unusedVariables false
set_option linter.unusedSimpArgs false
namespace Go.Proofs.YtemkhbmkaalgdaaGreatDoor
open Go.RowKit Go
def RFL (B:Nat)(tv nv:Value)(toks:List Tok)(nodes:List Nd)(k:Nat)(t:Tok):Prop:=∀ (W:World),TreeAt B W (.agg #[tv,nv]) toks nodes→B≤W.heap.size→Calls Tryz.prog 38 #[.agg #[tv,nv],.int .i64 k] W fun e w'=>e=.returned (tokVal t)∧Below W.heap.size W w'
def RFM (B:Nat)(tv nv:Value)(toks:List Tok)(nodes:List Nd)(i:Nat)(pes:List PE):Prop:=∀ (op at_:Nat) (W:World),TreeAt B W (.agg #[tv,nv]) toks nodes→B≤W.heap.size→Calls Tryz.prog 95 #[.agg #[tv,nv],.int .i64 i,.int .i64 op,.int .i64 at_] W (EPost XR (.mk op [] [] 0 [] false pes at_) W)
def RFE (B:Nat)(tv nv:Value)(toks:List Tok)(nodes:List Nd)(k:Nat)(x:PE):Prop:=∀ (W:World),TreeAt B W (.agg #[tv,nv]) toks nodes→B≤W.heap.size→Calls Tryz.prog 65 #[.agg #[tv,nv],.int .i64 k] W (EPost XR x W)
inductive FNeed (B:Nat) (tv nv:Value) (toks:List Tok) (nodes:List Nd) (i:Nat) (ks:List Int) (t:Tok):Int→PE→Prop
 | res (nm:Int):FNeed B tv nv toks nodes i ks t 17 (.mk 4 [] [] nm [] false [] t.place)
 | nam (nm:Int):FNeed B tv nv toks nodes i ks t 14 (.mk 3 t.text [] nm [] false [] t.place)
 | num (nm:Int):FNeed B tv nv toks nodes i ks t 15 (.mk 1 [] [] nm t.text false [] t.place)
 | tru (nm:Int):t.text=[116,114,117,101]→FNeed B tv nv toks nodes i ks t 16 (.mk 2 [] [] nm [] true [] t.place)
 | fls (nm:Int):t.text=[102,97,108,115,101]→FNeed B tv nv toks nodes i ks t 16 (.mk 2 [] [] nm [] false [] t.place)
 | group (x:PE) (k1:Nat):ks[1]?=some (k1:Int)→RFE B tv nv toks nodes k1 x→FNeed B tv nv toks nodes i ks t 12 (x)
 | not (pes:List PE):t.text=[110,111,116]→RFM B tv nv toks nodes i pes→FNeed B tv nv toks nodes i ks t 11 (.mk 6 [] [] 0 [] false pes t.place)
 | neg (pes:List PE):t.text=[45]→RFM B tv nv toks nodes i pes→FNeed B tv nv toks nodes i ks t 11 (.mk 5 [] [] 0 [] false pes t.place)
 | iff (pes:List PE):RFM B tv nv toks nodes i pes→FNeed B tv nv toks nodes i ks t 8 (.mk 21 [] [] 0 [] false pes t.place)
 | asrt (pes:List PE):RFM B tv nv toks nodes i pes→FNeed B tv nv toks nodes i ks t 9 (.mk 23 [] [] 0 [] false pes t.place)
 | lett (pes:List PE) (k1:Nat) (tk1:Tok):ks[1]?=some (k1:Int)→RFL B tv nv toks nodes k1 tk1→RFM B tv nv toks nodes i pes→FNeed B tv nv toks nodes i ks t 7 (.mk 22 tk1.text [] 0 [] false pes t.place)
 | call0 (pes:List PE) (k1 kd1:Nat) (ld1:List UInt8) (pl1:Nat):ks[1]?=some (k1:Int)→RFL B tv nv toks nodes k1 ⟨kd1,ld1,[40],pl1⟩→RFM B tv nv toks nodes i pes→FNeed B tv nv toks nodes i ks t 13 (.mk 24 t.text [] 0 [] false pes t.place)
 | call1 (pes:List PE) (k1 kd1:Nat) (ld1:List UInt8) (pl1 k2:Nat) (tk2:Tok):ks[1]?=some (k1:Int)→RFL B tv nv toks nodes k1 ⟨kd1,ld1,[46],pl1⟩→ks[2]?=some (k2:Int)→RFL B tv nv toks nodes k2 tk2→RFM B tv nv toks nodes i pes→FNeed B tv nv toks nodes i ks t 13 (.mk 24 tk2.text t.text 0 [] false pes t.place)
 | bin (pes:List PE) (k1:Nat) (tk1:Tok) (m NN:Nat):ks[1]?=some (k1:Int)→RFL B tv nv toks nodes k1 tk1→m<14→ByteArray.mk tk1.text.toArray=binAt m→7+m=NN→RFM B tv nv toks nodes i pes→FNeed B tv nv toks nodes i ks t 10 (.mk NN [] [] 0 [] false pes tk1.place)
theorem fexpr_all (B:Nat)(tv nv:Value)(toks:List Tok)(nodes:List Nd)(i:Nat)(kd:Int)(ks:List Int)(w:World)(h:TreeAt B w (.agg #[tv,nv]) toks nodes)(hB:B≤w.heap.size)(hn:nodes[i]?=some ⟨kd,-1,ks⟩)
  (k0:Nat) (hk0:ks[0]?=some (k0:Int)) (t:Tok) (hL:RFL B tv nv toks nodes k0 t) (x:PE) (hx:FNeed B tv nv toks nodes i ks t kd x) :
  Calls Tryz.prog 65 #[.agg #[tv,nv],.int .i64 i] w (EPost XR x w):=by
 have HX:=Lib.hid hx
 clear hx
 obtain ⟨hi,hni⟩:=List.getElem?_eq_some_iff.1 hn
 obtain ⟨hk1,hk2⟩:=List.getElem?_eq_some_iff.1 hk0
 have HT:=Lib.hid h
 obtain ⟨a1,c1,_,_,e⟩:=h.slices
 obtain ⟨b,off,cap,kv,rfl,hb,x0,x1,x2,hkv⟩:=h.node hi
 obtain ⟨rfl,-⟩:tv=.slice a1 toks.length c1∧_:=by simpa using e
 rw [hni] at x0 x1 hkv
 simp only at x0 x1 hkv
 obtain ⟨ak,ck,rfl,_,hkf⟩:=hkv.form
 obtain ⟨bk,ok,rfl,hbk,hkc⟩:=hkf (by omega)
 have hz:=hkc 0 hk1
 rw [hk2] at hz
 simp only [Nat.add_zero] at hz
 have HKC:=Lib.hid hkc
 have hL':∀ (W:World),TreeAt B W (.agg #[.slice a1 toks.length c1,.slice (some ⟨b,off,none⟩) nodes.length cap]) toks nodes→B≤W.heap.size→Calls Tryz.prog 38 #[.agg #[.slice a1 toks.length c1,.slice (some ⟨b,off,none⟩) nodes.length cap],.int .i64 k0] W fun e w'=>e=.returned (.agg #[.int .i64 t.kind,.string ⟨t.lead.toArray⟩,.string ⟨t.text.toArray⟩,.int .i64 t.place])∧Below W.heap.size W w':=hL
 have HK:=Lib.hid hL'
 clear e hkv hkf hkc hn hni hL hL' hk0
 have hal2:=((Below.refl w.heap.size w).alloc (Nat.le_refl _) (.cells #[.slice a1 toks.length c1,.slice (some ⟨b,off,none⟩) nodes.length cap] 67)).alloc (by simp) (.cells #[.int .i64 0,.string ⟨#[]⟩,.string ⟨#[]⟩,.string ⟨#[]⟩,.bool false,.slice none 0 0,.int .i64 0] 78)
 have hal3:=hal2.alloc (by simp <;> omega) (.cells #[.int .i64 kd,.int .i64 (-1),.slice (some ⟨bk,ok,none⟩) ks.length ck] 104)
 have X0:=cell_later hal2 x0
 have X1:=cell_later hal2 x1
 have X2:=cell_later hal2 x2
 have Z3:=cell_later hal3 hz
 have g0:=heap_alloc_new w (.cells #[.slice a1 toks.length c1,.slice (some ⟨b,off,none⟩) nodes.length cap] 67)
 have g1:=heap_alloc_new (w.alloc (.cells #[.slice a1 toks.length c1,.slice (some ⟨b,off,none⟩) nodes.length cap] 67)) (.cells #[.int .i64 0,.string ⟨#[]⟩,.string ⟨#[]⟩,.string ⟨#[]⟩,.bool false,.slice none 0 0,.int .i64 0] 78)
 have g2:=heap_alloc_new ((w.alloc (.cells #[.slice a1 toks.length c1,.slice (some ⟨b,off,none⟩) nodes.length cap] 67)).alloc (.cells #[.int .i64 0,.string ⟨#[]⟩,.string ⟨#[]⟩,.string ⟨#[]⟩,.bool false,.slice none 0 0,.int .i64 0] 78)) (.cells #[.int .i64 kd,.int .i64 (-1),.slice (some ⟨bk,ok,none⟩) ks.length ck] 104)
 rw [World.size_alloc] at g1
 rw [World.size_alloc,World.size_alloc] at g2
 have G0:=(Lib.alloc_old ((w.alloc (.cells #[.slice a1 toks.length c1,.slice (some ⟨b,off,none⟩) nodes.length cap] 67)).alloc (.cells #[.int .i64 0,.string ⟨#[]⟩,.string ⟨#[]⟩,.string ⟨#[]⟩,.bool false,.slice none 0 0,.int .i64 0] 78)) (.cells #[.int .i64 kd,.int .i64 (-1),.slice (some ⟨bk,ok,none⟩) ks.length ck] 104) w.heap.size (by simp <;> omega)).trans ((Lib.alloc_old (w.alloc (.cells #[.slice a1 toks.length c1,.slice (some ⟨b,off,none⟩) nodes.length cap] 67)) (.cells #[.int .i64 0,.string ⟨#[]⟩,.string ⟨#[]⟩,.string ⟨#[]⟩,.bool false,.slice none 0 0,.int .i64 0] 78) w.heap.size (by simp)).trans g0)
 have G1:=(Lib.alloc_old ((w.alloc (.cells #[.slice a1 toks.length c1,.slice (some ⟨b,off,none⟩) nodes.length cap] 67)).alloc (.cells #[.int .i64 0,.string ⟨#[]⟩,.string ⟨#[]⟩,.string ⟨#[]⟩,.bool false,.slice none 0 0,.int .i64 0] 78)) (.cells #[.int .i64 kd,.int .i64 (-1),.slice (some ⟨bk,ok,none⟩) ks.length ck] 104) (w.heap.size+1) (by simp)).trans g1
 have hiI:(i:Int)<(nodes.length:Int):=by omega
 have hkl:(0:Int)<(ks.length:Int):=by omega
 have hklN:0<ks.length:=by omega
 have hCT:=HT.out
 have hy0:((((w.alloc (.cells #[.slice a1 toks.length c1,.slice (some ⟨b,off,none⟩) nodes.length cap] 67)).alloc (.cells #[.int .i64 0,.string ⟨#[]⟩,.string ⟨#[]⟩,.string ⟨#[]⟩,.bool false,.slice none 0 0,.int .i64 0] 78)).alloc (.cells #[.int .i64 kd,.int .i64 (-1),.slice (some ⟨bk,ok,none⟩) ks.length ck] 104))).cell? ⟨w.heap.size,0,none⟩=some (.slice a1 toks.length c1):=by rw [Lib.cell_of_heap G0];rfl
 have hy1:((((w.alloc (.cells #[.slice a1 toks.length c1,.slice (some ⟨b,off,none⟩) nodes.length cap] 67)).alloc (.cells #[.int .i64 0,.string ⟨#[]⟩,.string ⟨#[]⟩,.string ⟨#[]⟩,.bool false,.slice none 0 0,.int .i64 0] 78)).alloc (.cells #[.int .i64 kd,.int .i64 (-1),.slice (some ⟨bk,ok,none⟩) ks.length ck] 104))).cell? ⟨w.heap.size,1,none⟩=some (.slice (some ⟨b,off,none⟩) nodes.length cap):=by rw [Lib.cell_of_heap G0];rfl
 have hq1:((w.alloc (.cells #[.slice a1 toks.length c1,.slice (some ⟨b,off,none⟩) nodes.length cap] 67)).alloc (.cells #[.int .i64 0,.string ⟨#[]⟩,.string ⟨#[]⟩,.string ⟨#[]⟩,.bool false,.slice none 0 0,.int .i64 0] 78)).cell? ⟨w.heap.size,1,none⟩=some (.slice (some ⟨b,off,none⟩) nodes.length cap):=by rw [Lib.cell_of_heap ((Lib.alloc_old (w.alloc (.cells #[.slice a1 toks.length c1,.slice (some ⟨b,off,none⟩) nodes.length cap] 67)) (.cells #[.int .i64 0,.string ⟨#[]⟩,.string ⟨#[]⟩,.string ⟨#[]⟩,.bool false,.slice none 0 0,.int .i64 0] 78) w.heap.size (by simp)).trans g0)];rfl
 clear h x0 x1 x2 g0 g1 hal2
 go_enter Tryz.func65,Tryz.ntmps65
 go_upto_region 2 with fail
 generalize ((w.alloc _).alloc _).alloc _=w2 at G0 G1 g2 hal3 Z3 hy0 hy1 ⊢
 have n2:w2.cell? ⟨w.heap.size+1+1,2,none⟩=some (.slice (some ⟨bk,ok,none⟩) ks.length ck):=by rw [Lib.cell_of_heap g2];rfl
 have HK':=Lib.hid (fun W (hb:Below w2.heap.size w2 W)=>(HK.out W (hCT.below ((hal3.trans (hb.mono hal3.size)).mono hB)) (by have:=hal3.size;have:=hb.size;omega)).mono (R':=fun e w'=>e=.returned (.agg #[.int .i64 t.kind,.string ⟨t.lead.toArray⟩,.string ⟨t.text.toArray⟩,.int .i64 t.place])∧Below w2.heap.size w2 w'∧Below W.heap.size W w') fun e w' h=>⟨h.1,hb.trans (h.2.mono hb.size),h.2⟩)
 have hlt2:w.heap.size+1+1<w2.heap.size:=(Array.getElem?_eq_some_iff.1 g2).1
 have HG:=Lib.hid (And.intro G0 (And.intro G1 g2))
 clear G0 G1 g2 X0 X1 X2 hq1 hz hCT
 go_cut [6] (fun p wc=>∃ X:Nat,p=.pointer (some ⟨X,0,none⟩)∧FHead w (.slice a1 toks.length c1) (.slice (some ⟨b,off,none⟩) nodes.length cap) (.int .i64 kd) (.slice (some ⟨bk,ok,none⟩) ks.length ck) t X wc)
 case first =>
  go_region_held3 (fun w'=>w'.cell? ⟨w.heap.size,0,none⟩=some (.slice a1 toks.length c1)∧w'.cell? ⟨w.heap.size,1,none⟩=some (.slice (some ⟨b,off,none⟩) nodes.length cap)∧w'.cell? ⟨w.heap.size+1+1,2,none⟩=some (.slice (some ⟨bk,ok,none⟩) ks.length ck)∧w'.cell? ⟨bk,ok,none⟩=some (.int .i64 k0))
   (first|go_keep|exact p3|exact ⟨(set4_cell w3 w2.heap.size _ _ _ _ (by omega)).trans p3.1,(set4_cell w3 w2.heap.size _ _ _ _ (by omega)).trans p3.2.1,(set4_cell w3 w2.heap.size _ _ _ _ (by omega)).trans p3.2.2.1,(set4_cell w3 w2.heap.size _ _ _ _ (by omega)).trans p3.2.2.2⟩)
   (first|(go_at_call 38;refine (HK'.out _ ?_).mono ?_;(first|exact (Below.refl _ _).drew|exact ((Below.refl _ _).alloc (Nat.le_refl _) _).drew);rintro e w3 ⟨rfl,hq3,hb3⟩;have p3:=And.intro (cell_later hq3 hy0) (And.intro (cell_later hq3 hy1) (And.intro (cell_later hq3 n2) (cell_later hq3 Z3)));try (have hTz:=(hb3.block w2.heap.size (by simp)).trans (heap_alloc_new w2 (.cells #[.int .i64 0,.string ⟨#[]⟩,.string ⟨#[]⟩,.int .i64 0] 105));obtain ⟨tz0,tz1,tz2,tz3,tz4⟩:=ftok0_cells hTz)))
  ·have hb3':Below w.heap.size w w3:=hal3.trans (hq3.mono hal3.size)
   have q0:=(hq3.block w.heap.size (by omega)).trans HG.out.1
   have q1:=(hq3.block (w.heap.size+1) (by omega)).trans HG.out.2.1
   have q2:=(hq3.block (w.heap.size+1+1) (by omega)).trans HG.out.2.2
   have hz3:=hq3.size
   clear hy0 hy1 n2 Z3 p3
   go_wp2_with fail
   go_meet
   exact ⟨w3.heap.size,rfl,heap_alloc_new w3 (.cells (ftokC t) 105),(Lib.alloc_old w3 _ w.heap.size (by omega)).trans q0,(Lib.alloc_old w3 _ (w.heap.size+1) (by omega)).trans q1,(Lib.alloc_old w3 _ (w.heap.size+1+1) (by omega)).trans q2,hb3'.alloc hb3'.size _,by omega⟩
  ·have hb3':Below w.heap.size w w3:=hal3.trans (hq3.mono hal3.size)
   have q0:=(hq3.block w.heap.size (by omega)).trans HG.out.1
   have q1:=(hq3.block (w.heap.size+1) (by omega)).trans HG.out.2.1
   have q2:=(hq3.block (w.heap.size+1+1) (by omega)).trans HG.out.2.2
   obtain ⟨S3,So,_⟩:=store4 hTz (.int .i64 t.kind) (.string ⟨t.lead.toArray⟩) (.string ⟨t.text.toArray⟩) (.int .i64 t.place)
   have hle:w.heap.size≤w2.heap.size:=by omega
   clear hy0 hy1 n2 Z3 p3 tz0 tz1 tz2 tz3 tz4
   go_wp2_with fail
   go_meet
   exact ⟨w2.heap.size,rfl,S3,(So w.heap.size (by omega)).trans q0,(So (w.heap.size+1) (by omega)).trans q1,(So (w.heap.size+1+1) (by omega)).trans q2,(((hb3'.setCell hle _).setCell hle _).setCell hle _).setCell hle _,hlt2⟩
 case rest =>
  obtain ⟨X,rfl,hH⟩:=hcut
  obtain ⟨w7,rfl⟩:∃ w7:World,w7=wc:=⟨_,rfl⟩
  obtain ⟨r0,r1,n0,n2,f2,f3⟩:=hH.cells
  obtain ⟨hl7,hX7⟩:=hH.lt
  have hal7:=hH.2.2.2.2.1
  have hs7:=hal7.size
  have S1:=hH.2.2.1
  have HH:=Lib.hid hH
  have hCT:=Lib.hid (HT.out.below (hal7.mono hB))
  clear HK HK' HG hal3 hy0 hy1 Z3 hH hlt2
  have hx:=HX.out
  clear HX
  cases hx with
  | res nm =>
   obtain ⟨d0,d1,d2,d3,d4,d5,d6⟩:=fCells_all S1
   have dz:=fCells_free S1
   go_wp2
   have hE:EAt XR (fun b=>w.heap.size≤b) (set7 w7 (w.heap.size+1) (.int .i64 4) (.string ⟨#[]⟩) (.string ⟨#[]⟩) (.string ⟨#[]⟩) (.bool false) (.slice none 0 0) (.int .i64 t.place)) .nilIface (.slice none 0 0) (.mk 4 [] [] nm [] false [] t.place):=by
    rw [EAt]
    exact ⟨trivial,[],SlP.nil _ _ _,by rw [EAtL]⟩
   refine bodyPost_ret (v:=.agg #[.int .i64 4,.string ⟨#[]⟩,.string ⟨#[]⟩,.string ⟨#[]⟩,.bool false,.slice none 0 0,.int .i64 t.place]) (by simp [results,Tryz.results65,go_sem,d0,d1,d2,d3,d4,d5,d6]) rfl ?_
   exact ⟨_,_,rfl,hE,set7_below hal7 (by omega) _ _ _ _ _ _ _⟩
  | nam nm =>
   obtain ⟨d0,d1,d2,d3,d4,d5,d6⟩:=fCells_all S1
   have dz:=fCells_free S1
   go_wp2
   have hE:EAt XR (fun b=>w.heap.size≤b) (set7 w7 (w.heap.size+1) (.int .i64 3) (.string ⟨t.text.toArray⟩) (.string ⟨#[]⟩) (.string ⟨#[]⟩) (.bool false) (.slice none 0 0) (.int .i64 t.place)) .nilIface (.slice none 0 0) (.mk 3 t.text [] nm [] false [] t.place):=by
    rw [EAt]
    exact ⟨trivial,[],SlP.nil _ _ _,by rw [EAtL]⟩
   refine bodyPost_ret (v:=.agg #[.int .i64 3,.string ⟨t.text.toArray⟩,.string ⟨#[]⟩,.string ⟨#[]⟩,.bool false,.slice none 0 0,.int .i64 t.place]) (by simp [results,Tryz.results65,go_sem,d0,d1,d2,d3,d4,d5,d6]) rfl ?_
   exact ⟨_,_,rfl,hE,set7_below hal7 (by omega) _ _ _ _ _ _ _⟩
  | num nm =>
   obtain ⟨d0,d1,d2,d3,d4,d5,d6⟩:=fCells_all S1
   have dz:=fCells_free S1
   go_wp2
   have hE:EAt XR (fun b=>w.heap.size≤b) (set7 w7 (w.heap.size+1) (.int .i64 1) (.string ⟨#[]⟩) (.string ⟨#[]⟩) (.string ⟨t.text.toArray⟩) (.bool false) (.slice none 0 0) (.int .i64 t.place)) .nilIface (.slice none 0 0) (.mk 1 [] [] nm t.text false [] t.place):=by
    rw [EAt]
    exact ⟨trivial,[],SlP.nil _ _ _,by rw [EAtL]⟩
   refine bodyPost_ret (v:=.agg #[.int .i64 1,.string ⟨#[]⟩,.string ⟨#[]⟩,.string ⟨t.text.toArray⟩,.bool false,.slice none 0 0,.int .i64 t.place]) (by simp [results,Tryz.results65,go_sem,d0,d1,d2,d3,d4,d5,d6]) rfl ?_
   exact ⟨_,_,rfl,hE,set7_below hal7 (by omega) _ _ _ _ _ _ _⟩
  | tru nm htx =>
   have HTX:=Lib.hid htx
   clear htx
   rw [HTX.out] at f2
   replace f2:w7.cell? ⟨X,2,none⟩=some (.string ⟨#[116,114,117,101]⟩):=f2
   obtain ⟨d0,d1,d2,d3,d4,d5,d6⟩:=fCells_all S1
   have dz:=fCells_free S1
   go_wp2
   have hE:EAt XR (fun b=>w.heap.size≤b) (set7 w7 (w.heap.size+1) (.int .i64 2) (.string ⟨#[]⟩) (.string ⟨#[]⟩) (.string ⟨#[]⟩) (.bool true) (.slice none 0 0) (.int .i64 t.place)) .nilIface (.slice none 0 0) (.mk 2 [] [] nm [] true [] t.place):=by
    rw [EAt]
    exact ⟨trivial,[],SlP.nil _ _ _,by rw [EAtL]⟩
   refine bodyPost_ret (v:=.agg #[.int .i64 2,.string ⟨#[]⟩,.string ⟨#[]⟩,.string ⟨#[]⟩,.bool true,.slice none 0 0,.int .i64 t.place]) (by simp [results,Tryz.results65,go_sem,d0,d1,d2,d3,d4,d5,d6]) rfl ?_
   exact ⟨_,_,rfl,hE,set7_below hal7 (by omega) _ _ _ _ _ _ _⟩
  | fls nm htx =>
   have HTX:=Lib.hid htx
   clear htx
   rw [HTX.out] at f2
   replace f2:w7.cell? ⟨X,2,none⟩=some (.string ⟨#[102,97,108,115,101]⟩):=f2
   obtain ⟨d0,d1,d2,d3,d4,d5,d6⟩:=fCells_all S1
   have dz:=fCells_free S1
   go_wp2
   have hE:EAt XR (fun b=>w.heap.size≤b) (set7 w7 (w.heap.size+1) (.int .i64 2) (.string ⟨#[]⟩) (.string ⟨#[]⟩) (.string ⟨#[]⟩) (.bool false) (.slice none 0 0) (.int .i64 t.place)) .nilIface (.slice none 0 0) (.mk 2 [] [] nm [] false [] t.place):=by
    rw [EAt]
    exact ⟨trivial,[],SlP.nil _ _ _,by rw [EAtL]⟩
   refine bodyPost_ret (v:=.agg #[.int .i64 2,.string ⟨#[]⟩,.string ⟨#[]⟩,.string ⟨#[]⟩,.bool false,.slice none 0 0,.int .i64 t.place]) (by simp [results,Tryz.results65,go_sem,d0,d1,d2,d3,d4,d5,d6]) rfl ?_
   exact ⟨_,_,rfl,hE,set7_below hal7 (by omega) _ _ _ _ _ _ _⟩
  | group _ k1 hq1 hF =>
   have HF:=Lib.hid hF
   obtain ⟨hp1,hp2⟩:=List.getElem?_eq_some_iff.1 hq1
   clear hF hq1
   have hk1c:=HKC.out 1 hp1
   rw [hp2] at hk1c
   have k1c:=cell_later hal7 hk1c
   have hp1I:(1:Int)<(ks.length:Int):=by omega
   clear hp2
   go_wp2
   have HF':=Lib.hid ((HF.out w7.drew (hCT.out.below (Below.refl _ _).drew) (show B≤w7.heap.size by omega)).mono fun _ _ h=>h.r)
   go_still_tail 5,(by kernel_rfl)
   change wpList _ _ _ _ _ w7.drew
   go_wp2_with (go_at_call 65;refine HF'.out.mono ?_)
   rintro e w8 ⟨ae,ce,rfl,hxe,hb8⟩
   have D1:=(hb8.block (w.heap.size+1) (show w.heap.size+1<w7.heap.size by omega)).trans S1
   have hal7d:=hal7.drew
   have hs7d:w7.drew.heap.size=w7.heap.size:=rfl
   clear r0 r1 n0 n2 f2 f3 S1 k1c hk1c
   obtain ⟨d0,d1,d2,d3,d4,d5,d6⟩:=fCells_all D1
   have dz:=fCells_free D1
   go_wp2
   obtain ⟨hE,hb9⟩:=EPostR.store (w0:=w) (b:=w.heap.size+1) hxe hb8 hal7d (by omega) (by omega) (.int .i64 x.op) (.string ⟨x.name.toArray⟩) (.string ⟨x.module.toArray⟩) (.string ⟨x.txt.toArray⟩) (.bool x.yes) (.slice ae x.kids.length ce) (.int .i64 x.at_)
   refine bodyPost_ret (v:=.agg #[.int .i64 x.op,.string ⟨x.name.toArray⟩,.string ⟨x.module.toArray⟩,.string ⟨x.txt.toArray⟩,.bool x.yes,.slice ae x.kids.length ce,.int .i64 x.at_]) (by simp [results,Tryz.results65,go_sem,d0,d1,d2,d3,d4,d5,d6]) rfl ?_
   exact ⟨_,_,rfl,hE,hb9⟩
  | not pes htx hM =>
   have HM:=Lib.hid hM
   clear hM
   have HTX:=Lib.hid htx
   clear htx
   rw [HTX.out] at f2
   replace f2:w7.cell? ⟨X,2,none⟩=some (.string ⟨#[110,111,116]⟩):=f2
   have HM':=Lib.hid ((HM.out 6 t.place w7 hCT.out (by omega)).mono fun _ _ h=>h.rm)
   go_wp2_with (go_at_call 95;refine HM'.out.mono ?_)
   rintro e w8 ⟨ae,ce,rfl,hxe,hb8⟩
   have D1:=(hb8.block (w.heap.size+1) (by omega)).trans S1
   clear r0 r1 n0 n2 f2 f3 S1
   obtain ⟨d0,d1,d2,d3,d4,d5,d6⟩:=fCells_all D1
   have dz:=fCells_free D1
   go_wp2
   obtain ⟨hE,hb9⟩:=EPostR.store (w0:=w) (b:=w.heap.size+1) hxe hb8 hal7 (by omega) (by omega) (.int .i64 6) (.string ⟨#[]⟩) (.string ⟨#[]⟩) (.string ⟨#[]⟩) (.bool false) (.slice ae pes.length ce) (.int .i64 t.place)
   refine bodyPost_ret (v:=.agg #[.int .i64 6,.string ⟨#[]⟩,.string ⟨#[]⟩,.string ⟨#[]⟩,.bool false,.slice ae pes.length ce,.int .i64 t.place]) (by simp [results,Tryz.results65,go_sem,d0,d1,d2,d3,d4,d5,d6]) rfl ?_
   exact ⟨_,_,rfl,hE,hb9⟩
  | neg pes htx hM =>
   have HM:=Lib.hid hM
   clear hM
   have HTX:=Lib.hid htx
   clear htx
   rw [HTX.out] at f2
   replace f2:w7.cell? ⟨X,2,none⟩=some (.string ⟨#[45]⟩):=f2
   have HM':=Lib.hid ((HM.out 5 t.place w7 hCT.out (by omega)).mono fun _ _ h=>h.rm)
   go_wp2_with (go_at_call 95;refine HM'.out.mono ?_)
   rintro e w8 ⟨ae,ce,rfl,hxe,hb8⟩
   have D1:=(hb8.block (w.heap.size+1) (by omega)).trans S1
   clear r0 r1 n0 n2 f2 f3 S1
   obtain ⟨d0,d1,d2,d3,d4,d5,d6⟩:=fCells_all D1
   have dz:=fCells_free D1
   go_wp2
   obtain ⟨hE,hb9⟩:=EPostR.store (w0:=w) (b:=w.heap.size+1) hxe hb8 hal7 (by omega) (by omega) (.int .i64 5) (.string ⟨#[]⟩) (.string ⟨#[]⟩) (.string ⟨#[]⟩) (.bool false) (.slice ae pes.length ce) (.int .i64 t.place)
   refine bodyPost_ret (v:=.agg #[.int .i64 5,.string ⟨#[]⟩,.string ⟨#[]⟩,.string ⟨#[]⟩,.bool false,.slice ae pes.length ce,.int .i64 t.place]) (by simp [results,Tryz.results65,go_sem,d0,d1,d2,d3,d4,d5,d6]) rfl ?_
   exact ⟨_,_,rfl,hE,hb9⟩
  | iff pes hM =>
   have HM:=Lib.hid hM
   clear hM
   have HM':=Lib.hid ((HM.out 21 t.place w7 hCT.out (by omega)).mono fun _ _ h=>h.rm)
   go_wp2_with (go_at_call 95;refine HM'.out.mono ?_)
   rintro e w8 ⟨ae,ce,rfl,hxe,hb8⟩
   have D1:=(hb8.block (w.heap.size+1) (by omega)).trans S1
   clear r0 r1 n0 n2 f2 f3 S1
   obtain ⟨d0,d1,d2,d3,d4,d5,d6⟩:=fCells_all D1
   have dz:=fCells_free D1
   go_wp2
   obtain ⟨hE,hb9⟩:=EPostR.store (w0:=w) (b:=w.heap.size+1) hxe hb8 hal7 (by omega) (by omega) (.int .i64 21) (.string ⟨#[]⟩) (.string ⟨#[]⟩) (.string ⟨#[]⟩) (.bool false) (.slice ae pes.length ce) (.int .i64 t.place)
   refine bodyPost_ret (v:=.agg #[.int .i64 21,.string ⟨#[]⟩,.string ⟨#[]⟩,.string ⟨#[]⟩,.bool false,.slice ae pes.length ce,.int .i64 t.place]) (by simp [results,Tryz.results65,go_sem,d0,d1,d2,d3,d4,d5,d6]) rfl ?_
   exact ⟨_,_,rfl,hE,hb9⟩
  | asrt pes hM =>
   have HM:=Lib.hid hM
   clear hM
   have HM':=Lib.hid ((HM.out 23 t.place w7 hCT.out (by omega)).mono fun _ _ h=>h.rm)
   go_wp2_with (go_at_call 95;refine HM'.out.mono ?_)
   rintro e w8 ⟨ae,ce,rfl,hxe,hb8⟩
   have D1:=(hb8.block (w.heap.size+1) (by omega)).trans S1
   clear r0 r1 n0 n2 f2 f3 S1
   obtain ⟨d0,d1,d2,d3,d4,d5,d6⟩:=fCells_all D1
   have dz:=fCells_free D1
   go_wp2
   obtain ⟨hE,hb9⟩:=EPostR.store (w0:=w) (b:=w.heap.size+1) hxe hb8 hal7 (by omega) (by omega) (.int .i64 23) (.string ⟨#[]⟩) (.string ⟨#[]⟩) (.string ⟨#[]⟩) (.bool false) (.slice ae pes.length ce) (.int .i64 t.place)
   refine bodyPost_ret (v:=.agg #[.int .i64 23,.string ⟨#[]⟩,.string ⟨#[]⟩,.string ⟨#[]⟩,.bool false,.slice ae pes.length ce,.int .i64 t.place]) (by simp [results,Tryz.results65,go_sem,d0,d1,d2,d3,d4,d5,d6]) rfl ?_
   exact ⟨_,_,rfl,hE,hb9⟩
  | lett pes k1 tk1 hq1 hL1 hM =>
   have HM:=Lib.hid hM
   obtain ⟨hp1,hp2⟩:=List.getElem?_eq_some_iff.1 hq1
   clear hM hq1
   have HP2:=Lib.hid hp2
   clear hp2
   have hL1':∀ (W:World),TreeAt B W (.agg #[.slice a1 toks.length c1,.slice (some ⟨b,off,none⟩) nodes.length cap]) toks nodes→B≤W.heap.size→Calls Tryz.prog 38 #[.agg #[.slice a1 toks.length c1,.slice (some ⟨b,off,none⟩) nodes.length cap],.int .i64 k1] W fun e w'=>e=.returned (.agg #[.int .i64 tk1.kind,.string ⟨tk1.lead.toArray⟩,.string ⟨tk1.text.toArray⟩,.int .i64 tk1.place])∧Below W.heap.size W w':=hL1
   have HL1:=Lib.hid hL1'
   clear hL1 hL1'
   have hfl1:=fun W=>Tryz.rtokField2 (.int .i64 tk1.kind) (.string ⟨tk1.lead.toArray⟩) (.string ⟨tk1.text.toArray⟩) (.int .i64 tk1.place) W
   have HM':=Lib.hid ((HM.out 22 t.place w7 hCT.out (by omega)).mono fun _ _ h=>h.rm)
   go_upto_region 6 with (go_at_call 95;refine HM'.out.mono ?_;rintro e w8 ⟨ae,ce,rfl,hxe,hb8⟩)
   have hz8:=hb8.size
   have N9:=heap_alloc_new w8 (.cells (gCells 22 t.place [] [] (.slice ae pes.length ce)) 78)
   have hb9:=hb8.alloc hz8 (.cells (gCells 22 t.place [] [] (.slice ae pes.length ce)) 78)
   have hH9:=HH.out.below hb9
   have hx9:EAt XR (fun b=>w7.heap.size≤b∧b<w8.heap.size) (w8.alloc (.cells (gCells 22 t.place [] [] (.slice ae pes.length ce)) 78)) .nilIface (.slice ae pes.length ce) (.mk 22 [] [] 0 [] false pes t.place):=(hxe.imp (fun b hb hlt=>(⟨hb,hlt⟩:w7.heap.size≤b∧b<w8.heap.size))).frame ⟨by simp,fun b _ hb=>Lib.alloc_old _ _ _ hb⟩
   have hs9:(w8.alloc (.cells (gCells 22 t.place [] [] (.slice ae pes.length ce)) 78)).heap.size=w8.heap.size+1:=by simp
   clear r0 r1 n0 n2 f2 f3 S1 hxe hb8 HM'
   change Code.wp _ _ _ _ (w8.alloc (.cells (gCells 22 t.place [] [] (.slice ae pes.length ce)) 78))
   generalize w8.alloc _=w9 at N9 hb9 hH9 hx9 hs9 ⊢
   have hk1c:=HKC.out 1 hp1
   rw [HP2.out] at hk1c
   have k1c:=cell_later hH9.2.2.2.2.1 hk1c
   have hp1I:(1:Int)<(ks.length:Int):=by omega
   obtain ⟨r0,r1,-,n2,-,-⟩:=hH9.cells
   have HX':=Lib.hid (HL1.out w9.drew (hCT.out.below ((hb9.mono (by omega)).drew)) (show B≤w9.heap.size by omega))
   have HH9:=Lib.hid hH9
   have HN9:=Lib.hid N9
   clear hH9 N9 hk1c
   go_still_tail 5,(by kernel_rfl)
   change wpList _ _ _ _ _ w9.drew
   go_upto_region 7 with (go_at_call 38;refine HX'.out.mono ?_;rintro e w10 ⟨rfl,hb10⟩;have hb10':Below w9.heap.size w9 w10:=(Below.refl w9.heap.size w9).drew.trans hb10;have E9:=(hb10'.block w8.heap.size (by omega)).trans HN9.out;obtain ⟨-,e1,-,-,-,-,-,ez⟩:=gCells_all E9)
   have hH11:=(HH9.out.below hb10').set (a:=⟨w8.heap.size,1,none⟩) (by show w8.heap.size≠X;omega) (by show _<w8.heap.size;omega) (.string ⟨tk1.text.toArray⟩)
   have E11:(w10.setCell ⟨w8.heap.size,1,none⟩ (.string ⟨tk1.text.toArray⟩)).heap[w8.heap.size]?=some (.cells (gCells 22 t.place tk1.text [] (.slice ae pes.length ce)) 78 (0,0)):=heap_setCell_same w10 w8.heap.size 1 _ _ _ E9
   have hx11:=(hx9.frame (Alk.of hb10')).frame (Alk.set (a:=⟨w8.heap.size,1,none⟩) (.string ⟨tk1.text.toArray⟩) fun b hb=>by show b≠w8.heap.size;omega)
   have hs11:w9.heap.size≤(w10.setCell ⟨w8.heap.size,1,none⟩ (.string ⟨tk1.text.toArray⟩)).heap.size:=by rw [World.size_setCell];exact (hb10').size
   generalize w10.setCell _ _=w11 at hH11 E11 hx11 hs11 ⊢
   obtain ⟨b0,b1,b2,b3,b4,b5,b6,bz⟩:=gCells_all E11
   obtain ⟨d0,d1,d2,d3,d4,d5,d6⟩:=fCells_all hH11.2.2.1
   have dz:=fCells_free hH11.2.2.1
   have hal11:=hH11.2.2.2.2.1
   have HX11:=Lib.hid hx11
   clear E11 hH11 hx11
   go_wp2
   have hE:EAt XR (fun b=>w.heap.size≤b) (set7 w11 (w.heap.size+1) (.int .i64 22) (.string ⟨tk1.text.toArray⟩) (.string ⟨[].toArray⟩) (.string ⟨#[]⟩) (.bool false) (.slice ae pes.length ce) (.int .i64 t.place)) .nilIface (.slice ae pes.length ce) (.mk 22 tk1.text [] 0 [] false pes t.place) :=
    ((HX11.out.frame (set7_alk _ _ (w.heap.size+1) _ _ _ _ _ _ _ fun k hk=>by omega)).imp fun b hb _=>by omega).rename
   refine bodyPost_ret (v:=.agg #[.int .i64 22,.string ⟨tk1.text.toArray⟩,.string ⟨[].toArray⟩,.string ⟨#[]⟩,.bool false,.slice ae pes.length ce,.int .i64 t.place]) (by simp [results,Tryz.results65,go_sem,d0,d1,d2,d3,d4,d5,d6]) rfl ?_
   exact ⟨_,_,rfl,hE,set7_below hal11 (by omega) _ _ _ _ _ _ _⟩
  | call0 pes k1 kd1 ld1 pl1 hq1 hL1 hM =>
   have HM:=Lib.hid hM
   clear hM
   have hL1':∀ (W:World),TreeAt B W (.agg #[.slice a1 toks.length c1,.slice (some ⟨b,off,none⟩) nodes.length cap]) toks nodes→B≤W.heap.size→Calls Tryz.prog 38 #[.agg #[.slice a1 toks.length c1,.slice (some ⟨b,off,none⟩) nodes.length cap],.int .i64 k1] W fun e w'=>e=.returned (.agg #[.int .i64 kd1,.string ⟨ld1.toArray⟩,.string ⟨#[40]⟩,.int .i64 pl1])∧Below W.heap.size W w':=hL1
   have HL1:=Lib.hid hL1'
   clear hL1 hL1'
   have hfl1:=fun W=>Tryz.rtokField2 (.int .i64 kd1) (.string ⟨ld1.toArray⟩) (.string ⟨#[40]⟩) (.int .i64 pl1) W
   obtain ⟨hp1,hp1'⟩:=List.getElem?_eq_some_iff.1 hq1
   have HP1:=Lib.hid hp1'
   clear hq1 hp1'
   have HM':=Lib.hid ((HM.out 24 t.place w7 hCT.out (by omega)).mono fun _ _ h=>h.rm)
   go_upto_region 23 with (go_at_call 95;refine HM'.out.mono ?_;rintro e w8 ⟨ae,ce,rfl,hxe,hb8⟩)
   have hz8:=hb8.size
   have N9:=heap_alloc_new w8 (.cells (gCells 24 t.place [] [] (.slice ae pes.length ce)) 78)
   have hb9:=hb8.alloc hz8 (.cells (gCells 24 t.place [] [] (.slice ae pes.length ce)) 78)
   have hH9:=HH.out.below hb9
   have hx9:EAt XR (fun b=>w7.heap.size≤b∧b<w8.heap.size) (w8.alloc (.cells (gCells 24 t.place [] [] (.slice ae pes.length ce)) 78)) .nilIface (.slice ae pes.length ce) (.mk 24 [] [] 0 [] false pes t.place):=(hxe.imp (fun b hb hlt=>(⟨hb,hlt⟩:w7.heap.size≤b∧b<w8.heap.size))).frame ⟨by simp,fun b _ hb=>Lib.alloc_old _ _ _ hb⟩
   have hs9:(w8.alloc (.cells (gCells 24 t.place [] [] (.slice ae pes.length ce)) 78)).heap.size=w8.heap.size+1:=by simp
   clear r0 r1 n0 n2 f2 f3 S1 hxe hb8 HM'
   change Code.wp _ _ _ _ (w8.alloc (.cells (gCells 24 t.place [] [] (.slice ae pes.length ce)) 78))
   generalize w8.alloc _=w9 at N9 hb9 hH9 hx9 hs9 ⊢
   obtain ⟨-,-,-,-,f2,-⟩:=hH9.cells
   obtain ⟨-,e1,-,-,-,-,-,ez⟩:=gCells_all N9
   have HH9:=Lib.hid hH9
   have HN9:=Lib.hid N9
   clear hH9 N9
   go_upto_region 24 with fail
   clear f2 e1 ez
   have hH11:=(HH9.out.below (Below.refl w9.heap.size w9)).set (a:=⟨w8.heap.size,1,none⟩) (by show w8.heap.size≠X;omega) (by show _<w8.heap.size;omega) (.string ⟨t.text.toArray⟩)
   have E11:(w9.setCell ⟨w8.heap.size,1,none⟩ (.string ⟨t.text.toArray⟩)).heap[w8.heap.size]?=some (.cells (gCells 24 t.place t.text [] (.slice ae pes.length ce)) 78 (0,0)):=heap_setCell_same w9 w8.heap.size 1 _ _ _ HN9.out
   have hx11:=(hx9.frame (Alk.of (Below.refl w9.heap.size w9))).frame (Alk.set (a:=⟨w8.heap.size,1,none⟩) (.string ⟨t.text.toArray⟩) fun b hb=>by show b≠w8.heap.size;omega)
   have hs11:w9.heap.size≤(w9.setCell ⟨w8.heap.size,1,none⟩ (.string ⟨t.text.toArray⟩)).heap.size:=by rw [World.size_setCell];exact ((Below.refl w9.heap.size w9)).size
   generalize w9.setCell _ _=w11 at hH11 E11 hx11 hs11 ⊢
   have hk1c:=HKC.out 1 hp1
   rw [HP1.out] at hk1c
   have k1c:=cell_later hH11.2.2.2.2.1 hk1c
   have hp1I:(1:Int)<(ks.length:Int):=by omega
   obtain ⟨r0,r1,-,n2,-,-⟩:=hH11.cells
   have HX1:=Lib.hid (HL1.out w11.drew (HT.out.below ((hH11.2.2.2.2.1.mono hB).drew)) (by have:=hH11.2.2.2.2.1.size;show B≤w11.heap.size;omega))
   have HH11:=Lib.hid hH11
   have HE11:=Lib.hid E11
   clear hH11 E11 hk1c
   go_still_tail 5,(by kernel_rfl)
   change wpList _ _ _ _ _ w11.drew
   go_upto_region 27 with (go_at_call 38;refine HX1.out.mono ?_;rintro e w12 ⟨rfl,hb12⟩;have hb12':Below w11.heap.size w11 w12:=(Below.refl w11.heap.size w11).drew.trans hb12;have E12:=(hb12'.block w8.heap.size (by omega)).trans HE11.out;obtain ⟨-,e1,e2,-,-,-,-,ez⟩:=gCells_all E12)
   have hH12:=HH11.out.below hb12'
   have hx12:=hx11.frame (Alk.of hb12')
   clear r0 r1 n2 k1c e1 e2 ez
   obtain ⟨b0,b1,b2,b3,b4,b5,b6,bz⟩:=gCells_all E12
   obtain ⟨d0,d1,d2,d3,d4,d5,d6⟩:=fCells_all hH12.2.2.1
   have dz:=fCells_free hH12.2.2.1
   have hal11:=hH12.2.2.2.2.1
   have HX11:=Lib.hid hx12
   clear E12 hH12 hx12
   go_wp2
   have hE:EAt XR (fun b=>w.heap.size≤b) (set7 w12 (w.heap.size+1) (.int .i64 24) (.string ⟨t.text.toArray⟩) (.string ⟨[].toArray⟩) (.string ⟨#[]⟩) (.bool false) (.slice ae pes.length ce) (.int .i64 t.place)) .nilIface (.slice ae pes.length ce) (.mk 24 t.text [] 0 [] false pes t.place) :=
    ((HX11.out.frame (set7_alk _ _ (w.heap.size+1) _ _ _ _ _ _ _ fun k hk=>by omega)).imp fun b hb _=>by omega).rename
   refine bodyPost_ret (v:=.agg #[.int .i64 24,.string ⟨t.text.toArray⟩,.string ⟨[].toArray⟩,.string ⟨#[]⟩,.bool false,.slice ae pes.length ce,.int .i64 t.place]) (by simp [results,Tryz.results65,go_sem,d0,d1,d2,d3,d4,d5,d6]) rfl ?_
   exact ⟨_,_,rfl,hE,set7_below hal11 (by omega) _ _ _ _ _ _ _⟩
  | call1 pes k1 kd1 ld1 pl1 k2 tk2 hq1 hL1 hq2 hL2 hM =>
   have HM:=Lib.hid hM
   clear hM
   have hL1':∀ (W:World),TreeAt B W (.agg #[.slice a1 toks.length c1,.slice (some ⟨b,off,none⟩) nodes.length cap]) toks nodes→B≤W.heap.size→Calls Tryz.prog 38 #[.agg #[.slice a1 toks.length c1,.slice (some ⟨b,off,none⟩) nodes.length cap],.int .i64 k1] W fun e w'=>e=.returned (.agg #[.int .i64 kd1,.string ⟨ld1.toArray⟩,.string ⟨#[46]⟩,.int .i64 pl1])∧Below W.heap.size W w':=hL1
   have HL1:=Lib.hid hL1'
   clear hL1 hL1'
   have hfl1:=fun W=>Tryz.rtokField2 (.int .i64 kd1) (.string ⟨ld1.toArray⟩) (.string ⟨#[46]⟩) (.int .i64 pl1) W
   obtain ⟨hp1,hp1'⟩:=List.getElem?_eq_some_iff.1 hq1
   have HP1:=Lib.hid hp1'
   clear hq1 hp1'
   have hL2':∀ (W:World),TreeAt B W (.agg #[.slice a1 toks.length c1,.slice (some ⟨b,off,none⟩) nodes.length cap]) toks nodes→B≤W.heap.size→Calls Tryz.prog 38 #[.agg #[.slice a1 toks.length c1,.slice (some ⟨b,off,none⟩) nodes.length cap],.int .i64 k2] W fun e w'=>e=.returned (.agg #[.int .i64 tk2.kind,.string ⟨tk2.lead.toArray⟩,.string ⟨tk2.text.toArray⟩,.int .i64 tk2.place])∧Below W.heap.size W w':=hL2
   have HL2:=Lib.hid hL2'
   clear hL2 hL2'
   have hfl2:=fun W=>Tryz.rtokField2 (.int .i64 tk2.kind) (.string ⟨tk2.lead.toArray⟩) (.string ⟨tk2.text.toArray⟩) (.int .i64 tk2.place) W
   obtain ⟨hp2,hp2'⟩:=List.getElem?_eq_some_iff.1 hq2
   have HP2:=Lib.hid hp2'
   clear hq2 hp2'
   have HM':=Lib.hid ((HM.out 24 t.place w7 hCT.out (by omega)).mono fun _ _ h=>h.rm)
   go_upto_region 23 with (go_at_call 95;refine HM'.out.mono ?_;rintro e w8 ⟨ae,ce,rfl,hxe,hb8⟩)
   have hz8:=hb8.size
   have N9:=heap_alloc_new w8 (.cells (gCells 24 t.place [] [] (.slice ae pes.length ce)) 78)
   have hb9:=hb8.alloc hz8 (.cells (gCells 24 t.place [] [] (.slice ae pes.length ce)) 78)
   have hH9:=HH.out.below hb9
   have hx9:EAt XR (fun b=>w7.heap.size≤b∧b<w8.heap.size) (w8.alloc (.cells (gCells 24 t.place [] [] (.slice ae pes.length ce)) 78)) .nilIface (.slice ae pes.length ce) (.mk 24 [] [] 0 [] false pes t.place):=(hxe.imp (fun b hb hlt=>(⟨hb,hlt⟩:w7.heap.size≤b∧b<w8.heap.size))).frame ⟨by simp,fun b _ hb=>Lib.alloc_old _ _ _ hb⟩
   have hs9:(w8.alloc (.cells (gCells 24 t.place [] [] (.slice ae pes.length ce)) 78)).heap.size=w8.heap.size+1:=by simp
   clear r0 r1 n0 n2 f2 f3 S1 hxe hb8 HM'
   change Code.wp _ _ _ _ (w8.alloc (.cells (gCells 24 t.place [] [] (.slice ae pes.length ce)) 78))
   generalize w8.alloc _=w9 at N9 hb9 hH9 hx9 hs9 ⊢
   obtain ⟨-,-,-,-,f2,-⟩:=hH9.cells
   obtain ⟨-,e1,-,-,-,-,-,ez⟩:=gCells_all N9
   have HH9:=Lib.hid hH9
   have HN9:=Lib.hid N9
   clear hH9 N9
   go_upto_region 24 with fail
   clear f2 e1 ez
   have hH11:=(HH9.out.below (Below.refl w9.heap.size w9)).set (a:=⟨w8.heap.size,1,none⟩) (by show w8.heap.size≠X;omega) (by show _<w8.heap.size;omega) (.string ⟨t.text.toArray⟩)
   have E11:(w9.setCell ⟨w8.heap.size,1,none⟩ (.string ⟨t.text.toArray⟩)).heap[w8.heap.size]?=some (.cells (gCells 24 t.place t.text [] (.slice ae pes.length ce)) 78 (0,0)):=heap_setCell_same w9 w8.heap.size 1 _ _ _ HN9.out
   have hx11:=(hx9.frame (Alk.of (Below.refl w9.heap.size w9))).frame (Alk.set (a:=⟨w8.heap.size,1,none⟩) (.string ⟨t.text.toArray⟩) fun b hb=>by show b≠w8.heap.size;omega)
   have hs11:w9.heap.size≤(w9.setCell ⟨w8.heap.size,1,none⟩ (.string ⟨t.text.toArray⟩)).heap.size:=by rw [World.size_setCell];exact ((Below.refl w9.heap.size w9)).size
   generalize w9.setCell _ _=w11 at hH11 E11 hx11 hs11 ⊢
   have hk1c:=HKC.out 1 hp1
   rw [HP1.out] at hk1c
   have k1c:=cell_later hH11.2.2.2.2.1 hk1c
   have hp1I:(1:Int)<(ks.length:Int):=by omega
   obtain ⟨r0,r1,-,n2,-,-⟩:=hH11.cells
   have HX1:=Lib.hid (HL1.out w11.drew (HT.out.below ((hH11.2.2.2.2.1.mono hB).drew)) (by have:=hH11.2.2.2.2.1.size;show B≤w11.heap.size;omega))
   have HH11:=Lib.hid hH11
   have HE11:=Lib.hid E11
   clear hH11 E11 hk1c
   go_still_tail 5,(by kernel_rfl)
   change wpList _ _ _ _ _ w11.drew
   go_upto_region 25 with (go_at_call 38;refine HX1.out.mono ?_;rintro e w12 ⟨rfl,hb12⟩;have hb12':Below w11.heap.size w11 w12:=(Below.refl w11.heap.size w11).drew.trans hb12;have E12:=(hb12'.block w8.heap.size (by omega)).trans HE11.out;obtain ⟨-,e1,e2,-,-,-,-,ez⟩:=gCells_all E12)
   have hz12:=hb12'.size
   have hH12:=HH11.out.below hb12'
   have hx12:=hx11.frame (Alk.of hb12')
   clear r0 r1 n2 k1c e1
   obtain ⟨-,-,-,-,f2,-⟩:=hH12.cells
   have HH12:=Lib.hid hH12
   have HE12:=Lib.hid E12
   clear hH12 E12
   go_upto_region 26 with fail
   clear f2 e2 ez
   have hH13:=(HH12.out.below (Below.refl w12.heap.size w12)).set (a:=⟨w8.heap.size,2,none⟩) (by show w8.heap.size≠X;omega) (by show _<w8.heap.size;omega) (.string ⟨t.text.toArray⟩)
   have E13:(w12.setCell ⟨w8.heap.size,2,none⟩ (.string ⟨t.text.toArray⟩)).heap[w8.heap.size]?=some (.cells (gCells 24 t.place t.text t.text (.slice ae pes.length ce)) 78 (0,0)):=heap_setCell_same w12 w8.heap.size 2 _ _ _ HE12.out
   have hx13:=(hx12.frame (Alk.of (Below.refl w12.heap.size w12))).frame (Alk.set (a:=⟨w8.heap.size,2,none⟩) (.string ⟨t.text.toArray⟩) fun b hb=>by show b≠w8.heap.size;omega)
   have hs13:w12.heap.size≤(w12.setCell ⟨w8.heap.size,2,none⟩ (.string ⟨t.text.toArray⟩)).heap.size:=by rw [World.size_setCell];exact ((Below.refl w12.heap.size w12)).size
   generalize w12.setCell _ _=w13 at hH13 E13 hx13 hs13 ⊢
   have hk2c:=HKC.out 2 hp2
   rw [HP2.out] at hk2c
   have k2c:=cell_later hH13.2.2.2.2.1 hk2c
   have hp2I:(2:Int)<(ks.length:Int):=by omega
   obtain ⟨r0,r1,-,n2,-,-⟩:=hH13.cells
   have HX2:=Lib.hid (HL2.out w13.drew (HT.out.below ((hH13.2.2.2.2.1.mono hB).drew)) (by have:=hH13.2.2.2.2.1.size;show B≤w13.heap.size;omega))
   have HH13:=Lib.hid hH13
   have HE13:=Lib.hid E13
   clear hH13 E13 hk2c
   go_still_tail 5,(by kernel_rfl)
   change wpList _ _ _ _ _ w13.drew
   go_upto_region 27 with (go_at_call 38;refine HX2.out.mono ?_;rintro e w14 ⟨rfl,hb14⟩;have hb14':Below w13.heap.size w13 w14:=(Below.refl w13.heap.size w13).drew.trans hb14;have E14:=(hb14'.block w8.heap.size (by omega)).trans HE13.out;obtain ⟨-,e1,e2,-,-,-,-,ez⟩:=gCells_all E14)
   have hz14:=hb14'.size
   clear r0 r1 n2 k2c e1 e2 ez
   have hH15:=(HH13.out.below hb14').set (a:=⟨w8.heap.size,1,none⟩) (by show w8.heap.size≠X;omega) (by show _<w8.heap.size;omega) (.string ⟨tk2.text.toArray⟩)
   have E15:(w14.setCell ⟨w8.heap.size,1,none⟩ (.string ⟨tk2.text.toArray⟩)).heap[w8.heap.size]?=some (.cells (gCells 24 t.place tk2.text t.text (.slice ae pes.length ce)) 78 (0,0)):=heap_setCell_same w14 w8.heap.size 1 _ _ _ E14
   have hx15:=(hx13.frame (Alk.of hb14')).frame (Alk.set (a:=⟨w8.heap.size,1,none⟩) (.string ⟨tk2.text.toArray⟩) fun b hb=>by show b≠w8.heap.size;omega)
   have hs15:w13.heap.size≤(w14.setCell ⟨w8.heap.size,1,none⟩ (.string ⟨tk2.text.toArray⟩)).heap.size:=by rw [World.size_setCell];exact (hb14').size
   generalize w14.setCell _ _=w15 at hH15 E15 hx15 hs15 ⊢
   obtain ⟨b0,b1,b2,b3,b4,b5,b6,bz⟩:=gCells_all E15
   obtain ⟨d0,d1,d2,d3,d4,d5,d6⟩:=fCells_all hH15.2.2.1
   have dz:=fCells_free hH15.2.2.1
   have hal11:=hH15.2.2.2.2.1
   have HX11:=Lib.hid hx15
   clear E15 hH15 hx15
   go_wp2
   have hE:EAt XR (fun b=>w.heap.size≤b) (set7 w15 (w.heap.size+1) (.int .i64 24) (.string ⟨tk2.text.toArray⟩) (.string ⟨t.text.toArray⟩) (.string ⟨#[]⟩) (.bool false) (.slice ae pes.length ce) (.int .i64 t.place)) .nilIface (.slice ae pes.length ce) (.mk 24 tk2.text t.text 0 [] false pes t.place) :=
    ((HX11.out.frame (set7_alk _ _ (w.heap.size+1) _ _ _ _ _ _ _ fun k hk=>by omega)).imp fun b hb _=>by omega).rename
   refine bodyPost_ret (v:=.agg #[.int .i64 24,.string ⟨tk2.text.toArray⟩,.string ⟨t.text.toArray⟩,.string ⟨#[]⟩,.bool false,.slice ae pes.length ce,.int .i64 t.place]) (by simp [results,Tryz.results65,go_sem,d0,d1,d2,d3,d4,d5,d6]) rfl ?_
   exact ⟨_,_,rfl,hE,set7_below hal11 (by omega) _ _ _ _ _ _ _⟩
  | bin pes k1 tk1 m NN hq1 hL1 hm14 hmt hNN hM =>
   have HM:=Lib.hid hM
   obtain ⟨hp1,hp1'⟩:=List.getElem?_eq_some_iff.1 hq1
   have HP1:=Lib.hid hp1'
   have hL1':∀ (W:World),TreeAt B W (.agg #[.slice a1 toks.length c1,.slice (some ⟨b,off,none⟩) nodes.length cap]) toks nodes→B≤W.heap.size→Calls Tryz.prog 38 #[.agg #[.slice a1 toks.length c1,.slice (some ⟨b,off,none⟩) nodes.length cap],.int .i64 k1] W fun e w'=>e=.returned (.agg #[.int .i64 tk1.kind,.string ⟨tk1.lead.toArray⟩,.string ⟨tk1.text.toArray⟩,.int .i64 tk1.place])∧Below W.heap.size W w':=hL1
   rw [hmt] at hL1'
   have hop:=fun W=>fop_any m hm14 W
   rw [hNN] at hop
   have HOP:=Lib.hid hop
   have HL1:=Lib.hid hL1'
   clear hM hq1 hp1' hL1 hL1' hmt hNN hop hm14
   have hk1c:=HKC.out 1 hp1
   rw [HP1.out] at hk1c
   have k1c:=cell_later hal7 hk1c
   have hp1I:(1:Int)<(ks.length:Int):=by omega
   clear hk1c
   have HK':=Lib.hid (fun W (hb:Below w7.heap.size w7 W)=>(HL1.out W (hCT.out.below (hb.mono (by omega))) (by have:=hb.size;omega)).mono (R':=fun e w'=>e=.returned (.agg #[.int .i64 tk1.kind,.string ⟨tk1.lead.toArray⟩,.string (binAt m),.int .i64 tk1.place])∧Below w7.heap.size w7 w'∧Below W.heap.size W w') fun e w' h=>⟨h.1,hb.trans (h.2.mono hb.size),h.2⟩)
   go_upto_region 13 with fail
   go_cut [8] (fun p wc=>∃ Y:Nat,p=.pointer (some ⟨Y,0,none⟩)∧wc.heap[Y]?=some (.cells #[.int .i64 tk1.kind,.string ⟨tk1.lead.toArray⟩,.string (binAt m),.int .i64 tk1.place] 105 (0,0))∧FHead w (.slice a1 toks.length c1) (.slice (some ⟨b,off,none⟩) nodes.length cap) (.int .i64 10) (.slice (some ⟨bk,ok,none⟩) ks.length ck) t X wc)
   case first =>
    go_region_held3 (fun w'=>w'.cell? ⟨w.heap.size,0,none⟩=some (.slice a1 toks.length c1)∧w'.cell? ⟨w.heap.size,1,none⟩=some (.slice (some ⟨b,off,none⟩) nodes.length cap)∧w'.cell? ⟨w.heap.size+1+1,2,none⟩=some (.slice (some ⟨bk,ok,none⟩) ks.length ck)∧w'.cell? ⟨bk,ok+1,none⟩=some (.int .i64 k1))
     (first|go_keep|exact p3|exact ⟨(set4_cell w3 w7.heap.size _ _ _ _ (by omega)).trans p3.1,(set4_cell w3 w7.heap.size _ _ _ _ (by omega)).trans p3.2.1,(set4_cell w3 w7.heap.size _ _ _ _ (by omega)).trans p3.2.2.1,(set4_cell w3 w7.heap.size _ _ _ _ (by omega)).trans p3.2.2.2⟩)
     (first|(go_at_call 38;refine (HK'.out _ ?_).mono ?_;(first|exact (Below.refl _ _).drew|exact ((Below.refl _ _).alloc (Nat.le_refl _) _).drew);rintro e w3 ⟨rfl,hq3,hb3⟩;have p3:=And.intro (cell_later hq3 r0) (And.intro (cell_later hq3 r1) (And.intro (cell_later hq3 n2) (cell_later hq3 k1c)));try (have hTz:=(hb3.block w7.heap.size (by simp)).trans (heap_alloc_new w7 (.cells #[.int .i64 0,.string ⟨#[]⟩,.string ⟨#[]⟩,.int .i64 0] 105));obtain ⟨tz0,tz1,tz2,tz3,tz4⟩:=ftok0_cells hTz)))
    ·have hH3:=HH.out.below hq3
     have hz3:=hq3.size
     clear r0 r1 n0 n2 f2 f3 k1c p3
     go_wp2_with fail
     go_meet
     exact ⟨w3.heap.size,rfl,heap_alloc_new w3 (.cells #[.int .i64 tk1.kind,.string ⟨tk1.lead.toArray⟩,.string (binAt m),.int .i64 tk1.place] 105),hH3.below (below_new w3 _)⟩
    ·have hH3:=HH.out.below hq3
     obtain ⟨S3,So,_⟩:=store4 hTz (.int .i64 tk1.kind) (.string ⟨tk1.lead.toArray⟩) (.string (binAt m)) (.int .i64 tk1.place)
     have hH3s:=(((hH3.set (a:=⟨w7.heap.size,0,none⟩) (by show w7.heap.size≠X;omega) hl7 (.int .i64 tk1.kind)).set (a:=⟨w7.heap.size,1,none⟩) (by show w7.heap.size≠X;omega) hl7 (.string ⟨tk1.lead.toArray⟩)).set (a:=⟨w7.heap.size,2,none⟩) (by show w7.heap.size≠X;omega) hl7 (.string (binAt m))).set (a:=⟨w7.heap.size,3,none⟩) (by show w7.heap.size≠X;omega) hl7 (.int .i64 tk1.place)
     clear r0 r1 n0 n2 f2 f3 k1c p3 tz0 tz1 tz2 tz3 tz4
     go_wp2_with fail
     go_meet
     exact ⟨w7.heap.size,rfl,S3,hH3s⟩
   case rest =>
    obtain ⟨Y,rfl,hY,hH9⟩:=hcut
    obtain ⟨w9,rfl⟩:∃ w9:World,w9=wc:=⟨_,rfl⟩
    clear r0 r1 n0 n2 f2 f3 k1c S1 HK'
    obtain ⟨r0,r1,-,-,-,-⟩:=hH9.cells
    have y2:w9.cell? ⟨Y,2,none⟩=some (.string (binAt m)):=by rw [Lib.cell_of_heap hY];rfl
    have y3:w9.cell? ⟨Y,3,none⟩=some (.int .i64 tk1.place):=by rw [Lib.cell_of_heap hY];rfl
    have hal9:=hH9.2.2.2.2.1
    have hs9:=hal9.size
    have hl9:=hH9.lt.1
    have S9:=hH9.2.2.1
    have hne0:w.heap.size≠w.heap.size+1:=by omega
    have hYne:Y≠w.heap.size+1:=fun q=>by rw [q,S9] at hY;simp at hY
    have HM':=Lib.hid (fun W (hb:Below w9.heap.size w9 W)=>(HM.out NN tk1.place W (HT.out.below ((hal9.trans (hb.mono hs9)).mono hB)) (by have:=hb.size;omega)).mono fun _ _ h=>h.rm)
    go_upto_region 14 with fail
    go_region_held3 (fun w'=>w'.cell? ⟨w.heap.size,0,none⟩=some (.slice a1 toks.length c1)∧w'.cell? ⟨w.heap.size,1,none⟩=some (.slice (some ⟨b,off,none⟩) nodes.length cap)∧w'.cell? ⟨Y,2,none⟩=some (.string (binAt m))∧w'.cell? ⟨Y,3,none⟩=some (.int .i64 tk1.place))
     (first|(with_reducible exact p3)|((try dsimp only);exact And.intro ((set7_cell w11 (w.heap.size+1) _ _ _ _ _ _ _ hne0).trans p3.1) (And.intro ((set7_cell w11 (w.heap.size+1) _ _ _ _ _ _ _ hne0).trans p3.2.1) (And.intro ((set7_cell w11 (w.heap.size+1) _ _ _ _ _ _ _ hYne).trans p3.2.2.1) ((set7_cell w11 (w.heap.size+1) _ _ _ _ _ _ _ hYne).trans p3.2.2.2))))|((try dsimp only);(refine And.intro ?_ (And.intro ?_ (And.intro ?_ ?_))) <;> (go_keep;done)))
     (first|(go_at_call 96;refine (HOP.out _).mono ?_;rintro e w10 ⟨rfl,hb10⟩;have hb10':Below w9.heap.size w9 w10:=(Below.refl w9.heap.size w9).drew.trans hb10;have p3:=And.intro (cell_later hb10' r0) (And.intro (cell_later hb10' r1) (And.intro (cell_later hb10' y2) (cell_later hb10' y3))))|(go_at_call 95;refine (HM'.out _ hb10').mono ?_;rintro e w11 ⟨ae,ce,rfl,hxe,hb11⟩;have D1:=(hb11.block (w.heap.size+1) (by have:=hb10'.size;omega)).trans ((hb10'.block (w.heap.size+1) (by omega)).trans S9);obtain ⟨d0,d1,d2,d3,d4,d5,d6⟩:=fCells_all D1;have dz:=fCells_free D1;have hb11':=hb10'.trans (hb11.mono hb10'.size);have p3:=And.intro (cell_later hb11' r0) (And.intro (cell_later hb11' r1) (And.intro (cell_later hb11' y2) (cell_later hb11' y3)))))
    have hal10:=hal9.trans (hb10'.mono hs9)
    have hz10:=hb10'.size
    clear r0 r1 y2 y3 p3 D1 hb11' HM' HM HOP
    go_wp2
    obtain ⟨hE,hb12⟩:=EPostR.store (w0:=w) (b:=w.heap.size+1) hxe hb11 hal10 (by omega) (by omega) (.int .i64 NN) (.string ⟨#[]⟩) (.string ⟨#[]⟩) (.string ⟨#[]⟩) (.bool false) (.slice ae pes.length ce) (.int .i64 tk1.place)
    refine bodyPost_ret (v:=.agg #[.int .i64 NN,.string ⟨#[]⟩,.string ⟨#[]⟩,.string ⟨#[]⟩,.bool false,.slice ae pes.length ce,.int .i64 tk1.place]) (by simp [results,Tryz.results65,go_sem,d0,d1,d2,d3,d4,d5,d6]) rfl ?_
    exact ⟨_,_,rfl,hE,hb12⟩
end Go.Proofs.YtemkhbmkaalgdaaGreatDoor
