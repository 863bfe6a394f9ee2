/- Walks and plain laws: MExprW, BothMem. -/
import Derived.Test.YtdednahplodojaaGreatDoorD20
set_option maxHeartbeats 16000000
set_option maxRecDepth 100000
set_option linter.unusedVariables false
set_option linter.unusedSimpArgs false
namespace Go.Proofs.YtdednahplodojaaGreatDoor
open Go.RowKit Go
theorem Tryz.infoREm:(Tryz.prog.info? 55).map (fun i=>(i.zero,i.size,i.bytes))=some (some (.agg #[.int .i64 0,.string ⟨#[]⟩,.string ⟨#[]⟩,.string ⟨#[]⟩,.bool false,.slice none 0 0,.int .i64 0]),7,96):=by kernel_rfl
theorem Tryz.entersMade:∀ args w,(callFunc 44 args).run Tryz.prog w=.ok (.enter 44 args) w:=Go.Proofs.enters_of Tryz.func44 (by kernel_rfl) rfl
theorem rowK_zat {S:ShapeZ}{P:Nat→Prop}{w:World}{kv:Value}{zs:List PZ}(h:RowK (ZK S) P w kv zs):∃ l,SlP P w kv S.sz zs.length (rowsZ S zs l)∧ZAtL S P w l zs:=by
 obtain ⟨l,rfl,h2,h3⟩:=h
 have e1:∀ l:List (PZ × (Value × Value)),(ZK S).flat l=rowsZ S (l.map Prod.fst) (l.map Prod.snd):=by
  intro l
  induction l with
  | nil=>rfl
  | cons p l ih =>
   rw [List.map_cons,List.map_cons,rowsZ,← ih]
   rfl
 have e2:∀ l:List (PZ × (Value × Value)),(∀ p∈l,(ZK S).inn P w p.1 p.2)→ZAtL S P w (l.map Prod.snd) (l.map Prod.fst):=by
  intro l
  induction l with
  | nil=>intro _;rw [List.map_nil,List.map_nil,ZAtL]
  | cons p l ih =>
   intro h
   rw [List.map_cons,List.map_cons,ZAtL]
   exact ⟨p.2,l.map Prod.snd,rfl,h p List.mem_cons_self,ih fun q hq=>h q (List.mem_cons_of_mem _ hq)⟩
 exact ⟨l.map Prod.snd,by rw [← e1];exact h2,e2 l h3⟩
theorem boxY_free {w:World}{b:Nat}{op:Int}{NM MD TX:ByteArray}{ys:Bool}{kv:Value}{a_:Int}(h:w.heap[b]?=some (.cells (boxY op NM MD TX ys kv a_) 55 (0,0)))(j:Nat):w.frozen? ⟨b,j,none⟩=false:=by simp [World.frozen?,h]
def put7 (w:World)(b:Nat)(v0 v1 v2 v3 v4 v5 v6:Value):World :=
 ((((((w.setCell ⟨b,0,none⟩ v0).setCell ⟨b,1,none⟩ v1).setCell ⟨b,2,none⟩ v2).setCell ⟨b,3,none⟩ v3).setCell ⟨b,4,none⟩ v4).setCell ⟨b,5,none⟩ v5).setCell ⟨b,6,none⟩ v6
theorem put7_alk (P:Nat→Prop)(w:World)(b:Nat)(v0 v1 v2 v3 v4 v5 v6:Value)(hP:∀ k,P k→k≠b):Alk P w (put7 w b v0 v1 v2 v3 v4 v5 v6):=by
 have hs:∀ (W:World) (j:Nat) (u:Value),Alk P W (W.setCell ⟨b,j,none⟩ u):=fun W j u=>Alk.set u hP
 exact ((((((hs _ _ _).trans (hs _ _ _)).trans (hs _ _ _)).trans (hs _ _ _)).trans (hs _ _ _)).trans (hs _ _ _)).trans (hs _ _ _)
theorem put7_below {B:Nat}{w0 w:World}(h:Below B w0 w){b:Nat}(hb:B≤b)(v0 v1 v2 v3 v4 v5 v6:Value):Below B w0 (put7 w b v0 v1 v2 v3 v4 v5 v6) :=
 ((((((h.setCell hb _).setCell hb _).setCell hb _).setCell hb _).setCell hb _).setCell hb _).setCell hb _
theorem put7_cells {w:World}{b:Nat}{c0 c1 c2 c3 c4 c5 c6:Value}{T:TypeId}(h:w.heap[b]?=some (.cells #[c0,c1,c2,c3,c4,c5,c6] T (0,0)))(v0 v1 v2 v3 v4 v5 v6:Value) :
  (put7 w b v0 v1 v2 v3 v4 v5 v6).heap[b]?=some (.cells #[v0,v1,v2,v3,v4,v5,v6] T (0,0)):=by
 have h1:(w.setCell ⟨b,0,none⟩ v0).heap[b]?=some (.cells #[v0,c1,c2,c3,c4,c5,c6] T (0,0)):=heap_setCell_same _ b 0 _ _ v0 h
 have h2:((w.setCell ⟨b,0,none⟩ v0).setCell ⟨b,1,none⟩ v1).heap[b]?=some (.cells #[v0,v1,c2,c3,c4,c5,c6] T (0,0)):=heap_setCell_same _ b 1 _ _ v1 h1
 have h3:(((w.setCell ⟨b,0,none⟩ v0).setCell ⟨b,1,none⟩ v1).setCell ⟨b,2,none⟩ v2).heap[b]?=some (.cells #[v0,v1,v2,c3,c4,c5,c6] T (0,0)):=heap_setCell_same _ b 2 _ _ v2 h2
 have h4:((((w.setCell ⟨b,0,none⟩ v0).setCell ⟨b,1,none⟩ v1).setCell ⟨b,2,none⟩ v2).setCell ⟨b,3,none⟩ v3).heap[b]?=some (.cells #[v0,v1,v2,v3,c4,c5,c6] T (0,0)):=heap_setCell_same _ b 3 _ _ v3 h3
 have h5:(((((w.setCell ⟨b,0,none⟩ v0).setCell ⟨b,1,none⟩ v1).setCell ⟨b,2,none⟩ v2).setCell ⟨b,3,none⟩ v3).setCell ⟨b,4,none⟩ v4).heap[b]?=some (.cells #[v0,v1,v2,v3,v4,c5,c6] T (0,0)):=heap_setCell_same _ b 4 _ _ v4 h4
 have h6:((((((w.setCell ⟨b,0,none⟩ v0).setCell ⟨b,1,none⟩ v1).setCell ⟨b,2,none⟩ v2).setCell ⟨b,3,none⟩ v3).setCell ⟨b,4,none⟩ v4).setCell ⟨b,5,none⟩ v5).heap[b]?=some (.cells #[v0,v1,v2,v3,v4,v5,c6] T (0,0)):=heap_setCell_same _ b 5 _ _ v5 h5
 have h7:(((((((w.setCell ⟨b,0,none⟩ v0).setCell ⟨b,1,none⟩ v1).setCell ⟨b,2,none⟩ v2).setCell ⟨b,3,none⟩ v3).setCell ⟨b,4,none⟩ v4).setCell ⟨b,5,none⟩ v5).setCell ⟨b,6,none⟩ v6).heap[b]?=some (.cells #[v0,v1,v2,v3,v4,v5,v6] T (0,0)):=heap_setCell_same _ b 6 _ _ v6 h6
 exact h7
theorem store7Y {w:World}{b:Nat}{op:Int}{NM MD TX:ByteArray}{ys:Bool}{kv:Value}{a_:Int}(h:w.heap[b]?=some (.cells (boxY op NM MD TX ys kv a_) 55 (0,0)))(op':Int)(NM' MD' TX':ByteArray)(ys':Bool)(kv':Value)(a':Int) :
  (put7 w b (.int .i64 op') (.string NM') (.string MD') (.string TX') (.bool ys') kv' (.int .i64 a')).heap[b]?=some (.cells (boxY op' NM' MD' TX' ys' kv' a') 55 (0,0)):=put7_cells h _ _ _ _ _ _ _
theorem AlkZ.drew (P:Nat→Prop)(w:World):Alk P w w.drew:=⟨Nat.le_refl _,fun _ _ _=>rfl⟩
def ExPost (x:PZ)(w:World)(r:Ending)(w':World):Prop :=
 ∃ m ak ck,r=.returned (.agg #[.int .i64 x.op,.string ⟨x.name.toArray⟩,.string ⟨x.module.toArray⟩,.string ⟨(intF x.num).toArray⟩,.bool x.yes,.slice ak x.kids.length ck,.int .i64 x.at_])∧ZAt YR (fun b=>w.heap.size≤b) w' m (.slice ak x.kids.length ck) x∧Below w.heap.size w w'
def MxDoes (x:PZ):Prop:=∀ (B:Nat) (am:Option Addr) (wn cm:Nat) (ae:Option Addr) (ce:Nat) (w:World),ZAt YA (fun b=>b<B) w (.slice am wn cm) (.slice ae x.kids.length ce) x→B≤w.heap.size →
 Calls Tryz.prog 44 #[.agg #[.int .i64 x.op,.string ⟨x.name.toArray⟩,.string ⟨x.module.toArray⟩,.bool (decide (x.num<0)),.slice am wn cm,.bool x.yes,.slice ae x.kids.length ce,.int .i64 x.at_]] w (ExPost x w)
theorem mexpr_step (e:PZ)(hf:e.fit)(IH:∀ x∈e.kids,MxDoes x):MxDoes e:=by
 intro B am wn cm ae ce w h hB
 obtain ⟨i0,hinf,hz0,hz1,hz2⟩:=info_parts Tryz.infoREm
 obtain ⟨f1,f2,f3,f4,-⟩:=PZ.fit_def hf
 have hkz:=h.kidsZ
 have ent:=Tryz.entersMade
 obtain ⟨TX,hTX,eT⟩:=bytes_of (intF e.num)
 have hst:=fun (W0 W:World) (h0:Below w.heap.size w W0) (h1:Below W0.heap.size W0 W)=>zstr_any (fun k=>k<B) am wn cm e.num W (XA.frame h.form.1 (Alk.of (h0.trans (h1.mono h0.size)))) f3
 have HST:Hid (∀ W0 W,Below w.heap.size w W0→Below W0.heap.size W0 W→Calls Tryz.prog 86 #[.agg #[.bool (decide (e.num<0)),.slice am wn cm]] W fun r w'=>r=.returned (.string TX)∧Below W0.heap.size W0 w'∧Below W.heap.size W w'):=Lib.hid fun W0 W h0 h1=>(hst W0 W h0 h1).mono fun r w' q=>⟨by rw [q.1,eT],h1.trans (q.2.mono h1.size),q.2⟩
 have HK:=Lib.hid hkz
 have HI:=Lib.hid IH
 have HFIN:Hid (∀ (wr:World) (C:Nat) (ak:Option Addr) (ck:Nat),RowK (ZK YR) (fun b=>C≤b) wr (.slice ak e.kids.length ck) e.kids→ZAt YR (fun b=>C≤b) wr .nilIface (.slice ak e.kids.length ck) e):=Lib.hid fun wr C ak ck hr=>by
  have h1:=rowK_zat hr
  cases e with
  | mk op nm md num yes kids at_=>rw [ZAt];exact ⟨trivial,h1⟩
 unfold ExPost
 rw [eT]
 clear hst hkz IH hf f1 f2 f3 h hTX eT
 generalize decide (e.num<0)=ng at *
 have hbw:=(below_new w (.cells (boxZ e.op ⟨e.name.toArray⟩ ⟨e.module.toArray⟩ ng (.slice am wn cm) e.yes (.slice ae e.kids.length ce) e.at_) 40)).alloc (by simp) (.cells (boxY 0 ⟨#[]⟩ ⟨#[]⟩ ⟨#[]⟩ false (.slice none 0 0) 0) 55)
 have hN:=(Lib.alloc_old (w.alloc (.cells (boxZ e.op ⟨e.name.toArray⟩ ⟨e.module.toArray⟩ ng (.slice am wn cm) e.yes (.slice ae e.kids.length ce) e.at_) 40)) (.cells (boxY 0 ⟨#[]⟩ ⟨#[]⟩ ⟨#[]⟩ false (.slice none 0 0) 0) 55) w.heap.size (by simp)).trans (heap_alloc_new w (.cells (boxZ e.op ⟨e.name.toArray⟩ ⟨e.module.toArray⟩ ng (.slice am wn cm) e.yes (.slice ae e.kids.length ce) e.at_) 40))
 have hR:=heap_alloc_new (w.alloc (.cells (boxZ e.op ⟨e.name.toArray⟩ ⟨e.module.toArray⟩ ng (.slice am wn cm) e.yes (.slice ae e.kids.length ce) e.at_) 40)) (.cells (boxY 0 ⟨#[]⟩ ⟨#[]⟩ ⟨#[]⟩ false (.slice none 0 0) 0) 55)
 rw [World.size_alloc] at hR
 go_enter Tryz.func44,Tryz.ntmps44
 go_upto_region 1 with fail
 change Code.wp _ _ _ _ ((w.alloc (.cells (boxZ e.op ⟨e.name.toArray⟩ ⟨e.module.toArray⟩ ng (.slice am wn cm) e.yes (.slice ae e.kids.length ce) e.at_) 40)).alloc (.cells (boxY 0 ⟨#[]⟩ ⟨#[]⟩ ⟨#[]⟩ false (.slice none 0 0) 0) 55))
 generalize (w.alloc _).alloc _=w1 at hbw hN hR ⊢
 have hl1:=(Array.getElem?_eq_some_iff.1 hN).1
 have hl2:=(Array.getElem?_eq_some_iff.1 hR).1
 have hzw:=hbw.size
 have HN:=Lib.hid hN
 have HR:=Lib.hid hR
 obtain ⟨y0,y1,y2,y3,y4,y5,y6,y7⟩:=boxZ_cells hN
 have hS:∀ W:World,Below w1.heap.size w1 W→W.cell? ⟨w.heap.size,0,none⟩=some (.int .i64 e.op)∧W.cell? ⟨w.heap.size,1,none⟩=some (.string ⟨e.name.toArray⟩)∧W.cell? ⟨w.heap.size,2,none⟩=some (.string ⟨e.module.toArray⟩)∧W.cell? ⟨w.heap.size,3,none⟩=some (.bool ng)∧W.cell? ⟨w.heap.size,4,none⟩=some (.slice am wn cm)∧W.cell? ⟨w.heap.size,5,none⟩=some (.bool e.yes)∧W.cell? ⟨w.heap.size,7,none⟩=some (.int .i64 e.at_):=fun W hq=>⟨(hq.cell (p:=⟨w.heap.size,0,none⟩) hl1).trans y0,(hq.cell (p:=⟨w.heap.size,1,none⟩) hl1).trans y1,(hq.cell (p:=⟨w.heap.size,2,none⟩) hl1).trans y2,(hq.cell (p:=⟨w.heap.size,3,none⟩) hl1).trans y3,(hq.cell (p:=⟨w.heap.size,4,none⟩) hl1).trans y4,(hq.cell (p:=⟨w.heap.size,5,none⟩) hl1).trans y5,(hq.cell (p:=⟨w.heap.size,7,none⟩) hl1).trans y7⟩
 have HS:=Lib.hid hS
 have HST1:=Lib.hid (fun W=>HST.out w1 W hbw)
 have p0:=hS w1 (Below.refl _ _)
 have hq0:Below w1.heap.size w1 w1.drew:=(Below.refl _ _).drew
 have hP7:∀ (W:World),Below w1.heap.size w1 W→∀ v0 v1 v2 v3 v4 v5 v6,Below w1.heap.size w1 (((((((W.setCell ⟨w1.heap.size,0,none⟩ v0).setCell ⟨w1.heap.size,1,none⟩ v1).setCell ⟨w1.heap.size,2,none⟩ v2).setCell ⟨w1.heap.size,3,none⟩ v3).setCell ⟨w1.heap.size,4,none⟩ v4).setCell ⟨w1.heap.size,5,none⟩ v5).setCell ⟨w1.heap.size,6,none⟩ v6):=fun W hW v0 v1 v2 v3 v4 v5 v6=>put7_below hW (Nat.le_refl _) _ _ _ _ _ _ _
 have hq1:∀ o,Below w1.heap.size w1 (w1.alloc o).drew:=fun o=>(below_new w1 o).drew
 clear hN hR hS HST
 go_cut [3] (fun s wc=>∃ xb,s=.pointer (some ⟨xb,0,none⟩)∧w1.heap.size≤xb∧wc.heap[xb]?=some (.cells (boxY e.op ⟨e.name.toArray⟩ ⟨e.module.toArray⟩ TX e.yes (.slice none 0 0) e.at_) 55 (0,0))∧Below w1.heap.size w1 wc)
 case first =>
  go_region_held3 (fun W=>W.cell? ⟨w.heap.size,0,none⟩=some (.int .i64 e.op)∧W.cell? ⟨w.heap.size,1,none⟩=some (.string ⟨e.name.toArray⟩)∧W.cell? ⟨w.heap.size,2,none⟩=some (.string ⟨e.module.toArray⟩)∧W.cell? ⟨w.heap.size,3,none⟩=some (.bool ng)∧W.cell? ⟨w.heap.size,4,none⟩=some (.slice am wn cm)∧W.cell? ⟨w.heap.size,5,none⟩=some (.bool e.yes)∧W.cell? ⟨w.heap.size,7,none⟩=some (.int .i64 e.at_))
   (first|(with_reducible exact p3)|(with_reducible exact HS.out _ (hq1 _))|((try dsimp only);with_reducible exact HS.out _ (hP7 _ hqA _ _ _ _ _ _ _))|(go_keep;done))
   (first|(go_at_call 86;(first|(with_reducible refine (HST1.out _ hq0).mono ?_)|(with_reducible refine (HST1.out _ (hq1 _)).mono ?_));rintro r wA ⟨rfl,hqA,hbA⟩;have p3:=HS.out _ hqA;try (have hTz:=(hbA.block w1.heap.size (by simp)).trans (heap_alloc_new w1 (.cells (boxY 0 ⟨#[]⟩ ⟨#[]⟩ ⟨#[]⟩ false (.slice none 0 0) 0) 55));obtain ⟨tz0,tz1,tz2,tz3,tz4,tz5,tz6⟩:=boxY_cells hTz;have tzf:=boxY_free hTz)))
  ·clear y0 y1 y2 y3 y4 y5 y6 y7 p0 p3
   go_wp2_with fail
   go_meet
   exact ⟨wA.heap.size,rfl,hqA.size,heap_alloc_new wA (.cells (boxY e.op ⟨e.name.toArray⟩ ⟨e.module.toArray⟩ TX e.yes (.slice none 0 0) e.at_) 55),hqA.alloc hqA.size _⟩
  ·have S3:=store7Y hTz e.op ⟨e.name.toArray⟩ ⟨e.module.toArray⟩ TX e.yes (.slice none 0 0) e.at_
   clear y0 y1 y2 y3 y4 y5 y6 y7 p0 p3 tz0 tz1 tz2 tz3 tz4 tz5 tz6 tzf
   go_wp2_with fail
   go_meet
   exact ⟨w1.heap.size,rfl,Nat.le_refl _,S3,put7_below hqA (Nat.le_refl _) _ _ _ _ _ _ _⟩
 case rest =>
  obtain ⟨xb,rfl,hxb,hX,hbc⟩:=hcut
  obtain ⟨w2,rfl⟩:∃ w2:World,w2=wc:=⟨_,rfl⟩
  have hzc2:=hbc.size
  have hl3:=(Array.getElem?_eq_some_iff.1 hX).1
  have hN3:=(hbc.block w.heap.size hl1).trans HN.out
  have hR3:=(hbc.block (w.heap.size+1) hl2).trans HR.out
  have hbw2:=hbw.trans (hbc.mono hzw)
  have hxne:w.heap.size+1<xb:=by omega
  clear y0 y1 y2 y3 y4 y5 y6 y7 p0 hP7 hq1 hq0 HS HST1 HN HR hbw hbc hl1 hl2
  obtain ⟨y0,y1,y2,y3,y4,y5,y6,y7⟩:=boxZ_cells hN3
  have H1:Hid (OwnQ (ZK YR) (fun b=>w2.heap.size≤b) w2.heap.size 55 w2 (.slice none 0 0) (e.kids.take 0)):=Lib.hid (by rw [List.take_zero];exact OwnQ.nil _ _ _ _ _)
  have HN3:=Lib.hid hN3
  have HR3:=Lib.hid hR3
  clear hN3 hR3
  go_wp2
  go_loopw [23] (fun q wr=>∃ (k:Nat) (kv:Value),k≤e.kids.length∧q=.int .i64 k∧Alk (fun b=>b<w2.heap.size∧b≠xb) w2 wr∧wr.heap[xb]?=some (.cells (boxY e.op ⟨e.name.toArray⟩ ⟨e.module.toArray⟩ TX e.yes kv e.at_) 55 (0,0))∧OwnQ (ZK YR) (fun b=>w2.heap.size≤b) w2.heap.size 55 wr kv (e.kids.take k)∧Below w.heap.size w wr) (fun q _=>e.kids.length - (intOf q).toNat)
  case atStart=>exact ⟨0,_,Nat.zero_le _,rfl,Alk.refl _ _,hX,H1.out,hbw2⟩
  case round =>
   obtain ⟨k,kv,hk,rfl,halk,hbe,hst,hbl⟩:=hrel
   have hCw:w2.heap.size≤wr.heap.size:=halk.1
   have hwz:=hbl.size
   by_cases hkl:k<e.kids.length
   ·obtain ⟨b,off,rfl,hbB,hbw,hkid⟩:=HK.out (by omega)
    obtain ⟨ax0,wx,cx0,ak,ck,hE,hc⟩:=hkid k hkl
    have hI:=fun W (hb:Below w.heap.size w W)=>HI.out _ (List.getElem_mem hkl) B ax0 wx cx0 ak ck W (hE.frame (Alk.ofB hb (fun b hb=>by omega)))
    have x0:=(hbl.cell (p:=⟨b,off+k * 8,none⟩) hbw).trans (hc 0 _ rfl)
    have x1:=(hbl.cell (p:=⟨b,off+k * 8+1,none⟩) hbw).trans (hc 1 _ rfl)
    have x2:=(hbl.cell (p:=⟨b,off+k * 8+2,none⟩) hbw).trans (hc 2 _ rfl)
    have x3:=(hbl.cell (p:=⟨b,off+k * 8+3,none⟩) hbw).trans (hc 3 _ rfl)
    have x4:=(hbl.cell (p:=⟨b,off+k * 8+4,none⟩) hbw).trans (hc 4 _ rfl)
    have x5:=(hbl.cell (p:=⟨b,off+k * 8+5,none⟩) hbw).trans (hc 5 _ rfl)
    have x6:=(hbl.cell (p:=⟨b,off+k * 8+6,none⟩) hbw).trans (hc 6 _ rfl)
    have x7:=(hbl.cell (p:=⟨b,off+k * 8+7,none⟩) hbw).trans (hc 7 _ rfl)
    simp only [strV] at x1 x2
    have hsn:e.kids.take (k+1)=e.kids.take k++[e.kids[k]]:=List.take_succ_eq_append_getElem hkl
    have hpl:(e.kids.take k).length=k:=by rw [List.length_take];omega
    have HI1:=Lib.hid hI
    have HSN:=Lib.hid hsn
    clear hI hsn hkid hc hE
    generalize e.kids[k]=x at x0 x1 x2 x3 x4 x5 x6 x7 HI1 HSN
    obtain ⟨acc,hacc⟩:∃ acc,acc=e.kids.take k:=⟨_,rfl⟩
    rw [← hacc] at hst hpl HSN
    clear hacc
    have hkI:(k:Int)<(e.kids.length:Int):=by omega
    obtain ⟨l,h1,hown,hes⟩:=hst
    rw [hpl] at hown
    obtain ⟨va,vc,rfl⟩:∃ va vc,kv=.slice va k vc:=by
     rcases hown.2 with ⟨hv,hn0⟩|⟨g,cap,cur,hv,_⟩
     ·exact ⟨none,0,by rw [hv,hn0]⟩
     ·exact ⟨_,cap,hv⟩
    have hlt:=(Array.getElem?_eq_some_iff.1 hbe).1
    have HL:=Lib.hid hpl
    have H11:=Lib.hid h1
    clear hpl h1
    have HBL:=Lib.hid hbl
    have HAL:=Lib.hid halk
    generalize hng:decide (x.num<0)=nx at *
    go_upto_region 5 with fail
    have hbB1:=below_new wr (.cells (boxZ x.op ⟨x.name.toArray⟩ ⟨x.module.toArray⟩ nx (.slice ax0 wx cx0) x.yes (.slice ak x.kids.length ck) x.at_) 40)
    have hY:=heap_alloc_new wr (.cells (boxZ x.op ⟨x.name.toArray⟩ ⟨x.module.toArray⟩ nx (.slice ax0 wx cx0) x.yes (.slice ak x.kids.length ck) x.at_) 40)
    have hC:=HI1.out (wr.alloc (.cells (boxZ x.op ⟨x.name.toArray⟩ ⟨x.module.toArray⟩ nx (.slice ax0 wx cx0) x.yes (.slice ak x.kids.length ck) x.at_) 40)).drew (HBL.out.trans (hbB1.drew.mono hwz)) (by have:=hbB1.size;show B≤(wr.alloc _).heap.size;omega)
    have HC:=Lib.hid hC
    obtain ⟨u0,u1,u2,u3,u4,u5,u6,u7⟩:=boxZ_cells hY
    have hce:=(hbB1.block xb hlt).trans hbe
    obtain ⟨-,-,-,-,-,v5,-⟩:=boxY_cells hce
    have hbl1:=HBL.out.trans (hbB1.mono hwz)
    have hal1:=HAL.out.trans (Alk.ofB hbB1 fun b hb=>by omega)
    have hown1:=own_below hown hbB1
    have hes1:∀ p∈l,(ZK YR).inn (fun b=>w2.heap.size≤b∧some b≠(Value.slice va k vc).ownBlock) (wr.alloc (.cells (boxZ x.op ⟨x.name.toArray⟩ ⟨x.module.toArray⟩ nx (.slice ax0 wx cx0) x.yes (.slice ak x.kids.length ck) x.at_) 40)) p.1 p.2:=fun p hp=>(ZK YR).frame (hes p hp) (Alk.of hbB1)
    have hlt1:xb<(wr.alloc (.cells (boxZ x.op ⟨x.name.toArray⟩ ⟨x.module.toArray⟩ nx (.slice ax0 wx cx0) x.yes (.slice ak x.kids.length ck) x.at_) 40)).heap.size:=Nat.lt_of_lt_of_le hlt hbB1.size
    have hwy1:=hbB1.size
    clear x0 x1 x2 x3 x4 x5 x6 x7 y0 y1 y2 y3 y4 y5 y6 y7 hC hY hbl hbe halk hown hes hlt HI1 hbB1 HBL HAL
    change Code.wp _ _ _ _ (wr.alloc (.cells (boxZ x.op ⟨x.name.toArray⟩ ⟨x.module.toArray⟩ nx (.slice ax0 wx cx0) x.yes (.slice ak x.kids.length ck) x.at_) 40))
    generalize hwy:wr.alloc (.cells (boxZ x.op ⟨x.name.toArray⟩ ⟨x.module.toArray⟩ nx (.slice ax0 wx cx0) x.yes (.slice ak x.kids.length ck) x.at_) 40)=wy at *
    clear hwy
    have hne6:some xb≠(Value.slice va k vc).ownBlock:=fun q=>by have:=(hown1.lt _ q.symm).1;omega
    have hk5:k≤65536:=by omega
    go_region_law ((first
     | (refine step_call (R:=ExPost x wy.drew) (args:=#[.agg #[.int .i64 x.op,.string ⟨x.name.toArray⟩,.string ⟨x.module.toArray⟩,.bool nx,.slice ax0 wx cx0,.bool x.yes,.slice ak x.kids.length ck,.int .i64 x.at_]]) rfl 44 _ _ rfl ?_ (by rfl) (ent _ _) ?_;exact HC.out;rintro r W2 ⟨mx,ax,cx,rfl,hxe,hb2⟩;refine ⟨_,rfl,?_⟩;have hbe2:=(hb2.block xb hlt1).trans hce;obtain ⟨-,-,-,-,-,r62,-⟩:=boxY_cells hbe2;have r63:=fun o=>Lib.cell?_alloc_some o r62)
     | (refine step_append_lies _ (by rfl) _ _ _ (by rfl) w2.heap.size 55 i0 _ 7 96 Tryz.underlying53 hinf hz0 hz1 hz2 rfl (by omega) (.slice va k vc) k _ (by rfl) ((own_below (owns_drew hown1) hb2).alloc _) ⟨W2.heap.size,0,none⟩ 1 1 [.int .i64 x.op,.string ⟨x.name.toArray⟩,.string ⟨x.module.toArray⟩,.string ⟨(intF x.num).toArray⟩,.bool x.yes,.slice ax x.kids.length cx,.int .i64 x.at_] (by rfl) (by rfl) (World.news_of_block (cs:=#[.int .i64 x.op,.string ⟨x.name.toArray⟩,.string ⟨x.module.toArray⟩,.string ⟨(intF x.num).toArray⟩,.bool x.yes,.slice ax x.kids.length cx,.int .i64 x.at_]) (t:=55) (fr:=(0,0)) (heap_alloc_new W2 _)) (by simp [Value.oneCell']) (by omega) (by unfold maxLen;omega) (by omega) (by have:=hb2.size;simp at this ⊢;omega) (W2.heap.size+1) (by simp) ?_;intro gg cap5 w5 hown5 hgrow5 hat5 hlt5;have hbe5:=(hgrow5.block xb (by have:=hb2.size;simp at this ⊢;omega) hne6).trans ((Lib.alloc_old W2 _ xb (by have:=hb2.size;simp at this;omega)).trans hbe2);obtain ⟨-,-,-,-,-,r65,-⟩:=boxY_cells hbe5;have z65:=boxY_free hbe5 5)))
    all_goals
     have hlen:=HL.out
     obtain ⟨q1,q2,q3⟩:=OwnQ.round (K:=ZK YR) (Q:=fun b=>w2.heap.size≤b) (wr:=wy.drew) (W2:=W2) (kv:=.slice va k vc) (kv5:=.slice (some ⟨gg,0,none⟩) (k+1) cap5) (acc:=acc) (a:=x) (x:=(mx,.slice ax x.kids.length cx)) (l:=l) (show Alk _ w2 wy.drew from hal1) hl3 (by omega) H11.out (by rw [hlen];exact hown1) (fun p hp=>(ZK YR).frame (hes1 p hp) (AlkZ.drew _ wy)) (hxe.imp fun b hb _=>⟨by have:wy.drew.heap.size=wy.heap.size:=rfl;omega,fun q=>by have:=(hown1.lt b q.symm).2;have:wy.drew.heap.size=wy.heap.size:=rfl;omega⟩) hb2 (by rw [hlen];exact hown5) hgrow5 rfl hat5 5 (.slice (some ⟨gg,0,none⟩) (k+1) cap5)
     have hbe6:(w5.setCell ⟨xb,5,none⟩ (.slice (some ⟨gg,0,none⟩) (k+1) cap5)).heap[xb]?=some (.cells (boxY e.op ⟨e.name.toArray⟩ ⟨e.module.toArray⟩ TX e.yes (.slice (some ⟨gg,0,none⟩) (k+1) cap5) e.at_) 55 (0,0)):=by
      rw [heap_setCell_same w5 _ 5 _ _ _ hbe5];rfl
     have hbl6:=q3 w.heap.size w (by omega) hbl1.drew
     have HF6:=Lib.hid (And.intro q1 (And.intro q2 (And.intro hbe6 hbl6)))
     clear hgrow5 hown5 hat5 hbe5 r65 z65 hbe2 r62 r63 hxe hb2 HC hes1 hown1 hal1 hce v5 u0 u1 u2 u3 u4 u5 u6 u7 q1 q2 q3 hbe6 hbl6 hbl1
     generalize w5.setCell _ _=w6 at HF6 ⊢
     go_wp2
     go_roundw
     case rel=>exact ⟨k+1,_,by omega,by go_num,HF6.out.2.1,HF6.out.2.2.1,by rw [HSN.out];exact HF6.out.1,HF6.out.2.2.2⟩
     case measure=>simp [intOf];omega
   ·obtain rfl:k=e.kids.length:=by omega
    have hkI:decide ((e.kids.length:Int)<(e.kids.length:Int))=false:=decide_eq_false (by omega)
    rw [List.take_length] at hst
    obtain ⟨va,vc,rfl⟩:∃ va vc,kv=.slice va e.kids.length vc:=hst.slice
    have hfin:=HFIN.out wr w2.heap.size va vc (hst.row (fun b hb=>hb) fun b hb _=>hb)
    have hr1:=(halk.2 (w.heap.size+1) ⟨by omega,by omega⟩ (by omega)).trans HR3.out
    obtain ⟨c0,c1,c2,c3,c4,c5,c6⟩:=boxY_cells hbe
    obtain ⟨d0,d1,d2,d3,d4,d5,d6⟩:=boxY_cells hr1
    have dz:=boxY_free hr1
    clear hst hbe hr1 halk y0 y1 y2 y3 y4 y5 y6 y7
    have HF:=Lib.hid hfin
    have HBL:=Lib.hid hbl
    clear hfin hbl
    go_wp2
    refine bodyPost_ret (v:=.agg #[.int .i64 e.op,.string ⟨e.name.toArray⟩,.string ⟨e.module.toArray⟩,.string TX,.bool e.yes,.slice va e.kids.length vc,.int .i64 e.at_]) (by simp [results,Tryz.results44,go_sem,d0,d1,d2,d3,d4,d5,d6]) rfl ⟨.nilIface,va,vc,rfl,?_,?_⟩
    ·exact (HF.out.frame (put7_alk _ _ _ _ _ _ _ _ _ _ fun b hb=>by omega)).imp fun b hb _=>by omega
    ·exact put7_below HBL.out (by omega) _ _ _ _ _ _ _
theorem mexpr_any:∀ (n:Nat) (e:PZ),SizeOf.sizeOf e<n→e.fit→MxDoes e
 | 0,_,h,_=>absurd h (by omega)
 | n+1,e,hs,hf=>mexpr_step e hf fun x hx=>mexpr_any n x (by have:=e.kids_sizeOf x hx;omega) ((PZ.fit_def hf).2.2.2.2 x hx)
section
variable {α β:Type}
theorem RK.flat_take (K:RK α β)(l:List (α × β))(n:Nat)(h:n≤l.length):(K.flat l).take (n * K.sz)=K.flat (l.take n):=by
 have e:K.flat l=K.flat (l.take n)++K.flat (l.drop n):=by
  unfold RK.flat
  rw [← List.flatMap_append,List.take_append_drop]
 rw [e,List.take_left' (by rw [K.flat_len,List.length_take];congr 1;omega)]
theorem RK.flat_drop (K:RK α β)(l:List (α × β))(n:Nat)(h:n≤l.length):(K.flat l).drop (n * K.sz)=K.flat (l.drop n):=by
 have e:K.flat l=K.flat (l.take n)++K.flat (l.drop n):=by
  unfold RK.flat
  rw [← List.flatMap_append,List.take_append_drop]
 rw [e,List.drop_left' (by rw [K.flat_len,List.length_take];congr 1;omega)]
end
theorem own_take {w:World}{base g n cap size k:Nat}{e:TypeId}{xs:List Value}(h:w.ownsRow base e size (.slice (some ⟨g,0,none⟩) n cap) n xs)(hk:k≤n):w.ownsRow base e size (.slice (some ⟨g,0,none⟩) k cap) k (xs.take (k * size)):=by
 have hm:k * size≤n * size:=Nat.mul_le_mul_right _ hk
 refine ⟨by rw [List.length_take,h.1];omega,.inr ?_⟩
 rcases h.2 with ⟨h1,_⟩|⟨g',cap',cur,h1,h2,h3,h4,h5,h6,h7⟩
 ·cases h1
 ·simp only [Value.slice.injEq,Option.some.injEq,Addr.mk.injEq,and_true,true_and] at h1
  obtain ⟨rfl,rfl⟩:=h1
  exact ⟨g,cap,cur,rfl,h2,h3,by omega,h5,h6,by rw [← h7,List.take_take,Nat.min_eq_left hm]⟩
theorem own_cells {w:World}{base g n cap size:Nat}{e:TypeId}{xs:List Value}(h:w.ownsRow base e size (.slice (some ⟨g,0,none⟩) n cap) n xs)(j:Nat)(u:Value)(hu:xs[j]?=some u):w.cell? ⟨g,j,none⟩=some u:=by
 rcases h.2 with ⟨h1,_⟩|⟨g',cap',cur,h1,h2,h3,h4,h5,h6,h7⟩
 ·cases h1
 ·simp only [Value.slice.injEq,Option.some.injEq,Addr.mk.injEq,and_true,true_and] at h1
  obtain ⟨rfl,rfl⟩:=h1
  rw [cell_of_row w g j cur e (0,0) h3]
  rw [← h7,List.getElem?_take] at hu
  split at hu
  ·simpa using hu
  ·cases hu
theorem own_drop {w:World}{base g n cap size k:Nat}{e:TypeId}{xs:List Value}(h:w.ownsRow base e size (.slice (some ⟨g,0,none⟩) n cap) n xs)(j:Nat)(u:Value)(hu:(xs.drop (k * size))[j]?=some u):w.cell? ((⟨g,k * size,none⟩:Addr).add j)=some u:=by
 have hadd:(⟨g,k * size,none⟩:Addr).add j=⟨g,k * size+j,none⟩:=by
  unfold Addr.add
  split <;> simp_all
 rw [hadd]
 rw [List.getElem?_drop] at hu
 exact own_cells h _ u hu
def put8 (w:World)(b:Nat)(v0 v1 v2 v3 v4 v5 v6 v7:Value):World :=
 ((((((((w.setCell ⟨b,0,none⟩ v0).setCell ⟨b,1,none⟩ v1).setCell ⟨b,2,none⟩ v2).setCell ⟨b,3,none⟩ v3).setCell ⟨b,4,none⟩ v4).setCell ⟨b,5,none⟩ v5).setCell ⟨b,6,none⟩ v6).setCell ⟨b,7,none⟩ v7)
theorem put8_alk (P:Nat→Prop)(w:World)(b:Nat)(v0 v1 v2 v3 v4 v5 v6 v7:Value)(hP:∀ k,P k→k≠b):Alk P w (put8 w b v0 v1 v2 v3 v4 v5 v6 v7):=by
 have hs:∀ (W:World) (j:Nat) (u:Value),Alk P W (W.setCell ⟨b,j,none⟩ u):=fun W j u=>Alk.set u hP
 exact (((((((hs _ _ _).trans (hs _ _ _)).trans (hs _ _ _)).trans (hs _ _ _)).trans (hs _ _ _)).trans (hs _ _ _)).trans (hs _ _ _)).trans (hs _ _ _)
theorem put8_below {B:Nat}{w0 w:World}(h:Below B w0 w){b:Nat}(hb:B≤b)(v0 v1 v2 v3 v4 v5 v6 v7:Value):Below B w0 (put8 w b v0 v1 v2 v3 v4 v5 v6 v7) :=
 (((((((h.setCell hb _).setCell hb _).setCell hb _).setCell hb _).setCell hb _).setCell hb _).setCell hb _).setCell hb _
theorem put8_cells {w:World}{b:Nat}{c0 c1 c2 c3 c4 c5 c6 c7:Value}{T:TypeId}(h:w.heap[b]?=some (.cells #[c0,c1,c2,c3,c4,c5,c6,c7] T (0,0)))(v0 v1 v2 v3 v4 v5 v6 v7:Value) :
  (put8 w b v0 v1 v2 v3 v4 v5 v6 v7).heap[b]?=some (.cells #[v0,v1,v2,v3,v4,v5,v6,v7] T (0,0)):=by
 have h1:(w.setCell ⟨b,0,none⟩ v0).heap[b]?=some (.cells #[v0,c1,c2,c3,c4,c5,c6,c7] T (0,0)):=heap_setCell_same _ b 0 _ _ v0 h
 have h2:((w.setCell ⟨b,0,none⟩ v0).setCell ⟨b,1,none⟩ v1).heap[b]?=some (.cells #[v0,v1,c2,c3,c4,c5,c6,c7] T (0,0)):=heap_setCell_same _ b 1 _ _ v1 h1
 have h3:(((w.setCell ⟨b,0,none⟩ v0).setCell ⟨b,1,none⟩ v1).setCell ⟨b,2,none⟩ v2).heap[b]?=some (.cells #[v0,v1,v2,c3,c4,c5,c6,c7] T (0,0)):=heap_setCell_same _ b 2 _ _ v2 h2
 have h4:((((w.setCell ⟨b,0,none⟩ v0).setCell ⟨b,1,none⟩ v1).setCell ⟨b,2,none⟩ v2).setCell ⟨b,3,none⟩ v3).heap[b]?=some (.cells #[v0,v1,v2,v3,c4,c5,c6,c7] T (0,0)):=heap_setCell_same _ b 3 _ _ v3 h3
 have h5:(((((w.setCell ⟨b,0,none⟩ v0).setCell ⟨b,1,none⟩ v1).setCell ⟨b,2,none⟩ v2).setCell ⟨b,3,none⟩ v3).setCell ⟨b,4,none⟩ v4).heap[b]?=some (.cells #[v0,v1,v2,v3,v4,c5,c6,c7] T (0,0)):=heap_setCell_same _ b 4 _ _ v4 h4
 have h6:((((((w.setCell ⟨b,0,none⟩ v0).setCell ⟨b,1,none⟩ v1).setCell ⟨b,2,none⟩ v2).setCell ⟨b,3,none⟩ v3).setCell ⟨b,4,none⟩ v4).setCell ⟨b,5,none⟩ v5).heap[b]?=some (.cells #[v0,v1,v2,v3,v4,v5,c6,c7] T (0,0)):=heap_setCell_same _ b 5 _ _ v5 h5
 have h7:(((((((w.setCell ⟨b,0,none⟩ v0).setCell ⟨b,1,none⟩ v1).setCell ⟨b,2,none⟩ v2).setCell ⟨b,3,none⟩ v3).setCell ⟨b,4,none⟩ v4).setCell ⟨b,5,none⟩ v5).setCell ⟨b,6,none⟩ v6).heap[b]?=some (.cells #[v0,v1,v2,v3,v4,v5,v6,c7] T (0,0)):=heap_setCell_same _ b 6 _ _ v6 h6
 have h8:((((((((w.setCell ⟨b,0,none⟩ v0).setCell ⟨b,1,none⟩ v1).setCell ⟨b,2,none⟩ v2).setCell ⟨b,3,none⟩ v3).setCell ⟨b,4,none⟩ v4).setCell ⟨b,5,none⟩ v5).setCell ⟨b,6,none⟩ v6).setCell ⟨b,7,none⟩ v7).heap[b]?=some (.cells #[v0,v1,v2,v3,v4,v5,v6,v7] T (0,0)):=heap_setCell_same _ b 7 _ _ v7 h7
 exact h8
theorem put78 {W:World}{A:Nat}{op:Int}{NM MD:ByteArray}{ng ys:Bool}{mv kv:Value}{a_:Int}{op':Int}{NM' MD' TX:ByteArray}{ys':Bool}{kv':Value}{a':Int}(hN:W.heap[A]?=some (.cells (boxZ op NM MD ng mv ys kv a_) 40 (0,0)))(hR:W.heap[A+1]?=some (.cells (boxY op' NM' MD' TX ys' kv' a') 55 (0,0)))(v0 v1 v2 v3 v4 v5 v6 v7 u0 u1 u2 u3 u4 u5 u6:Value) :
  (put7 (put8 W A v0 v1 v2 v3 v4 v5 v6 v7) (A+1) u0 u1 u2 u3 u4 u5 u6).heap[A]?=some (.cells #[v0,v1,v2,v3,v4,v5,v6,v7] 40 (0,0))∧(put7 (put8 W A v0 v1 v2 v3 v4 v5 v6 v7) (A+1) u0 u1 u2 u3 u4 u5 u6).heap[A+1]?=some (.cells #[u0,u1,u2,u3,u4,u5,u6] 55 (0,0)) ∧
  (∀ (B:Nat) (w0:World),B≤A→Below B w0 W→Below B w0 (put7 (put8 W A v0 v1 v2 v3 v4 v5 v6 v7) (A+1) u0 u1 u2 u3 u4 u5 u6))∧(∀ P:Nat→Prop,(∀ k,P k→k≠A∧k≠A+1)→Alk P W (put7 (put8 W A v0 v1 v2 v3 v4 v5 v6 v7) (A+1) u0 u1 u2 u3 u4 u5 u6)):=by
 have h1:=put8_cells (hN:W.heap[A]?=some (.cells #[_,_,_,_,_,_,_,_] _ _)) v0 v1 v2 v3 v4 v5 v6 v7
 have hl:=(Array.getElem?_eq_some_iff.1 hN).1
 have hl2:=(Array.getElem?_eq_some_iff.1 hR).1
 have a8:=put8_alk (fun k=>k≠A) W A v0 v1 v2 v3 v4 v5 v6 v7 fun k hk=>hk
 have h2:=(a8.2 (A+1) (by omega) hl2).trans hR
 have a7:=put7_alk (fun k=>k≠A+1) (put8 W A v0 v1 v2 v3 v4 v5 v6 v7) (A+1) u0 u1 u2 u3 u4 u5 u6 fun k hk=>hk
 refine ⟨(a7.2 A (by omega) (Nat.lt_of_lt_of_le hl a8.1)).trans h1,put7_cells (h2:(put8 W A v0 v1 v2 v3 v4 v5 v6 v7).heap[A+1]?=some (.cells #[_,_,_,_,_,_,_] _ _)) _ _ _ _ _ _ _,fun B w0 hB hb=>put7_below (put8_below hb hB _ _ _ _ _ _ _ _) (by omega) _ _ _ _ _ _ _,fun P hP=>?_⟩
 exact (put8_alk P W A v0 v1 v2 v3 v4 v5 v6 v7 fun k hk=>(hP k hk).1).trans (put7_alk P _ (A+1) u0 u1 u2 u3 u4 u5 u6 fun k hk=>(hP k hk).2)
theorem yaRow_one {P:Nat→Prop}{w:World}{l:List (PZ × (Value × Value))}(h:∀ p∈l,(ZK YA).inn P w p.1 p.2):∀ u∈(ZK YA).flat l,u.oneCell'=true:=by
 intro u hu
 unfold RK.flat at hu
 obtain ⟨p,hp,hu⟩:=List.mem_flatMap.1 hu
 obtain ⟨am,wn,cm,ak,ck,h1,h2⟩:=ZAt.slX (h p hp)
 have hu:u∈YA.cells p.1 p.2.1 p.2.2:=hu
 rw [h1,h2] at hu
 simp only [YA,List.mem_cons,List.not_mem_nil,or_false] at hu
 rcases hu with rfl|rfl|rfl|rfl|rfl|rfl|rfl|rfl <;> rfl
theorem both_new {C eb H0 k n:Nat}{wr W W5:World}{kv kv5 mv:Value}{zs:List PZ}{l:List (PZ × (Value × Value))}{op:Int}{nm md:List UInt8}{num:Int}{ys:Bool}(h1:l.map Prod.fst=zs)(hown:wr.ownsRow C 40 8 kv zs.length ((ZK YA).flat l))(hes:∀ p∈l,(ZK YA).inn (fun b=>C≤b∧some b≠kv.ownBlock) wr p.1 p.2)
  (hC:C≤wr.heap.size) (hb:Below wr.heap.size wr W) (he:wr.heap.size≤eb) (hm:NumAt (fun b=>wr.heap.size≤b∧b≠eb) W num mv) (hb5:Below W.heap.size W W5) (heb:eb<W.heap.size) (hH:W.heap.size≤H0) (hn:n=(zs.drop k).length) (hkv:W5.ownsRow H0 40 8 kv5 n ((ZK YA).flat (l.drop k))) :
  ZAt YA (fun b=>C≤b∧some b≠kv.ownBlock∧b≠eb) W5 mv kv5 (.mk op nm md num ys (zs.drop k) 0):=by
 have hz:=hb.size
 have hP:∀ b,wr.heap.size≤b→some b≠kv.ownBlock:=fun b hb q=>by have:=(hown.lt b q.symm).2;omega
 have hb6:=hb.trans (hb5.mono hz)
 have hrow:RowK (ZK YA) (fun b=>C≤b∧some b≠kv.ownBlock∧b≠eb) W5 kv5 (zs.drop k):=by
  refine ⟨l.drop k,by rw [List.map_drop,h1],by rw [← hn];exact SlP.ofOwns hkv fun b hb=>⟨by omega,hP b (by omega),by omega⟩,fun p hp=>?_⟩
  have h:=hes p (List.mem_of_mem_drop hp)
  exact (ZK YA).frame ((ZK YA).imp h fun b hb hl=>⟨hb.1,hb.2,by omega⟩) (Alk.of hb6)
 have h2:=rowK_zat hrow
 rw [ZAt]
 refine ⟨?_,h2⟩
 have h3:YA.num (fun b=>wr.heap.size≤b∧b≠eb) W5 num mv:=YA.frame (show YA.num _ W num mv from hm) (Alk.of hb5)
 exact YA.imp h3 fun b hb _=>⟨by omega,hP b hb.1,hb.2⟩
end Go.Proofs.YtdednahplodojaaGreatDoor
