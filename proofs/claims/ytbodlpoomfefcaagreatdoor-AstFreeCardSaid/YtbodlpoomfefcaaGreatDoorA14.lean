/- Walks and plain laws: ReadW3, DoneW. -/
import Derived.Test.YtbodlpoomfefcaaGreatDoorA13
import Derived.Shelf.Abstract
set_option maxHeartbeats 16000000
set_option maxRecDepth 100000
set_option linter.unusedVariables false
set_option linter.unusedSimpArgs false
namespace Go.Proofs.YtbodlpoomfefcaaGreatDoor
open Go.RowKit Go
theorem Tryz.infoExpr:(Tryz.prog.info? 40).map (fun i=>(i.zero,i.size,i.bytes))=some (some (.agg #[.int .i64 0,.string ⟨#[]⟩,.string ⟨#[]⟩,.bool false,.slice none 0 0,.bool false,.slice none 0 0,.int .i64 0]),8,112):=by kernel_rfl
theorem Tryz.entersExpr:∀ args w,(callFunc 42 args).run Tryz.prog w=.ok (.enter 42 args) w:=Go.Proofs.enters_of Tryz.func42 (by kernel_rfl) rfl
def KidsRow (S:Shape)(C e:Nat)(w:World)(kv:Value)(es:List PE):Prop :=
 ∃ l,w.ownsRow C e S.sz kv es.length (rowsE S es l)∧EAtL S (fun b=>C≤b∧some b≠kv.ownBlock) w l es
theorem KidsRow.nil (S:Shape)(C e:Nat)(w:World):KidsRow S C e w (.slice none 0 0) []:=⟨[],World.ownsRow_nil _ _ _ _,by rw [EAtL]⟩
theorem KidsRow.below {S:Shape}{C e:Nat}{w w':World}{kv:Value}{es:List PE}(h:KidsRow S C e w kv es)(hb:Below w.heap.size w w'):KidsRow S C e w' kv es:=by
 obtain ⟨l,h1,h2⟩:=h
 exact ⟨l,own_below h1 hb,h2.frame (Alk.of hb)⟩
theorem KidsRow.set {S:Shape}{C e:Nat}{w:World}{kv:Value}{es:List PE}(h:KidsRow S C e w kv es){a:Addr}(ha:a.block<C)(u:Value):KidsRow S C e (w.setCell a u) kv es:=by
 obtain ⟨l,h1,h2⟩:=h
 refine ⟨l,own_set h1 (fun q=>?_) u,h2.frame (Alk.set u fun b hb=>by have:=hb.1;omega)⟩
 have:=(h1.lt a.block q.symm).1
 omega
theorem KidsRow.snoc {S:Shape}{C e:Nat}{w w':World}{kv kv' m k:Value}{es:List PE}{x:PE}{g H:Nat}{l:List (Value × Value)}(h2:EAtL S (fun b=>C≤b∧some b≠kv.ownBlock) w l es)(hx:EAt S (fun b=>C≤b∧some b≠kv.ownBlock) w m k x)
  (hown:w'.ownsRow C e S.sz kv' (es.length+1) (rowsE S es l++S.cells x m k)) (hgrow:w.grownBy w' kv.ownBlock) (hv:kv'.ownBlock=some g) (hor:kv.ownBlock=some g∨g=H) (hH:w.heap.size≤H):KidsRow S C e w' kv' (es++[x]):=by
 have hll:=h2.len
 have hal:∀ (P:Nat→Prop),(∀ b,P b→some b≠kv.ownBlock)→Alk P w w':=fun P hP=>Alk.grown hgrow hP
 refine ⟨l++[(m,k)],?_,?_⟩
 ·rw [rowsE_snoc S es l x m k hll,List.length_append,List.length_singleton];exact hown
 ·have himp:∀ b,(C≤b∧some b≠kv.ownBlock)→b<w.heap.size→(C≤b∧some b≠kv'.ownBlock):=fun b hb hlt=>by
   refine ⟨hb.1,fun q=>?_⟩
   rw [hv] at q
   simp only [Option.some.injEq] at q
   rcases hor with h|h
   ·exact hb.2 (by rw [h,q])
   ·omega
  exact (((h2.imp (fun b hb hlt=>⟨himp b hb hlt,hb.2⟩)).frame (hal (fun b=>(C≤b∧some b≠kv'.ownBlock)∧some b≠kv.ownBlock) fun b hb=>hb.2)).imp fun b hb _=>hb.1).snoc
   (((hx.imp (fun b hb hlt=>⟨himp b hb hlt,hb.2⟩)).frame (hal (fun b=>(C≤b∧some b≠kv'.ownBlock)∧some b≠kv.ownBlock) fun b hb=>hb.2)).imp fun b hb _=>hb.1)
theorem Alk.drew (P:Nat→Prop)(w:World):Alk P w w.drew:=⟨Nat.le_refl _,fun _ _ _=>rfl⟩
theorem made_round {S:Shape}{e be:Nat}{w1 wr W2 w5:World}{o:Obj}{kv kv5 m k:Value}{acc:List PE}{x:PE}{l:List (Value × Value)}{gg:Nat}(halk:Alk (fun b=>b<w1.heap.size∧b≠be) w1 wr)(hbe:be<w1.heap.size)
  (hown:wr.ownsRow w1.heap.size e S.sz kv acc.length (rowsE S acc l)) (hes:EAtL S (fun b=>w1.heap.size≤b∧some b≠kv.ownBlock) wr l acc) (hx:EAt S (fun b=>wr.heap.size≤b) W2 m k x) (hb2:Below wr.heap.size wr W2)
  (hown5:w5.ownsRow w1.heap.size e S.sz kv5 (acc.length+1) (rowsE S acc l++S.cells x m k)) (hgrow:(W2.alloc o).grownBy w5 kv.ownBlock) (hv5:kv5.ownBlock=some gg) (hat:kv.ownBlock=some gg∨gg=W2.heap.size+1) (off:Nat) (u:Value) :
  KidsRow S w1.heap.size e (w5.setCell ⟨be,off,none⟩ u) kv5 (acc++[x])∧Alk (fun b=>b<w1.heap.size∧b≠be) w1 (w5.setCell ⟨be,off,none⟩ u)∧∀ (B:Nat) (w0:World),B≤be→Below B w0 wr→Below B w0 (w5.setCell ⟨be,off,none⟩ u):=by
 have hz1:=halk.1
 have hz2:=hb2.size
 have hb3:Below wr.heap.size wr (W2.alloc o):=hb2.alloc hz2 _
 have hlt:∀ b,some b=kv.ownBlock→w1.heap.size≤b∧b<wr.heap.size:=fun b q=>⟨(hown.lt b q.symm).1,(hown.lt b q.symm).2⟩
 have hx2:EAt S (fun b=>w1.heap.size≤b∧some b≠kv.ownBlock) (W2.alloc o) m k x :=
  (hx.imp (Q:=fun b=>w1.heap.size≤b∧some b≠kv.ownBlock) fun b hb _=>⟨by omega,fun q=>by have:=(hlt b q).2;omega⟩).frame ⟨by simp,fun b _ hb=>Lib.alloc_old _ _ _ hb⟩
 have hrow:=KidsRow.snoc (hes.frame (Alk.of hb3)) hx2 hown5 hgrow hv5 hat (by simp)
 refine ⟨hrow.set hbe u,?_,fun B w0 hB hb0=>?_⟩
 ·refine ((halk.trans (Alk.ofB hb3 fun b hb=>by omega)).trans (Alk.grown hgrow fun b hb q=>?_)).trans (Alk.set u fun b hb=>hb.2)
  have:=(hlt b q).1
  omega
 ·have hsz:=hb0.size
  exact ((hb0.trans (hb3.mono (by omega))).grown hgrow (by simp;omega) (fun b q=>by have:=(hlt b q.symm).1;omega)).setCell hB _
def EPostA (x:PE)(w:World)(e:Ending)(w':World):Prop :=
 ∃ am wn cm ae ce,e=.returned (.agg #[.int .i64 x.op,strV x.name,strV x.module,.bool (decide (x.num<0)),.slice am wn cm,.bool x.yes,.slice ae x.kids.length ce,.int .i64 x.at_]) ∧
  EAt XA (fun b=>w.heap.size≤b) w' (.slice am wn cm) (.slice ae x.kids.length ce) x∧Below w.heap.size w w'
theorem EAt.slicesA {P:Nat→Prop}{w:World}{m k:Value}{x:PE}(h:EAt XA P w m k x):∃ am wn cm ae ce,m=.slice am wn cm∧k=.slice ae x.kids.length ce:=by
 obtain ⟨hnum,ae,ce,rfl,_,_⟩:=h.form
 obtain ⟨ws,hws,_⟩:=(hnum:NumAt _ _ _ _)
 obtain ⟨am,cm,rfl⟩:=hws.form
 exact ⟨am,_,cm,ae,ce,rfl,rfl⟩
theorem EPost.a {x:PE}{w w':World}{e:Ending}(h:EPost XA x w e w'):EPostA x w e w':=by
 obtain ⟨m,k,rfl,h1,h2⟩:=h
 obtain ⟨am,wn,cm,ae,ce,rfl,rfl⟩:=h1.slicesA
 exact ⟨am,wn,cm,ae,ce,rfl,h1,h2⟩
def exprCells (op at_:Nat)(kv:Value):Array Value:=#[.int .i64 op,.string ⟨#[]⟩,.string ⟨#[]⟩,.bool false,.slice none 0 0,.bool false,kv,.int .i64 at_]
theorem exprCells_free {w:World}{b op at_:Nat}{kv:Value}(h:w.heap[b]?=some (.cells (exprCells op at_ kv) 40 (0,0)))(j:Nat):w.frozen? ⟨b,j,none⟩=false:=by simp [World.frozen?,h]
theorem exprCells_kids {w:World}{b op at_:Nat}{kv:Value}(h:w.heap[b]?=some (.cells (exprCells op at_ kv) 40 (0,0))):w.cell? ⟨b,6,none⟩=some kv:=by rw [Lib.cell_of_heap h];rfl
theorem rmade_any (B:Nat)(tv nv:Value)(toks:List Tok)(nodes:List Nd)(i op at_:Nat)(w:World)(h:TreeAt B w (.agg #[tv,nv]) toks nodes)(hB:B≤w.heap.size)(hi:i<nodes.length)
  (hk:∀ k∈nodes[i].kids,0≤k∧k<(nodes.length:Int)) (hl:nodes[i].kids.length≤1000000000) (pes:List PE) (hp:pes.length=(partsF nodes nodes[i].kids).length)
  (hE:∀ (j:Nat) (h1:j<pes.length) (h2:j<(partsF nodes nodes[i].kids).length) (W:World),TreeAt B W (.agg #[tv,nv]) toks nodes→B≤W.heap.size→Calls Tryz.prog 42 #[.agg #[tv,nv],.int .i64 (partsF nodes nodes[i].kids)[j]] W (EPost XA pes[j] W)) :
  Calls Tryz.prog 79 #[.agg #[tv,nv],.int .i64 op,.int .i64 at_,.int .i64 i] w (EPost XA (.mk op [] [] 0 [] false pes at_) w):=by
 obtain ⟨i0,hinf,hz0,hz1,hz2⟩:=info_parts Tryz.infoExpr
 have hlen:(partsF nodes nodes[i].kids).length≤1000000000:=Nat.le_trans (List.length_filter_le _ _) hl
 have HP:=Lib.hid (fun W hW hBW=>rparts_any B tv nv toks nodes i W hW hBW hi hk (Nat.le_trans hl (by decide)))
 have HT:=Lib.hid h
 have HE:=Lib.hid hE
 obtain ⟨a1,c1,a2,c2,e⟩:=h.slices
 obtain ⟨rfl,rfl⟩:tv=.slice a1 toks.length c1∧nv=.slice a2 nodes.length c2:=by simpa using e
 generalize partsF nodes nodes[i].kids=ps at hp hlen HP HE
 have HLP:=Lib.hid hp
 have ent:=Tryz.entersExpr
 clear hk hE h e hp hl hi
 have hb3:Below w.heap.size w (((w.alloc (.cells #[.slice a1 toks.length c1,.slice a2 nodes.length c2] 86)).alloc (.cells #[.int .i64 0,.string ⟨#[]⟩,.string ⟨#[]⟩,.bool false,.slice none 0 0,.bool false,.slice none 0 0,.int .i64 0] 40)).alloc (.cells (exprCells op at_ (.slice none 0 0)) 40)):=(((Below.refl _ _).alloc (Nat.le_refl _) _).alloc (by simp) _).alloc (by simp;omega) _
 have hnr:=heap_alloc_new w (.cells #[.slice a1 toks.length c1,.slice a2 nodes.length c2] 86)
 have hne:=heap_alloc_new (w.alloc (.cells #[.slice a1 toks.length c1,.slice a2 nodes.length c2] 86)) (.cells #[.int .i64 0,.string ⟨#[]⟩,.string ⟨#[]⟩,.bool false,.slice none 0 0,.bool false,.slice none 0 0,.int .i64 0] 40)
 have hne2:=heap_alloc_new ((w.alloc (.cells #[.slice a1 toks.length c1,.slice a2 nodes.length c2] 86)).alloc (.cells #[.int .i64 0,.string ⟨#[]⟩,.string ⟨#[]⟩,.bool false,.slice none 0 0,.bool false,.slice none 0 0,.int .i64 0] 40)) (.cells (exprCells op at_ (.slice none 0 0)) 40)
 go_enter Tryz.func79,Tryz.ntmps79
 go_wp2_with (go_at_call 128;refine (HP.out _ ?c1 ?c2).mono ?_)
 case c1=>exact HT.out.below (hb3.mono hB)
 case c2=>simp;omega
 rintro e w1 ⟨v,rfl,hints,hb1⟩
 have hw1s:=hb1.size
 simp only [World.size_alloc] at hw1s
 rw [World.size_alloc] at hne
 rw [World.size_alloc,World.size_alloc] at hne2
 have hq0:w1.heap[w.heap.size]?=some (.cells #[.slice a1 toks.length c1,.slice a2 nodes.length c2] 86 (0,0)):=(hb1.block w.heap.size (by simp;omega)).trans ((Lib.alloc_old _ _ _ (by simp;omega)).trans ((Lib.alloc_old _ _ _ (by simp)).trans hnr))
 have hq1:w1.heap[w.heap.size+1]?=some (.cells #[.int .i64 0,.string ⟨#[]⟩,.string ⟨#[]⟩,.bool false,.slice none 0 0,.bool false,.slice none 0 0,.int .i64 0] 40 (0,0)):=(hb1.block (w.heap.size+1) (by simp)).trans ((Lib.alloc_old _ _ _ (by simp)).trans hne)
 have hq2:w1.heap[w.heap.size+1+1]?=some (.cells (exprCells op at_ (.slice none 0 0)) 40 (0,0)):=(hb1.block (w.heap.size+1+1) (by simp)).trans hne2
 have hbw1:Below w.heap.size w w1:=hb3.trans (hb1.mono (by simp;omega))
 obtain ⟨ap,cp,rfl,_,hpf⟩:=hints.ints
 simp only [World.size_alloc] at hpf
 have HF:=Lib.hid hpf
 clear hpf hints hnr hne hne2 hb1 hb3
 go_wp2
 go_loopw [19] (fun q wr=>∃ (j:Nat) (kv:Value),j≤ps.length∧q=.int .i64 j∧Alk (fun b=>b<w1.heap.size∧b≠w.heap.size+1+1) w1 wr∧wr.heap[w.heap.size+1+1]?=some (.cells (exprCells op at_ kv) 40 (0,0))∧KidsRow XA w1.heap.size 40 wr kv (pes.take j)∧Below w.heap.size w wr) (fun q _=>ps.length - (intOf q).toNat)
 case atStart=>exact ⟨0,.slice none 0 0,Nat.zero_le _,rfl,Alk.refl _ _,hq2,KidsRow.nil _ _ _ _,hbw1⟩
 case round =>
  obtain ⟨j,kv,hj,rfl,halk,hbe,hrow,hbl⟩:=hrel
  have hsz:=halk.1
  have hr0:=(halk.2 w.heap.size ⟨by omega,by omega⟩ (by omega)).trans hq0
  have hr1:=(halk.2 (w.heap.size+1) ⟨by omega,by omega⟩ (by omega)).trans hq1
  by_cases hjl:j<ps.length
  ·have hjp:j<pes.length:=by have:=HLP.out;omega
   obtain ⟨bp,op',rfl,hbp1,hbp2,hcell⟩:=HF.out (by omega)
   have hx:=(World.cell?_of_block (a:=⟨bp,op'+j,none⟩) (halk.2 bp ⟨hbp2,by omega⟩ hbp2)).trans (hcell j hjl)
   have hC:=HE.out j hjp hjl wr.drew (HT.out.below ((hbl.mono hB).drew)) (by have:=hbl.size;show B≤wr.heap.size;omega)
   have hsn:pes.take (j+1)=pes.take j++[pes[j]]:=List.take_succ_eq_append_getElem hjp
   have hpl:(pes.take j).length=j:=by rw [List.length_take];omega
   have hjI:(j:Int)<(ps.length:Int):=by omega
   generalize ps[j]=q at hx hC
   generalize pes[j]=x at hC hsn
   generalize pes.take j=acc at hrow hsn hpl
   obtain ⟨l,hown,hes⟩:=hrow
   rw [hpl] at hown
   have HL:=Lib.hid hpl
   have HS:=Lib.hid hsn
   clear hpl hsn hcell
   obtain ⟨ak,ck,rfl,_⟩:∃ ak ck,kv=.slice ak j ck∧True:=by
    rcases hown.2 with ⟨hv,hn0⟩|⟨g,cap,cur,hv,_⟩
    ·exact ⟨none,0,by rw [hv,hn0],trivial⟩
    ·exact ⟨_,cap,hv,trivial⟩
   have HC:=Lib.hid (hC.mono fun _ _ h=>h.a)
   have r0:wr.cell? ⟨w.heap.size,0,none⟩=some (.slice a1 toks.length c1):=by rw [Lib.cell_of_heap hr0];rfl
   have r1:wr.cell? ⟨w.heap.size,1,none⟩=some (.slice a2 nodes.length c2):=by rw [Lib.cell_of_heap hr0];rfl
   have r6:wr.cell? ⟨w.heap.size+1+1,6,none⟩=some (.slice ak j ck):=by rw [Lib.cell_of_heap hbe];rfl
   clear hC
   go_wp2
   have hce:=hbe
   have hlt:=(Array.getElem?_eq_some_iff.1 hbe).1
   have hCw:w1.heap.size≤wr.heap.size:=hsz
   have hne6:some (w.heap.size+1+1)≠(Value.slice ak j ck).ownBlock:=fun q=>by have:=(hown.lt _ q.symm).1;omega
   go_region_law ((first
    | (refine step_append_lies _ (by rfl) _ _ _ (by rfl) w1.heap.size 40 i0 _ 8 112 Tryz.underlying38 hinf hz0 hz1 hz2 rfl (by omega) (.slice ak j ck) j _ (by rfl) ((own_below (owns_drew hown) hb2).alloc _) ⟨W2.heap.size,0,none⟩ 1 1 [.int .i64 x.op,strV x.name,strV x.module,.bool (decide (x.num<0)),.slice am wn cm,.bool x.yes,.slice ae x.kids.length ce,.int .i64 x.at_] (by rfl) (by rfl) (World.news_of_block (cs:=#[.int .i64 x.op,strV x.name,strV x.module,.bool (decide (x.num<0)),.slice am wn cm,.bool x.yes,.slice ae x.kids.length ce,.int .i64 x.at_]) (t:=40) (fr:=(0,0)) (heap_alloc_new W2 _)) (by simp [Value.oneCell',strV]) (by omega) (by unfold maxLen;omega) (by omega) (by have:=hb2.size;simp at this ⊢;omega) (W2.heap.size+1) (by simp) ?_;intro gg cap5 w5 hown5 hgrow5 hat5 hlt5;have hbe5:=(hgrow5.block (w.heap.size+1+1) (by have:=hb2.size;simp at this ⊢;omega) hne6).trans ((Lib.alloc_old W2 _ (w.heap.size+1+1) (by have:=hb2.size;simp at this;omega)).trans hbe2);have r65:=exprCells_kids hbe5;have z65:=exprCells_free hbe5 6)
    | (refine step_call rfl 42 _ _ rfl HC.out (by rfl) (ent _ _) ?_;rintro e W2 ⟨am,wn,cm,ae,ce,rfl,hxe,hb2⟩;refine ⟨_,rfl,?_⟩;have hbe2:=(hb2.block (w.heap.size+1+1) hlt).trans hce;have r62:=exprCells_kids hbe2;have r63:=fun o=>Lib.cell?_alloc_some o r62)))
   all_goals
    have hlen:=HL.out
    obtain ⟨q1,q2,q3⟩:=made_round (S:=XA) (wr:=wr.drew) (kv:=.slice ak j ck) (kv5:=.slice (some ⟨gg,0,none⟩) (j+1) cap5) (acc:=acc) (x:=x) (l:=l) (show Alk _ w1 wr.drew from halk) (show w.heap.size+1+1<w1.heap.size by omega) (by rw [hlen];exact hown) (hes.frame (Alk.drew _ wr)) hxe hb2 (by rw [hlen];exact hown5) hgrow5 rfl hat5 6 (.slice (some ⟨gg,0,none⟩) (j+1) cap5)
    have hbe6:(w5.setCell ⟨w.heap.size+1+1,6,none⟩ (.slice (some ⟨gg,0,none⟩) (j+1) cap5)).heap[w.heap.size+1+1]?=some (.cells (exprCells op at_ (.slice (some ⟨gg,0,none⟩) (j+1) cap5)) 40 (0,0)):=by
     rw [heap_setCell_same w5 _ 6 _ _ _ hbe5];rfl
    have hbl6:=q3 w.heap.size w (by omega) hbl.drew
    clear hgrow5 hown5 hat5 hbe5 r65 z65 hbe2 r62 r63 hxe hb2 HC hes hown halk hbe hce r0 r1 r6 hx
    generalize w5.setCell _ _=w6 at q1 q2 hbe6 hbl6 ⊢
    go_wp2
    go_roundw
    case rel=>exact ⟨j+1,_,by omega,by go_num,q2,hbe6,by rw [HS.out];exact q1,hbl6⟩
    case measure=>simp [intOf];omega
  ·have:j=ps.length:=by omega
   subst this
   have hjI:decide ((ps.length:Int)<(ps.length:Int))=false:=decide_eq_false (by omega)
   rw [← HLP.out,List.take_length] at hrow
   obtain ⟨l,hown,hes⟩:=hrow
   obtain ⟨ak,ck,rfl,_⟩:∃ ak ck,kv=.slice ak pes.length ck∧True:=by
    rcases hown.2 with ⟨hv,hn0⟩|⟨g,cap,cur,hv,_⟩
    ·exact ⟨none,0,by rw [hv,hn0],trivial⟩
    ·exact ⟨_,cap,hv,trivial⟩
   have c0:wr.cell? ⟨w.heap.size+1+1,0,none⟩=some (.int .i64 op):=by rw [Lib.cell_of_heap hbe];rfl
   have c1':wr.cell? ⟨w.heap.size+1+1,1,none⟩=some (.string ⟨#[]⟩):=by rw [Lib.cell_of_heap hbe];rfl
   have c2':wr.cell? ⟨w.heap.size+1+1,2,none⟩=some (.string ⟨#[]⟩):=by rw [Lib.cell_of_heap hbe];rfl
   have c3:wr.cell? ⟨w.heap.size+1+1,3,none⟩=some (.bool false):=by rw [Lib.cell_of_heap hbe];rfl
   have c4:wr.cell? ⟨w.heap.size+1+1,4,none⟩=some (.slice none 0 0):=by rw [Lib.cell_of_heap hbe];rfl
   have c5:wr.cell? ⟨w.heap.size+1+1,5,none⟩=some (.bool false):=by rw [Lib.cell_of_heap hbe];rfl
   have c6:wr.cell? ⟨w.heap.size+1+1,6,none⟩=some (.slice ak pes.length ck):=by rw [Lib.cell_of_heap hbe];rfl
   have c7:wr.cell? ⟨w.heap.size+1+1,7,none⟩=some (.int .i64 at_):=by rw [Lib.cell_of_heap hbe];rfl
   have d0:wr.cell? ⟨w.heap.size+1,0,none⟩=some (.int .i64 0):=by rw [Lib.cell_of_heap hr1];rfl
   have d1:wr.cell? ⟨w.heap.size+1,1,none⟩=some (.string ⟨#[]⟩):=by rw [Lib.cell_of_heap hr1];rfl
   have d2:wr.cell? ⟨w.heap.size+1,2,none⟩=some (.string ⟨#[]⟩):=by rw [Lib.cell_of_heap hr1];rfl
   have d3:wr.cell? ⟨w.heap.size+1,3,none⟩=some (.bool false):=by rw [Lib.cell_of_heap hr1];rfl
   have d4:wr.cell? ⟨w.heap.size+1,4,none⟩=some (.slice none 0 0):=by rw [Lib.cell_of_heap hr1];rfl
   have d5:wr.cell? ⟨w.heap.size+1,5,none⟩=some (.bool false):=by rw [Lib.cell_of_heap hr1];rfl
   have d6:wr.cell? ⟨w.heap.size+1,6,none⟩=some (.slice none 0 0):=by rw [Lib.cell_of_heap hr1];rfl
   have d7:wr.cell? ⟨w.heap.size+1,7,none⟩=some (.int .i64 0):=by rw [Lib.cell_of_heap hr1];rfl
   have z0:∀ j,wr.frozen? ⟨w.heap.size+1,j,none⟩=false:=by intro j;simp [World.frozen?,hr1]
   have hE0:EAt XA (fun b=>w1.heap.size≤b) wr (.slice none 0 0) (.slice ak pes.length ck) (.mk op [] [] 0 [] false pes at_):=by
    rw [EAt]
    exact ⟨NumAt.zero _ _,l,SlP.ofOwns hown fun b hb=>hb,hes.imp fun b hb _=>hb.1⟩
   clear hown hes hbe hr0 hr1
   go_wp2
   refine bodyPost_ret (v:=.agg #[.int .i64 op,.string ⟨#[]⟩,.string ⟨#[]⟩,.bool false,.slice none 0 0,.bool false,.slice ak pes.length ck,.int .i64 at_]) (by simp [results,Tryz.results79,go_sem,d0,d1,d2,d3,d4,d5,d6,d7]) rfl ⟨.slice none 0 0,.slice ak pes.length ck,rfl,?_,?_⟩
   ·have hs:∀ (W:World) (j:Nat) (u:Value),Alk (fun b=>w1.heap.size≤b) W (W.setCell ⟨w.heap.size+1,j,none⟩ u):=fun W j u=>Alk.set u fun b hb=>by show b≠w.heap.size+1;omega
    refine (hE0.frame ?_).imp (fun b hb _=>by omega)
    exact (((((((hs _ _ _).trans (hs _ _ _)).trans (hs _ _ _)).trans (hs _ _ _)).trans (hs _ _ _)).trans (hs _ _ _)).trans (hs _ _ _)).trans (hs _ _ _)
   ·exact ((((((((hbl).setCell (by simp) _).setCell (by simp) _).setCell (by simp) _).setCell (by simp) _).setCell (by simp) _).setCell (by simp) _).setCell (by simp) _).setCell (by simp) _
def Ki (w w':World):Prop:=∀ (k:Nat) (cs:Array Value) (fr:Nat × Nat),w.heap[k]?=some (.cells cs 3 fr)→w'.heap[k]?=some (.cells cs 3 fr)
theorem Ki.trans {a b c:World}(h:Ki a b)(k:Ki b c):Ki a c:=fun n cs fr q=>k n cs fr (h n cs fr q)
theorem Ki.below {w w':World}(h:Below w.heap.size w w'):Ki w w':=fun k _cs _fr q=>(h.block k (Array.getElem?_eq_some_iff.1 q).1).trans q
theorem Ki.set {w:World}{b:Nat}{cs:Array Value}{T:TypeId}{fr:Nat × Nat}(hb:w.heap[b]?=some (.cells cs T fr))(hT:T≠3)(j:Nat)(u:Value):Ki w (w.setCell ⟨b,j,none⟩ u):=fun k ds fr' q=>by
 rw [heap_setCell_other _ _ _ _ (by
  show k≠b
  rintro rfl
  rw [hb] at q
  simp only [Option.some.injEq,Obj.cells.injEq] at q
  exact hT q.2.1)]
 exact q
theorem IntsAt.ki {w w':World}{v:Value}{ks:List Int}(h:IntsAt w v ks)(hk:Ki w w'):IntsAt w' v ks:=by
 obtain ⟨ao,cap,hv,hc,hf⟩:=h
 refine ⟨ao,cap,hv,hc,fun h0=>?_⟩
 obtain ⟨b,off,cs,fr,ha,hb,hj⟩:=hf h0
 exact ⟨b,off,cs,fr,ha,hk b cs fr hb,hj⟩
theorem own_keep {w w':World}{B e sz n:Nat}{v:Value}{xs:List Value}(h:w.ownsRow B e sz v n xs)(hs:∀ q,v.ownBlock=some q→w'.heap[q]?=w.heap[q]?):w'.ownsRow B e sz v n xs:=by
 refine ⟨h.1,?_⟩
 rcases h.2 with hn|⟨g,cap,cur,hv,hg,hh,hr⟩
 ·exact .inl hn
 ·exact .inr ⟨g,cap,cur,hv,hg,(hs g (by rw [hv];rfl)).trans hh,hr⟩
def TreeTy (w:World)(v:Value)(toks:List Tok)(nodes:List Nd):Prop :=
 ∃ (tv nv:Value) (l:List (Nd × Value)) (C D:Nat),v=.agg #[tv,nv]∧w.ownsRow C 80 4 tv toks.length (toks.flatMap tokCells)∧l.map Prod.fst=nodes∧w.ownsRow D 83 3 nv nodes.length (l.flatMap ndCells)∧∀ p∈l,IntsAt w p.2 p.1.kids
theorem TreeTy.set {w:World}{v:Value}{toks:List Tok}{nodes:List Nd}(h:TreeTy w v toks nodes){b:Nat}{cs:Array Value}{T:TypeId}{fr:Nat × Nat}(hb:w.heap[b]?=some (.cells cs T fr))(h1:T≠80)(h2:T≠83)(h3:T≠3)(j:Nat)(u:Value):TreeTy (w.setCell ⟨b,j,none⟩ u) v toks nodes:=by
 obtain ⟨tv,nv,l,C,D,e,p1,p2,p3,p4⟩:=h
 exact ⟨tv,nv,l,C,D,e,own_set (a:=⟨b,j,none⟩) p1 (own_ne p1 hb h1) u,p2,own_set (a:=⟨b,j,none⟩) p3 (own_ne p3 hb h2) u,fun p hp=>(p4 p hp).ki (Ki.set hb h3 j u)⟩
theorem TreeTy.later {w w':World}{v:Value}{toks:List Tok}{nodes:List Nd}(h:TreeTy w v toks nodes)(hb:Below w.heap.size w w'):TreeTy w' v toks nodes:=by
 obtain ⟨tv,nv,l,C,D,e,p1,p2,p3,p4⟩:=h
 exact ⟨tv,nv,l,C,D,e,own_below p1 hb,p2,own_below p3 hb,fun p hp=>(p4 p hp).ki (Ki.below hb)⟩
theorem TreeTy.at {w:World}{v:Value}{toks:List Tok}{nodes:List Nd}(h:TreeTy w v toks nodes):TreeAt w.heap.size w v toks nodes:=by
 obtain ⟨tv,nv,l,C,D,e,p1,p2,p3,p4⟩:=h
 have hll:l.length=nodes.length:=by rw [← p2,List.length_map]
 refine ⟨tv,nv,l,e,Sl.ofOwns p1,p2,?_,fun p hp=>?_⟩
 ·rw [Rec,hll]
  exact Sl.ofOwns p3
 ·obtain ⟨ai,ci,hvi,hci,hfi⟩:=p4 p hp
  refine ⟨ai,ci,hvi,hci,by simp,fun hp0=>?_⟩
  obtain ⟨bi,oi,cs,fr,e1,e2,e3⟩:=hfi hp0
  refine ⟨bi,oi,e1,(Array.getElem?_eq_some_iff.1 e2).1,fun jj hjj=>?_⟩
  rw [Lib.cell_of_heap e2,e3 jj (by simpa using hjj)]
  simp
def DonePost (toks:List Tok)(nodes:List Nd)(w:World)(e:Ending)(w':World):Prop :=
 ∃ v,e=.returned v∧TreeTy w' v toks nodes∧Below w.heap.size w w'
def NRow (C:Nat)(w:World)(nv:Value)(nodes:List Nd):Prop :=
 ∃ l:List (Nd × Value),l.map Prod.fst=nodes∧w.ownsRow C 83 3 nv nodes.length (l.flatMap ndCells)∧∀ p∈l,IntsAt w p.2 p.1.kids
theorem done_any (R:List Nat)(B bb:Nat)(tv:Value)(toks:List Tok)(nodes:List Nd)(used:Nat)(w:World)(hb:BW R B bb tv used nodes w)(ht:Rec B w tv 4 tokCells toks)(h0:0<toks.length)(hn:toks.length≤1000000)(hm:nodes.length≤1000000)(hkl:∀ n∈nodes,n.kids.length≤1000000) :
  Calls Tryz.prog 84 #[.pointer (some ⟨bb,0,none⟩)] w (DonePost toks nodes w):=by
 have HC:=Lib.hid (fun W (h:Rec B W tv 4 tokCells toks)=>clone_toks B tv toks W h h0 (by omega))
 obtain ⟨h1,nv,l,h2,h3,h4,h5⟩:=hb
 have hlt:=(Array.getElem?_eq_some_iff.1 h2).1
 obtain ⟨ao,cap,rfl,_⟩:∃ ao cap,nv=.slice ao nodes.length cap∧True:=by
  rcases h4.2 with ⟨hv,hn0⟩|⟨g,cap,cur,hv,_⟩
  ·exact ⟨none,0,by rw [hv,hn0],trivial⟩
  ·exact ⟨_,cap,hv,trivial⟩
 have HT:=Lib.hid ht
 obtain ⟨at_,ct,rfl,_,_⟩:=ht.form (fun _=>rfl)
 have c0:w.cell? ⟨bb,0,none⟩=some (.slice at_ toks.length ct):=by rw [Lib.cell_of_heap h2];rfl
 have hal:=below_new w (.cells #[.slice none 0 0,.slice none 0 0] 25)
 have d0:=cell_later hal c0
 have hBw:B≤w.heap.size:=by omega
 have H4:=Lib.hid h4
 have H5:=Lib.hid h5
 clear h4 h5 ht c0
 go_enter Tryz.func84,Tryz.ntmps84
 go_wp2_with (go_at_call 136;refine (HC.out _ ?c1).mono ?_)
 case c1=>exact HT.out.below (hal.mono hBw)
 rintro e w1 ⟨v',rfl,hown,hb1⟩
 obtain ⟨g,c5,rfl,hg1,hg2⟩:=hown.form h0
 have G0:=(hb1.block w.heap.size (by simp)).trans (heap_alloc_new w (.cells #[.slice none 0 0,.slice none 0 0] 25))
 have Gb:=(hb1.block bb (by simp;omega)).trans ((Lib.alloc_old w _ bb hlt).trans h2)
 go_upto_region 2 with (fail)
 have hz1:=hb1.size
 rw [World.size_alloc] at hz1
 have hbw1:Below w.heap.size w w1:=hal.trans (hb1.mono (by simp))
 have T1:=heap_alloc_new w1 (.cells #[.slice (some ⟨g,0,none⟩) toks.length c5,.slice none 0 0] 25)
 have hb2:=below_new w1 (.cells #[.slice (some ⟨g,0,none⟩) toks.length c5,.slice none 0 0] 25)
 have Gb2:=(Lib.alloc_old w1 (.cells #[.slice (some ⟨g,0,none⟩) toks.length c5,.slice none 0 0] 25) bb (Array.getElem?_eq_some_iff.1 Gb).1).trans Gb
 generalize w1.alloc _=w2 at T1 hb2 Gb2 ⊢
 have b1:w2.cell? ⟨bb,1,none⟩=some (.slice ao nodes.length cap):=by rw [Lib.cell_of_heap Gb2];rfl
 obtain ⟨j0,hj,hy0,hy1,hy2⟩:=info_parts Tryz.infoNode
 have hll:l.length=nodes.length:=by rw [← h3,List.length_map]
 have hrec:Rec w.heap.size w (.slice ao nodes.length cap) 3 ndCells l:=by
  have:=Sl.ofOwns H4.out
  rw [Rec,hll]
  exact this
 obtain ⟨ao',cap',hv,_,hnf⟩:=hrec.formN (fun p=>ndCells_len p) hll
 simp only [Value.slice.injEq] at hv
 obtain ⟨rfl,-,rfl⟩:=hv
 have HNF:=Lib.hid hnf
 have HLL:=Lib.hid hll
 have H3:=Lib.hid h3
 clear hnf hrec hll h3
 go_wp2
 clear b1 d0
 go_loopw [19] (fun q wr=>∃ (j:Nat) (nv2:Value),j≤nodes.length∧q=.int .i64 j∧Alk (fun b=>b<w1.heap.size) w2 wr∧wr.heap[w1.heap.size]?=some (.cells #[.slice (some ⟨g,0,none⟩) toks.length c5,nv2] 25 (0,0))∧NRow (w1.heap.size+1) wr nv2 (nodes.take j)∧Ki w2 wr∧Below w.heap.size w wr) (fun q _=>nodes.length - (intOf q).toNat)
 case atStart=>exact ⟨0,.slice none 0 0,Nat.zero_le _,rfl,Alk.refl _ _,T1,⟨[],rfl,World.ownsRow_nil _ _ _ _,fun p hp=>by cases hp⟩,fun _ _ _ q=>q,hbw1.trans (hb2.mono hbw1.size)⟩
 case round =>
  obtain ⟨j,nv2,hjn,rfl,halk,hT,hrow,hki,hbl⟩:=hrel
  have hzr:=halk.1
  have hz2:=hb2.size
  by_cases hlt:j<nodes.length
  ·have hjl:j<l.length:=by have:=HLL.out;omega
   obtain ⟨b,off,rfl,hbB,hcell⟩:=HNF.out (by omega)
   have hW2:Below w.heap.size w w2:=hbw1.trans (hb2.mono hbw1.size)
   have hcl:=fun (jj:Nat) (u:Value) (hu:(ndCells l[j])[jj]?=some u)=>(World.cell?_of_block (a:=⟨b,off+j * 3+jj,none⟩) ((halk.2 b (by have:=hbw1.size;show b<w1.heap.size;omega) (by have:=hbw1.size;omega)).trans (hW2.block b hbB))).trans (hcell j jj u hjl hu)
   have hx0:=hcl 0 _ rfl
   have hx1:=hcl 1 _ rfl
   have hx2:=hcl 2 _ rfl
   have hiw:IntsAt wr l[j].2 l[j].1.kids:=((H5.out l[j] (List.getElem_mem hjl)).1.ki (Ki.below hW2)).ki hki
   have hnj:nodes[j]=l[j].1:=by have:=H3.out;subst this;simp
   have hkj:=hkl nodes[j] (List.getElem_mem hlt)
   have hsn:nodes.take (j+1)=nodes.take j++[l[j].1]:=by rw [List.take_succ_eq_append_getElem hlt,hnj]
   rw [hnj] at hkj
   generalize l[j]=pr at hx0 hx1 hx2 hiw hkj hsn
   obtain ⟨⟨kind,tok,ks⟩,kv⟩:=pr
   simp only [Nat.add_zero] at hx0 hx1 hx2 hiw hkj hsn
   have HS:=Lib.hid hsn
   have HIW:=Lib.hid hiw
   obtain ⟨ak,ck,rfl⟩:=hiw.slice
   have hjI:(j:Int)<(nodes.length:Int):=by omega
   clear hcell hcl hnj hsn hiw
   go_wp2_with (go_at_call 137;refine (clone_ints _ ks _ (HIW.out.ki (Ki.below (below_new wr _))) (by omega)).mono ?_)
   rintro e w4 ⟨v5,rfl,hkR,hb4⟩
   have hk5:=(hkR [] (fun r hr=>by cases hr)).1
   obtain ⟨a5,c6,rfl⟩:=hk5.slice
   have N4:=(hb4.block wr.heap.size (by simp)).trans (heap_alloc_new wr (.cells #[.int .i64 kind,.int .i64 tok,.slice ak ks.length ck] 83))
   have n2:w4.cell? ⟨wr.heap.size,2,none⟩=some (.slice ak ks.length ck):=by rw [Lib.cell_of_heap N4];rfl
   have nz:∀ jj,w4.frozen? ⟨wr.heap.size,jj,none⟩=false:=by intro jj;simp [World.frozen?,N4]
   clear hkR hx0 hx1 hx2
   go_upto_region 6 with (fail)
   obtain ⟨l2,hl2,hown2,hk2⟩:=hrow
   have hlj:(nodes.take j).length=j:=by rw [List.length_take];omega
   rw [hlj] at hown2
   obtain ⟨a2,c2,rfl,_⟩:∃ a2 c2,nv2=.slice a2 j c2∧True:=by
    rcases hown2.2 with ⟨hv,hn0⟩|⟨g,cap,cur,hv,_⟩
    ·exact ⟨none,0,by rw [hv,hn0],trivial⟩
    ·exact ⟨_,cap,hv,trivial⟩
   have hne2:some wr.heap.size≠(Value.slice a2 j c2).ownBlock:=fun q=>by have:=(hown2.lt _ q.symm).2;omega
   have hlt1:w1.heap.size<wr.heap.size:=(Array.getElem?_eq_some_iff.1 hT).1
   have hb4':Below wr.heap.size wr w4:=(below_new wr _).trans (hb4.mono (by simp))
   have N5:=heap_setCell_same w4 wr.heap.size 2 _ _ (.slice a5 ks.length c6) N4
   have T5:(w4.setCell ⟨wr.heap.size,2,none⟩ (.slice a5 ks.length c6)).heap[w1.heap.size]?=_:=(heap_setCell_other _ _ _ _ (by show w1.heap.size≠wr.heap.size;omega)).trans ((hb4'.block _ hlt1).trans hT)
   have hown5:=own_set (a:=⟨wr.heap.size,2,none⟩) (own_below hown2 hb4') hne2 (.slice a5 ks.length c6)
   have hks:=Ki.set N4 (by decide) 2 (.slice a5 ks.length c6)
   have hki5:=(hki.trans (Ki.below hb4')).trans hks
   have hkw5:=(Ki.below hb4').trans hks
   have hk5':=hk5.ki hks
   have halk5:Alk (fun b=>b<w1.heap.size) w2 (w4.setCell ⟨wr.heap.size,2,none⟩ (.slice a5 ks.length c6)):=(halk.trans (Alk.of hb4')).trans (Alk.set _ fun b hb=>by show b≠wr.heap.size;omega)
   have hb5:=(hbl.trans (hb4'.mono hbl.size)).setCell (p:=⟨wr.heap.size,2,none⟩) hbl.size (.slice a5 ks.length c6)
   have hs5:w4.heap.size≤(w4.setCell ⟨wr.heap.size,2,none⟩ (.slice a5 ks.length c6)).heap.size:=by simp
   have hs4:=hb4'.size
   clear hown2 hne2 N4 n2 nz hb4 hb4' hk5 hks
   generalize w4.setCell _ _=w5 at N5 T5 hown5 hki5 hkw5 hk5' halk5 hs5 hb5 ⊢
   have t1:w5.cell? ⟨w1.heap.size,1,none⟩=some (.slice a2 j c2):=by rw [Lib.cell_of_heap T5];rfl
   have m0:w5.cell? ⟨wr.heap.size,0,none⟩=some (.int .i64 kind):=by rw [Lib.cell_of_heap N5];rfl
   have m1:w5.cell? ⟨wr.heap.size,1,none⟩=some (.int .i64 tok):=by rw [Lib.cell_of_heap N5];rfl
   have m2:w5.cell? ⟨wr.heap.size,2,none⟩=some (.slice a5 ks.length c6):=by rw [Lib.cell_of_heap N5];rfl
   go_wp2_with (at_builtin;refine wpList_append_own _ rfl _ _ 23 rfl (w1.heap.size+1) 83 j0 (.agg #[.int .i64 0,.int .i64 0,.slice none 0 0]) 3 40 Tryz.underlying23 hj hy0 hy1 hy2 rfl (by decide) _ _ _ rfl (hown5.alloc _) ⟨w5.heap.size,0,none⟩ 1 1 [.int .i64 kind,.int .i64 tok,.slice a5 ks.length c6] rfl rfl ?e1 ?e2 ?e3 ?e4 ?e5 ?_)
   case e1 =>
    intro j' u hj'
    exact World.news_of_block (cs:=#[.int .i64 kind,.int .i64 tok,.slice a5 ks.length c6]) (t:=83) (fr:=(0,0)) (heap_alloc_new w5 _) j' u (by simpa using hj')
   case e2=>simp [Value.oneCell']
   case e3=>unfold maxLen;omega
   case e4=>omega
   case e5=>simp;omega
   intro v' w6 hown6 hgrow6 _
   obtain ⟨gv,cv,rfl,_,_⟩:=hown6.form (by omega)
   have hlt5:=(Array.getElem?_eq_some_iff.1 T5).1
   have T6:=own_block (hown5.alloc _) hgrow6 ((Lib.alloc_old w5 (.cells #[.int .i64 kind,.int .i64 tok,.slice a5 ks.length c6] 83) w1.heap.size hlt5).trans T5) (by decide)
   have k6:Ki w5 w6:=fun k cs fr q=>own_block (hown5.alloc _) hgrow6 ((Lib.alloc_old w5 (.cells #[.int .i64 kind,.int .i64 tok,.slice a5 ks.length c6] 83) k (Array.getElem?_eq_some_iff.1 q).1).trans q) (by decide)
   have a6:Alk (fun b=>b<w1.heap.size) w2 w6:=(halk5.trans (Alk.of (below_new w5 _))).trans (Alk.grown hgrow6 fun b hb q=>by have:=(hown5.lt b q.symm).1;omega)
   have s1:w6.cell? ⟨w1.heap.size,1,none⟩=some (.slice a2 j c2):=by rw [Lib.cell_of_heap T6];rfl
   have sz:∀ jj,w6.frozen? ⟨w1.heap.size,jj,none⟩=false:=by intro jj;simp [World.frozen?,T6]
   have hs7:Ki w6 (w6.setCell ⟨w1.heap.size,1,none⟩ (.slice (some ⟨gv,0,none⟩) (j+1) cv)):=Ki.set T6 (by decide) 1 _
   have T7:=heap_setCell_same w6 w1.heap.size 1 _ _ (.slice (some ⟨gv,0,none⟩) (j+1) cv) T6
   have a7:=a6.trans (Alk.set (a:=⟨w1.heap.size,1,none⟩) (.slice (some ⟨gv,0,none⟩) (j+1) cv) fun b hb=>by show b≠w1.heap.size;omega)
   have o7:=own_set (a:=⟨w1.heap.size,1,none⟩) hown6 (fun q=>by have:=(hown6.lt _ q.symm).1;simp at this;omega) (.slice (some ⟨gv,0,none⟩) (j+1) cv)
   have hlj2:(nodes.take (j+1)).length=j+1:=by rw [List.length_take];omega
   have R7:NRow (w1.heap.size+1) (w6.setCell ⟨w1.heap.size,1,none⟩ (.slice (some ⟨gv,0,none⟩) (j+1) cv)) (.slice (some ⟨gv,0,none⟩) (j+1) cv) (nodes.take (j+1)):=by
    refine ⟨l2++[(⟨kind,tok,ks⟩,.slice a5 ks.length c6)],by rw [List.map_append,hl2,HS.out];rfl,?_,fun p hp=>?_⟩
    ·rw [hlj2,List.flatMap_append]
     exact o7
    ·rcases List.mem_append.1 hp with hp|hp
     ·exact (((hk2 p hp).ki hkw5).ki k6).ki hs7
     ·rw [List.mem_singleton] at hp
      subst hp
      exact (hk5'.ki k6).ki hs7
   have hki7:=((hki5.trans k6).trans hs7)
   have hw1w:=hbw1.size
   have hb7:=((hb5.alloc hb5.size (.cells #[.int .i64 kind,.int .i64 tok,.slice a5 ks.length c6] 83)).grown hgrow6 (by have:=hb5.size;simp;omega) (fun q hq=>by have:=(hown5.lt q hq).1;omega)).setCell (p:=⟨w1.heap.size,1,none⟩) hw1w (.slice (some ⟨gv,0,none⟩) (j+1) cv)
   clear hgrow6 hown6 hown5 t1 m0 m1 m2 o7 hk2 hl2
   go_wp2
   go_roundw
   case rel=>exact ⟨j+1,_,by omega,by go_num,a7,T7,R7,hki7,hb7⟩
   case measure=>simp [intOf];omega
  ·obtain rfl:j=nodes.length:=by omega
   rw [List.take_length] at hrow
   obtain ⟨l2,hl2,hown2,hk2⟩:=hrow
   obtain ⟨a2,c2,rfl,_⟩:∃ a2 c2,nv2=.slice a2 nodes.length c2∧True:=by
    rcases hown2.2 with ⟨hv,hn0⟩|⟨g,cap,cur,hv,_⟩
    ·exact ⟨none,0,by rw [hv,hn0],trivial⟩
    ·exact ⟨_,cap,hv,trivial⟩
   have hl1:=(Array.getElem?_eq_some_iff.1 G0).1
   have Z:=(halk.2 w.heap.size hl1 (by omega)).trans ((hb2.block w.heap.size hl1).trans G0)
   have s0:wr.cell? ⟨w1.heap.size,0,none⟩=some (.slice (some ⟨g,0,none⟩) toks.length c5):=by rw [Lib.cell_of_heap hT];rfl
   have s1:wr.cell? ⟨w1.heap.size,1,none⟩=some (.slice a2 nodes.length c2):=by rw [Lib.cell_of_heap hT];rfl
   have q0:wr.cell? ⟨w.heap.size,0,none⟩=some (.slice none 0 0):=by rw [Lib.cell_of_heap Z];rfl
   have q1:wr.cell? ⟨w.heap.size,1,none⟩=some (.slice none 0 0):=by rw [Lib.cell_of_heap Z];rfl
   have qz:∀ jj,wr.frozen? ⟨w.heap.size,jj,none⟩=false:=by intro jj;simp [World.frozen?,Z]
   have hjI:decide ((nodes.length:Int)<(nodes.length:Int))=false:=decide_eq_false (by omega)
   have hll2:l2.length=nodes.length:=by rw [← hl2,List.length_map]
   have k1:Ki wr (wr.setCell ⟨w.heap.size,0,none⟩ (.slice (some ⟨g,0,none⟩) toks.length c5)):=Ki.set Z (by decide) 0 _
   have Z1:=heap_setCell_same wr w.heap.size 0 _ _ (.slice (some ⟨g,0,none⟩) toks.length c5) Z
   have k2:=Ki.set Z1 (by decide) 1 (.slice a2 nodes.length c2)
   have hgl:=hown.lt g rfl
   simp only [World.size_alloc] at hgl
   have hP3:((wr.setCell ⟨w.heap.size,0,none⟩ (.slice (some ⟨g,0,none⟩) toks.length c5)).setCell ⟨w.heap.size,1,none⟩ (.slice a2 nodes.length c2)).ownsRow _ 80 4 (.slice (some ⟨g,0,none⟩) toks.length c5) toks.length (toks.flatMap tokCells):=own_keep hown fun q hq=>by
    obtain rfl:g=q:=by simpa [Value.ownBlock] using hq
    rw [heap_setCell_other _ _ _ _ (by show g≠w.heap.size;omega),heap_setCell_other _ _ _ _ (by show g≠w.heap.size;omega)]
    exact (halk.2 g hgl.2 (by omega)).trans (hb2.block g hgl.2)
   have hn1:=own_set (a:=⟨w.heap.size,0,none⟩) hown2 (fun q=>by have:=(hown2.lt _ q.symm).1;simp at this;omega) (.slice (some ⟨g,0,none⟩) toks.length c5)
   have hN3:=own_set (a:=⟨w.heap.size,1,none⟩) hn1 (fun q=>by have:=(hn1.lt _ q.symm).1;simp at this;omega) (.slice a2 nodes.length c2)
   have hb9:=(hbl.setCell (p:=⟨w.heap.size,0,none⟩) (Nat.le_refl _) (.slice (some ⟨g,0,none⟩) toks.length c5)).setCell (p:=⟨w.heap.size,1,none⟩) (Nat.le_refl _) (.slice a2 nodes.length c2)
   go_wp2
   refine bodyPost_ret (v:=.agg #[.slice (some ⟨g,0,none⟩) toks.length c5,.slice a2 nodes.length c2]) (by simp [results,Tryz.results84,go_sem,q0,q1]) rfl ⟨_,rfl,⟨_,_,l2,_,_,rfl,hP3,hl2,hN3,fun p hp=>((hk2 p hp).ki k1).ki k2⟩,hb9⟩
end Go.Proofs.YtbodlpoomfefcaaGreatDoor
