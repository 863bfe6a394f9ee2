/- Walks and plain laws: ReadW3, ProgMem, ReadLaws. -/
import Derived.Test.YtemkhbmkaalgdaaGreatDoorQ14
import Derived.Shelf.Abstract
set_option maxHeartbeats 16000000
set_option maxRecDepth 100000
namespace Go.Proofs.YtemkhbmkaalgdaaGreatDoor
open Go.RowKit Go
theorem Tryz.infoExpr:(Tryz.prog.info? 40).map (fun i=>(i.zero,i.size,i.bytes))=some (some (.agg #[.int .i64 0,.string ⟨#[]⟩,.string ⟨#[]⟩,.bool false,.slice none 0 0,.bool false,.slice none 0 0,.int .i64 0]),8,112):=by kernel_rfl
theorem Tryz.entersExpr:∀ args w,(callFunc 31 args).run Tryz.prog w=.ok (.enter 31 args) w:=Go.Proofs.enters_of Tryz.func31 (by kernel_rfl) rfl
def KidsRow (S:Shape)(C e:Nat)(w:World)(kv:Value)(es:List PE):Prop :=
 ∃ l,w.ownsRow C e S.sz kv es.length (rowsE S es l)∧EAtL S (fun b=>C≤b∧some b≠kv.ownBlock) w l es
theorem KidsRow.nil (S:Shape)(C e:Nat)(w:World):KidsRow S C e w (.slice none 0 0) []:=⟨[],World.ownsRow_nil _ _ _ _,by rw [EAtL]⟩
theorem KidsRow.below {S:Shape}{C e:Nat}{w w':World}{kv:Value}{es:List PE}(h:KidsRow S C e w kv es)(hb:Below w.heap.size w w'):KidsRow S C e w' kv es:=by
 obtain ⟨l,h1,h2⟩:=h
 exact ⟨l,own_below h1 hb,h2.frame (Alk.of hb)⟩
theorem KidsRow.set {S:Shape}{C e:Nat}{w:World}{kv:Value}{es:List PE}(h:KidsRow S C e w kv es){a:Addr}(ha:a.block<C)(u:Value):KidsRow S C e (w.setCell a u) kv es:=by
 obtain ⟨l,h1,h2⟩:=h
 refine ⟨l,own_set h1 (fun q=>?_) u,h2.frame (Alk.set u fun b hb=>by have:=hb.1;omega)⟩
 have:=(h1.lt a.block q.symm).1
 omega
theorem KidsRow.snoc {S:Shape}{C e:Nat}{w w':World}{kv kv' m k:Value}{es:List PE}{x:PE}{g H:Nat}{l:List (Value × Value)}(h2:EAtL S (fun b=>C≤b∧some b≠kv.ownBlock) w l es)(hx:EAt S (fun b=>C≤b∧some b≠kv.ownBlock) w m k x)
  (hown:w'.ownsRow C e S.sz kv' (es.length+1) (rowsE S es l++S.cells x m k)) (hgrow:w.grownBy w' kv.ownBlock) (hv:kv'.ownBlock=some g) (hor:kv.ownBlock=some g∨g=H) (hH:w.heap.size≤H):KidsRow S C e w' kv' (es++[x]):=by
 have hll:=h2.len
 have hal:∀ (P:Nat→Prop),(∀ b,P b→some b≠kv.ownBlock)→Alk P w w':=fun P hP=>Alk.grown hgrow hP
 refine ⟨l++[(m,k)],?_,?_⟩
 ·rw [rowsE_snoc S es l x m k hll,List.length_append,List.length_singleton];exact hown
 ·have himp:∀ b,(C≤b∧some b≠kv.ownBlock)→b<w.heap.size→(C≤b∧some b≠kv'.ownBlock):=fun b hb hlt=>by
   refine ⟨hb.1,fun q=>?_⟩
   rw [hv] at q
   simp only [Option.some.injEq] at q
   rcases hor with h|h
   ·exact hb.2 (by rw [h,q])
   ·omega
  exact (((h2.imp (fun b hb hlt=>⟨himp b hb hlt,hb.2⟩)).frame (hal (fun b=>(C≤b∧some b≠kv'.ownBlock)∧some b≠kv.ownBlock) fun b hb=>hb.2)).imp fun b hb _=>hb.1).snoc
   (((hx.imp (fun b hb hlt=>⟨himp b hb hlt,hb.2⟩)).frame (hal (fun b=>(C≤b∧some b≠kv'.ownBlock)∧some b≠kv.ownBlock) fun b hb=>hb.2)).imp fun b hb _=>hb.1)
theorem Alk.drew (P:Nat→Prop)(w:World):Alk P w w.drew:=⟨Nat.le_refl _,fun _ _ _=>rfl⟩
theorem made_round {S:Shape}{e be:Nat}{w1 wr W2 w5:World}{o:Obj}{kv kv5 m k:Value}{acc:List PE}{x:PE}{l:List (Value × Value)}{gg:Nat}(halk:Alk (fun b=>b<w1.heap.size∧b≠be) w1 wr)(hbe:be<w1.heap.size)
  (hown:wr.ownsRow w1.heap.size e S.sz kv acc.length (rowsE S acc l)) (hes:EAtL S (fun b=>w1.heap.size≤b∧some b≠kv.ownBlock) wr l acc) (hx:EAt S (fun b=>wr.heap.size≤b) W2 m k x) (hb2:Below wr.heap.size wr W2)
  (hown5:w5.ownsRow w1.heap.size e S.sz kv5 (acc.length+1) (rowsE S acc l++S.cells x m k)) (hgrow:(W2.alloc o).grownBy w5 kv.ownBlock) (hv5:kv5.ownBlock=some gg) (hat:kv.ownBlock=some gg∨gg=W2.heap.size+1) (off:Nat) (u:Value) :
  KidsRow S w1.heap.size e (w5.setCell ⟨be,off,none⟩ u) kv5 (acc++[x])∧Alk (fun b=>b<w1.heap.size∧b≠be) w1 (w5.setCell ⟨be,off,none⟩ u)∧∀ (B:Nat) (w0:World),B≤be→Below B w0 wr→Below B w0 (w5.setCell ⟨be,off,none⟩ u):=by
 have hz1:=halk.1
 have hz2:=hb2.size
 have hb3:Below wr.heap.size wr (W2.alloc o):=hb2.alloc hz2 _
 have hlt:∀ b,some b=kv.ownBlock→w1.heap.size≤b∧b<wr.heap.size:=fun b q=>⟨(hown.lt b q.symm).1,(hown.lt b q.symm).2⟩
 have hx2:EAt S (fun b=>w1.heap.size≤b∧some b≠kv.ownBlock) (W2.alloc o) m k x :=
  (hx.imp (Q:=fun b=>w1.heap.size≤b∧some b≠kv.ownBlock) fun b hb _=>⟨by omega,fun q=>by have:=(hlt b q).2;omega⟩).frame ⟨by simp,fun b _ hb=>Lib.alloc_old _ _ _ hb⟩
 have hrow:=KidsRow.snoc (hes.frame (Alk.of hb3)) hx2 hown5 hgrow hv5 hat (by simp)
 refine ⟨hrow.set hbe u,?_,fun B w0 hB hb0=>?_⟩
 ·refine ((halk.trans (Alk.ofB hb3 fun b hb=>by omega)).trans (Alk.grown hgrow fun b hb q=>?_)).trans (Alk.set u fun b hb=>hb.2)
  have:=(hlt b q).1
  omega
 ·have hsz:=hb0.size
  exact ((hb0.trans (hb3.mono (by omega))).grown hgrow (by simp;omega) (fun b q=>by have:=(hlt b q.symm).1;omega)).setCell hB _
def EPostA (x:PE)(w:World)(e:Ending)(w':World):Prop :=
 ∃ am wn cm ae ce,e=.returned (.agg #[.int .i64 x.op,strV x.name,strV x.module,.bool (decide (x.num<0)),.slice am wn cm,.bool x.yes,.slice ae x.kids.length ce,.int .i64 x.at_]) ∧
  EAt XA (fun b=>w.heap.size≤b) w' (.slice am wn cm) (.slice ae x.kids.length ce) x∧Below w.heap.size w w'
theorem EAt.slicesA {P:Nat→Prop}{w:World}{m k:Value}{x:PE}(h:EAt XA P w m k x):∃ am wn cm ae ce,m=.slice am wn cm∧k=.slice ae x.kids.length ce:=by
 obtain ⟨hnum,ae,ce,rfl,_,_⟩:=h.form
 obtain ⟨ws,hws,_⟩:=(hnum:NumAt _ _ _ _)
 obtain ⟨am,cm,rfl⟩:=hws.form
 exact ⟨am,_,cm,ae,ce,rfl,rfl⟩
theorem EPost.a {x:PE}{w w':World}{e:Ending}(h:EPost XA x w e w'):EPostA x w e w':=by
 obtain ⟨m,k,rfl,h1,h2⟩:=h
 obtain ⟨am,wn,cm,ae,ce,rfl,rfl⟩:=h1.slicesA
 exact ⟨am,wn,cm,ae,ce,rfl,h1,h2⟩
def exprCells (op at_:Nat)(kv:Value):Array Value:=#[.int .i64 op,.string ⟨#[]⟩,.string ⟨#[]⟩,.bool false,.slice none 0 0,.bool false,kv,.int .i64 at_]
theorem exprCells_free {w:World}{b op at_:Nat}{kv:Value}(h:w.heap[b]?=some (.cells (exprCells op at_ kv) 40 (0,0)))(j:Nat):w.frozen? ⟨b,j,none⟩=false:=by simp [World.frozen?,h]
theorem exprCells_kids {w:World}{b op at_:Nat}{kv:Value}(h:w.heap[b]?=some (.cells (exprCells op at_ kv) 40 (0,0))):w.cell? ⟨b,6,none⟩=some kv:=by rw [Lib.cell_of_heap h];rfl
theorem rmade_any (B:Nat)(tv nv:Value)(toks:List Tok)(nodes:List Nd)(i op at_:Nat)(w:World)(h:TreeAt B w (.agg #[tv,nv]) toks nodes)(hB:B≤w.heap.size)(hi:i<nodes.length)
  (hk:∀ k∈nodes[i].kids,0≤k∧k<(nodes.length:Int)) (hl:nodes[i].kids.length≤1000000000) (pes:List PE) (hp:pes.length=(partsF nodes nodes[i].kids).length)
  (hE:∀ (j:Nat) (h1:j<pes.length) (h2:j<(partsF nodes nodes[i].kids).length) (W:World),TreeAt B W (.agg #[tv,nv]) toks nodes→B≤W.heap.size→Calls Tryz.prog 31 #[.agg #[tv,nv],.int .i64 (partsF nodes nodes[i].kids)[j]] W (EPost XA pes[j] W)) :
  Calls Tryz.prog 51 #[.agg #[tv,nv],.int .i64 op,.int .i64 at_,.int .i64 i] w (EPost XA (.mk op [] [] 0 [] false pes at_) w):=by
 obtain ⟨i0,hinf,hz0,hz1,hz2⟩:=info_parts Tryz.infoExpr
 have hlen:(partsF nodes nodes[i].kids).length≤1000000000:=Nat.le_trans (List.length_filter_le _ _) hl
 have HP:=Lib.hid (fun W hW hBW=>rparts_any B tv nv toks nodes i W hW hBW hi hk (Nat.le_trans hl (by decide)))
 have HT:=Lib.hid h
 have HE:=Lib.hid hE
 obtain ⟨a1,c1,a2,c2,e⟩:=h.slices
 obtain ⟨rfl,rfl⟩:tv=.slice a1 toks.length c1∧nv=.slice a2 nodes.length c2:=by simpa using e
 generalize partsF nodes nodes[i].kids=ps at hp hlen HP HE
 have HLP:=Lib.hid hp
 have ent:=Tryz.entersExpr
 clear hk hE h e hp hl hi
 have hb3:Below w.heap.size w (((w.alloc (.cells #[.slice a1 toks.length c1,.slice a2 nodes.length c2] 88)).alloc (.cells #[.int .i64 0,.string ⟨#[]⟩,.string ⟨#[]⟩,.bool false,.slice none 0 0,.bool false,.slice none 0 0,.int .i64 0] 40)).alloc (.cells (exprCells op at_ (.slice none 0 0)) 40)):=(((Below.refl _ _).alloc (Nat.le_refl _) _).alloc (by simp) _).alloc (by simp;omega) _
 have hnr:=heap_alloc_new w (.cells #[.slice a1 toks.length c1,.slice a2 nodes.length c2] 88)
 have hne:=heap_alloc_new (w.alloc (.cells #[.slice a1 toks.length c1,.slice a2 nodes.length c2] 88)) (.cells #[.int .i64 0,.string ⟨#[]⟩,.string ⟨#[]⟩,.bool false,.slice none 0 0,.bool false,.slice none 0 0,.int .i64 0] 40)
 have hne2:=heap_alloc_new ((w.alloc (.cells #[.slice a1 toks.length c1,.slice a2 nodes.length c2] 88)).alloc (.cells #[.int .i64 0,.string ⟨#[]⟩,.string ⟨#[]⟩,.bool false,.slice none 0 0,.bool false,.slice none 0 0,.int .i64 0] 40)) (.cells (exprCells op at_ (.slice none 0 0)) 40)
 go_enter Tryz.func51,Tryz.ntmps51
 go_wp2_with (go_at_call 72;refine (HP.out _ ?c1 ?c2).mono ?_)
 case c1=>exact HT.out.below (hb3.mono hB)
 case c2=>simp;omega
 rintro e w1 ⟨v,rfl,hints,hb1⟩
 have hw1s:=hb1.size
 simp only [World.size_alloc] at hw1s
 rw [World.size_alloc] at hne
 rw [World.size_alloc,World.size_alloc] at hne2
 have hq0:w1.heap[w.heap.size]?=some (.cells #[.slice a1 toks.length c1,.slice a2 nodes.length c2] 88 (0,0)):=(hb1.block w.heap.size (by simp;omega)).trans ((Lib.alloc_old _ _ _ (by simp;omega)).trans ((Lib.alloc_old _ _ _ (by simp)).trans hnr))
 have hq1:w1.heap[w.heap.size+1]?=some (.cells #[.int .i64 0,.string ⟨#[]⟩,.string ⟨#[]⟩,.bool false,.slice none 0 0,.bool false,.slice none 0 0,.int .i64 0] 40 (0,0)):=(hb1.block (w.heap.size+1) (by simp)).trans ((Lib.alloc_old _ _ _ (by simp)).trans hne)
 have hq2:w1.heap[w.heap.size+1+1]?=some (.cells (exprCells op at_ (.slice none 0 0)) 40 (0,0)):=(hb1.block (w.heap.size+1+1) (by simp)).trans hne2
 have hbw1:Below w.heap.size w w1:=hb3.trans (hb1.mono (by simp;omega))
 obtain ⟨ap,cp,rfl,_,hpf⟩:=hints.ints
 simp only [World.size_alloc] at hpf
 have HF:=Lib.hid hpf
 clear hpf hints hnr hne hne2 hb1 hb3
 go_wp2
 go_loopw [19] (fun q wr=>∃ (j:Nat) (kv:Value),j≤ps.length∧q=.int .i64 j∧Alk (fun b=>b<w1.heap.size∧b≠w.heap.size+1+1) w1 wr∧wr.heap[w.heap.size+1+1]?=some (.cells (exprCells op at_ kv) 40 (0,0))∧KidsRow XA w1.heap.size 40 wr kv (pes.take j)∧Below w.heap.size w wr) (fun q _=>ps.length - (intOf q).toNat)
 case atStart=>exact ⟨0,.slice none 0 0,Nat.zero_le _,rfl,Alk.refl _ _,hq2,KidsRow.nil _ _ _ _,hbw1⟩
 case round =>
  obtain ⟨j,kv,hj,rfl,halk,hbe,hrow,hbl⟩:=hrel
  have hsz:=halk.1
  have hr0:=(halk.2 w.heap.size ⟨by omega,by omega⟩ (by omega)).trans hq0
  have hr1:=(halk.2 (w.heap.size+1) ⟨by omega,by omega⟩ (by omega)).trans hq1
  by_cases hjl:j<ps.length
  ·have hjp:j<pes.length:=by have:=HLP.out;omega
   obtain ⟨bp,op',rfl,hbp1,hbp2,hcell⟩:=HF.out (by omega)
   have hx:=(World.cell?_of_block (a:=⟨bp,op'+j,none⟩) (halk.2 bp ⟨hbp2,by omega⟩ hbp2)).trans (hcell j hjl)
   have hC:=HE.out j hjp hjl wr.drew (HT.out.below ((hbl.mono hB).drew)) (by have:=hbl.size;show B≤wr.heap.size;omega)
   have hsn:pes.take (j+1)=pes.take j++[pes[j]]:=List.take_succ_eq_append_getElem hjp
   have hpl:(pes.take j).length=j:=by rw [List.length_take];omega
   have hjI:(j:Int)<(ps.length:Int):=by omega
   generalize ps[j]=q at hx hC
   generalize pes[j]=x at hC hsn
   generalize pes.take j=acc at hrow hsn hpl
   obtain ⟨l,hown,hes⟩:=hrow
   rw [hpl] at hown
   have HL:=Lib.hid hpl
   have HS:=Lib.hid hsn
   clear hpl hsn hcell
   obtain ⟨ak,ck,rfl,_⟩:∃ ak ck,kv=.slice ak j ck∧True:=by
    rcases hown.2 with ⟨hv,hn0⟩|⟨g,cap,cur,hv,_⟩
    ·exact ⟨none,0,by rw [hv,hn0],trivial⟩
    ·exact ⟨_,cap,hv,trivial⟩
   have HC:=Lib.hid (hC.mono fun _ _ h=>h.a)
   have r0:wr.cell? ⟨w.heap.size,0,none⟩=some (.slice a1 toks.length c1):=by rw [Lib.cell_of_heap hr0];rfl
   have r1:wr.cell? ⟨w.heap.size,1,none⟩=some (.slice a2 nodes.length c2):=by rw [Lib.cell_of_heap hr0];rfl
   have r6:wr.cell? ⟨w.heap.size+1+1,6,none⟩=some (.slice ak j ck):=by rw [Lib.cell_of_heap hbe];rfl
   clear hC
   go_wp2
   have hce:=hbe
   have hlt:=(Array.getElem?_eq_some_iff.1 hbe).1
   have hCw:w1.heap.size≤wr.heap.size:=hsz
   have hne6:some (w.heap.size+1+1)≠(Value.slice ak j ck).ownBlock:=fun q=>by have:=(hown.lt _ q.symm).1;omega
   go_region_law ((first
    | (refine step_append_lies _ (by rfl) _ _ _ (by rfl) w1.heap.size 40 i0 _ 8 112 Tryz.underlying38 hinf hz0 hz1 hz2 rfl (by omega) (.slice ak j ck) j _ (by rfl) ((own_below (owns_drew hown) hb2).alloc _) ⟨W2.heap.size,0,none⟩ 1 1 [.int .i64 x.op,strV x.name,strV x.module,.bool (decide (x.num<0)),.slice am wn cm,.bool x.yes,.slice ae x.kids.length ce,.int .i64 x.at_] (by rfl) (by rfl) (World.news_of_block (cs:=#[.int .i64 x.op,strV x.name,strV x.module,.bool (decide (x.num<0)),.slice am wn cm,.bool x.yes,.slice ae x.kids.length ce,.int .i64 x.at_]) (t:=40) (fr:=(0,0)) (heap_alloc_new W2 _)) (by simp [Value.oneCell',strV]) (by omega) (by unfold maxLen;omega) (by omega) (by have:=hb2.size;simp at this ⊢;omega) (W2.heap.size+1) (by simp) ?_;intro gg cap5 w5 hown5 hgrow5 hat5 hlt5;have hbe5:=(hgrow5.block (w.heap.size+1+1) (by have:=hb2.size;simp at this ⊢;omega) hne6).trans ((Lib.alloc_old W2 _ (w.heap.size+1+1) (by have:=hb2.size;simp at this;omega)).trans hbe2);have r65:=exprCells_kids hbe5;have z65:=exprCells_free hbe5 6)
    | (refine step_call rfl 31 _ _ rfl HC.out (by rfl) (ent _ _) ?_;rintro e W2 ⟨am,wn,cm,ae,ce,rfl,hxe,hb2⟩;refine ⟨_,rfl,?_⟩;have hbe2:=(hb2.block (w.heap.size+1+1) hlt).trans hce;have r62:=exprCells_kids hbe2;have r63:=fun o=>Lib.cell?_alloc_some o r62)))
   all_goals
    have hlen:=HL.out
    obtain ⟨q1,q2,q3⟩:=made_round (S:=XA) (wr:=wr.drew) (kv:=.slice ak j ck) (kv5:=.slice (some ⟨gg,0,none⟩) (j+1) cap5) (acc:=acc) (x:=x) (l:=l) (show Alk _ w1 wr.drew from halk) (show w.heap.size+1+1<w1.heap.size by omega) (by rw [hlen];exact hown) (hes.frame (Alk.drew _ wr)) hxe hb2 (by rw [hlen];exact hown5) hgrow5 rfl hat5 6 (.slice (some ⟨gg,0,none⟩) (j+1) cap5)
    have hbe6:(w5.setCell ⟨w.heap.size+1+1,6,none⟩ (.slice (some ⟨gg,0,none⟩) (j+1) cap5)).heap[w.heap.size+1+1]?=some (.cells (exprCells op at_ (.slice (some ⟨gg,0,none⟩) (j+1) cap5)) 40 (0,0)):=by
     rw [heap_setCell_same w5 _ 6 _ _ _ hbe5];rfl
    have hbl6:=q3 w.heap.size w (by omega) hbl.drew
    clear hgrow5 hown5 hat5 hbe5 r65 z65 hbe2 r62 r63 hxe hb2 HC hes hown halk hbe hce r0 r1 r6 hx
    generalize w5.setCell _ _=w6 at q1 q2 hbe6 hbl6 ⊢
    go_wp2
    go_roundw
    case rel=>exact ⟨j+1,_,by omega,by go_num,q2,hbe6,by rw [HS.out];exact q1,hbl6⟩
    case measure=>simp [intOf];omega
  ·have:j=ps.length:=by omega
   subst this
   have hjI:decide ((ps.length:Int)<(ps.length:Int))=false:=decide_eq_false (by omega)
   rw [← HLP.out,List.take_length] at hrow
   obtain ⟨l,hown,hes⟩:=hrow
   obtain ⟨ak,ck,rfl,_⟩:∃ ak ck,kv=.slice ak pes.length ck∧True:=by
    rcases hown.2 with ⟨hv,hn0⟩|⟨g,cap,cur,hv,_⟩
    ·exact ⟨none,0,by rw [hv,hn0],trivial⟩
    ·exact ⟨_,cap,hv,trivial⟩
   have c0:wr.cell? ⟨w.heap.size+1+1,0,none⟩=some (.int .i64 op):=by rw [Lib.cell_of_heap hbe];rfl
   have c1':wr.cell? ⟨w.heap.size+1+1,1,none⟩=some (.string ⟨#[]⟩):=by rw [Lib.cell_of_heap hbe];rfl
   have c2':wr.cell? ⟨w.heap.size+1+1,2,none⟩=some (.string ⟨#[]⟩):=by rw [Lib.cell_of_heap hbe];rfl
   have c3:wr.cell? ⟨w.heap.size+1+1,3,none⟩=some (.bool false):=by rw [Lib.cell_of_heap hbe];rfl
   have c4:wr.cell? ⟨w.heap.size+1+1,4,none⟩=some (.slice none 0 0):=by rw [Lib.cell_of_heap hbe];rfl
   have c5:wr.cell? ⟨w.heap.size+1+1,5,none⟩=some (.bool false):=by rw [Lib.cell_of_heap hbe];rfl
   have c6:wr.cell? ⟨w.heap.size+1+1,6,none⟩=some (.slice ak pes.length ck):=by rw [Lib.cell_of_heap hbe];rfl
   have c7:wr.cell? ⟨w.heap.size+1+1,7,none⟩=some (.int .i64 at_):=by rw [Lib.cell_of_heap hbe];rfl
   have d0:wr.cell? ⟨w.heap.size+1,0,none⟩=some (.int .i64 0):=by rw [Lib.cell_of_heap hr1];rfl
   have d1:wr.cell? ⟨w.heap.size+1,1,none⟩=some (.string ⟨#[]⟩):=by rw [Lib.cell_of_heap hr1];rfl
   have d2:wr.cell? ⟨w.heap.size+1,2,none⟩=some (.string ⟨#[]⟩):=by rw [Lib.cell_of_heap hr1];rfl
   have d3:wr.cell? ⟨w.heap.size+1,3,none⟩=some (.bool false):=by rw [Lib.cell_of_heap hr1];rfl
   have d4:wr.cell? ⟨w.heap.size+1,4,none⟩=some (.slice none 0 0):=by rw [Lib.cell_of_heap hr1];rfl
   have d5:wr.cell? ⟨w.heap.size+1,5,none⟩=some (.bool false):=by rw [Lib.cell_of_heap hr1];rfl
   have d6:wr.cell? ⟨w.heap.size+1,6,none⟩=some (.slice none 0 0):=by rw [Lib.cell_of_heap hr1];rfl
   have d7:wr.cell? ⟨w.heap.size+1,7,none⟩=some (.int .i64 0):=by rw [Lib.cell_of_heap hr1];rfl
   have z0:∀ j,wr.frozen? ⟨w.heap.size+1,j,none⟩=false:=by intro j;simp [World.frozen?,hr1]
   have hE0:EAt XA (fun b=>w1.heap.size≤b) wr (.slice none 0 0) (.slice ak pes.length ck) (.mk op [] [] 0 [] false pes at_):=by
    rw [EAt]
    exact ⟨NumAt.zero _ _,l,SlP.ofOwns hown fun b hb=>hb,hes.imp fun b hb _=>hb.1⟩
   clear hown hes hbe hr0 hr1
   go_wp2
   refine bodyPost_ret (v:=.agg #[.int .i64 op,.string ⟨#[]⟩,.string ⟨#[]⟩,.bool false,.slice none 0 0,.bool false,.slice ak pes.length ck,.int .i64 at_]) (by simp [results,Tryz.results51,go_sem,d0,d1,d2,d3,d4,d5,d6,d7]) rfl ⟨.slice none 0 0,.slice ak pes.length ck,rfl,?_,?_⟩
   ·have hs:∀ (W:World) (j:Nat) (u:Value),Alk (fun b=>w1.heap.size≤b) W (W.setCell ⟨w.heap.size+1,j,none⟩ u):=fun W j u=>Alk.set u fun b hb=>by show b≠w.heap.size+1;omega
    refine (hE0.frame ?_).imp (fun b hb _=>by omega)
    exact (((((((hs _ _ _).trans (hs _ _ _)).trans (hs _ _ _)).trans (hs _ _ _)).trans (hs _ _ _)).trans (hs _ _ _)).trans (hs _ _ _)).trans (hs _ _ _)
   ·exact ((((((((hbl).setCell (by simp) _).setCell (by simp) _).setCell (by simp) _).setCell (by simp) _).setCell (by simp) _).setCell (by simp) _).setCell (by simp) _).setCell (by simp) _
end Go.Proofs.YtemkhbmkaalgdaaGreatDoor

namespace Go.Proofs.YtemkhbmkaalgdaaGreatDoor
open Go.RowKit
structure RK (α β:Type) where
 sz:Nat
 cells:α→β→List Value
 inn:(Nat→Prop)→World→α→β→Prop
 len:∀ a b,(cells a b).length=sz
 frame:∀ {P:Nat→Prop} {w w':World} {a:α} {b:β},inn P w a b→Alk P w w'→inn P w' a b
 imp:∀ {P Q:Nat→Prop} {w:World} {a:α} {b:β},inn P w a b→(∀ k,P k→k<w.heap.size→Q k)→inn Q w a b
section
variable {α β:Type}
def RK.flat (K:RK α β)(l:List (α × β)):List Value:=l.flatMap fun p=>K.cells p.1 p.2
theorem RK.flat_len (K:RK α β):∀ l:List (α × β),(K.flat l).length=l.length * K.sz
 | []=>by simp [RK.flat]
 | p :: l=>by
  have:=RK.flat_len K l
  unfold RK.flat at this ⊢
  rw [List.flatMap_cons,List.length_append,K.len,this,List.length_cons,Nat.succ_mul,Nat.add_comm]
theorem RK.flat_snoc (K:RK α β)(l:List (α × β))(p:α × β):K.flat (l++[p])=K.flat l++K.cells p.1 p.2:=by
 unfold RK.flat
 rw [List.flatMap_append,List.flatMap_singleton]
theorem RK.flat_at (K:RK α β):∀ (l:List (α × β)) (i j:Nat) (h:i<l.length),j<K.sz→(K.flat l)[i * K.sz+j]?=(K.cells l[i].1 l[i].2)[j]?
 | [],i,j,h,_=>absurd h (by simp)
 | p :: l,0,j,_,hj=>by
  unfold RK.flat
  rw [List.flatMap_cons,List.getElem?_append_left (by rw [K.len];omega)]
  simp
 | p :: l,i+1,j,h,hj=>by
  have:=RK.flat_at K l i j (by simpa using h) hj
  unfold RK.flat at this ⊢
  rw [List.flatMap_cons,List.getElem?_append_right (by rw [K.len,Nat.succ_mul];omega),K.len,show (i+1) * K.sz+j - K.sz=i * K.sz+j by rw [Nat.succ_mul];omega,this]
  simp
def RowK (K:RK α β)(P:Nat→Prop)(w:World)(v:Value)(zs:List α):Prop :=
 ∃ l:List (α × β),l.map Prod.fst=zs∧SlP P w v K.sz zs.length (K.flat l)∧∀ p∈l,K.inn P w p.1 p.2
theorem RowK.frame {K:RK α β}{P:Nat→Prop}{w w':World}{v:Value}{zs:List α}(h:RowK K P w v zs)(ha:Alk P w w'):RowK K P w' v zs:=by
 obtain ⟨l,h1,h2,h3⟩:=h
 exact ⟨l,h1,h2.frame ha,fun p hp=>K.frame (h3 p hp) ha⟩
theorem RowK.imp {K:RK α β}{P Q:Nat→Prop}{w:World}{v:Value}{zs:List α}(h:RowK K P w v zs)(hq:∀ b,P b→b<w.heap.size→Q b):RowK K Q w v zs:=by
 obtain ⟨l,h1,h2,h3⟩:=h
 exact ⟨l,h1,h2.imp hq,fun p hp=>K.imp (h3 p hp) hq⟩
theorem RowK.nil (K:RK α β)(P:Nat→Prop)(w:World):RowK K P w (.slice none 0 0) []:=⟨[],rfl,SlP.nil P w K.sz,fun p hp=>by cases hp⟩
theorem RowK.slice {K:RK α β}{P:Nat→Prop}{w:World}{v:Value}{zs:List α}(h:RowK K P w v zs):∃ ao cap,v=.slice ao zs.length cap:=by
 obtain ⟨l,h1,h2,h3⟩:=h
 exact h2.form
theorem RowK.form {K:RK α β}{P:Nat→Prop}{w:World}{v:Value}{zs:List α}(h:RowK K P w v zs):∃ ao cap,v=.slice ao zs.length cap∧zs.length≤cap ∧
  (0<zs.length→∃ b off,ao=some ⟨b,off,none⟩∧P b∧b<w.heap.size∧∀ i,(hi:i<zs.length)→∃ x,K.inn P w zs[i] x∧∀ j u,(K.cells zs[i] x)[j]?=some u→w.cell? ⟨b,off+i * K.sz+j,none⟩=some u):=by
 obtain ⟨l,rfl,⟨ao,cap,hv,hn,hl,hc⟩,h3⟩:=h
 refine ⟨ao,cap,hv,hn,fun h0=>?_⟩
 obtain ⟨b,off,ha,hP,hlt,hcell⟩:=hc h0
 refine ⟨b,off,ha,hP,hlt,fun i hi=>?_⟩
 rw [List.length_map] at hi
 rw [List.getElem_map]
 refine ⟨_,h3 _ (List.getElem_mem hi),fun j u hu=>?_⟩
 have hj:j<K.sz:=by
  rcases Nat.lt_or_ge j K.sz with h'|h'
  ·exact h'
  ·rw [List.getElem?_eq_none (by rw [K.len];exact h')] at hu;cases hu
 have hu':=(K.flat_at l i j hi hj).trans hu
 obtain ⟨h',e⟩:=List.getElem?_eq_some_iff.1 hu'
 have:=hcell (i * K.sz+j) h'
 rw [e] at this
 rw [Nat.add_assoc]
 exact this
def OwnK (K:RK α β)(C e:Nat)(w:World)(v:Value)(zs:List α):Prop :=
 ∃ l:List (α × β),l.map Prod.fst=zs∧w.ownsRow C e K.sz v zs.length (K.flat l)∧∀ p∈l,K.inn (fun b=>C≤b∧some b≠v.ownBlock) w p.1 p.2
theorem OwnK.nil (K:RK α β)(C e:Nat)(w:World):OwnK K C e w (.slice none 0 0) []:=⟨[],rfl,World.ownsRow_nil _ _ _ _,fun p hp=>by cases hp⟩
theorem OwnK.below {K:RK α β}{C e:Nat}{w w':World}{v:Value}{zs:List α}(h:OwnK K C e w v zs)(hb:Below w.heap.size w w'):OwnK K C e w' v zs:=by
 obtain ⟨l,h1,h2,h3⟩:=h
 exact ⟨l,h1,own_below h2 hb,fun p hp=>K.frame (h3 p hp) (Alk.of hb)⟩
theorem OwnK.set {K:RK α β}{C e:Nat}{w:World}{v:Value}{zs:List α}(h:OwnK K C e w v zs){a:Addr}(ha:a.block<C)(u:Value):OwnK K C e (w.setCell a u) v zs:=by
 obtain ⟨l,h1,h2,h3⟩:=h
 refine ⟨l,h1,own_set h2 (fun q=>?_) u,fun p hp=>K.frame (h3 p hp) (Alk.set u fun b hb=>by have:=hb.1;omega)⟩
 have:=(h2.lt a.block q.symm).1
 omega
theorem OwnK.drew {K:RK α β}{C e:Nat}{w:World}{v:Value}{zs:List α}(h:OwnK K C e w v zs):OwnK K C e w.drew v zs:=h.below ((Below.refl _ _).drew)
theorem OwnK.row {K:RK α β}{C e:Nat}{w:World}{v:Value}{zs:List α}(h:OwnK K C e w v zs):RowK K (fun b=>C≤b) w v zs:=by
 obtain ⟨l,h1,h2,h3⟩:=h
 exact ⟨l,h1,SlP.ofOwns h2 fun b hb=>hb,fun p hp=>K.imp (h3 p hp) fun b hb _=>hb.1⟩
theorem OwnK.slice {K:RK α β}{C e:Nat}{w:World}{v:Value}{zs:List α}(h:OwnK K C e w v zs):∃ ao cap,v=.slice ao zs.length cap:=h.row.slice
theorem OwnK.snoc {K:RK α β}{C e:Nat}{w w':World}{kv kv':Value}{zs:List α}{a:α}{x:β}{g H:Nat}{l:List (α × β)}(h1:l.map Prod.fst=zs)(h2:∀ p∈l,K.inn (fun b=>C≤b∧some b≠kv.ownBlock) w p.1 p.2)(hx:K.inn (fun b=>C≤b∧some b≠kv.ownBlock) w a x)
  (hown:w'.ownsRow C e K.sz kv' (zs.length+1) (K.flat l++K.cells a x)) (hgrow:w.grownBy w' kv.ownBlock) (hv:kv'.ownBlock=some g) (hor:kv.ownBlock=some g∨g=H) (hH:w.heap.size≤H):OwnK K C e w' kv' (zs++[a]):=by
 have himp:∀ b,(C≤b∧some b≠kv.ownBlock)→b<w.heap.size→((C≤b∧some b≠kv'.ownBlock)∧some b≠kv.ownBlock):=fun b hb hlt=>by
  refine ⟨⟨hb.1,fun q=>?_⟩,hb.2⟩
  rw [hv] at q
  simp only [Option.some.injEq] at q
  rcases hor with h|h
  ·exact hb.2 (by rw [h,q])
  ·omega
 have hall:∀ {a:α} {x:β},K.inn (fun b=>C≤b∧some b≠kv.ownBlock) w a x→K.inn (fun b=>C≤b∧some b≠kv'.ownBlock) w' a x:=fun h =>
  K.imp (K.frame (K.imp h himp) (Alk.grown hgrow fun b hb=>hb.2)) fun b hb _=>hb.1
 refine ⟨l++[(a,x)],by rw [List.map_append,h1];rfl,?_,fun p hp=>?_⟩
 ·rw [K.flat_snoc,List.length_append,List.length_singleton];exact hown
 ·rcases List.mem_append.1 hp with hp|hp
  ·exact hall (h2 p hp)
  ·rw [List.mem_singleton] at hp
   subst hp
   exact hall hx
end
def EK (S:Shape):RK PE (Value × Value) where
 sz:=S.sz
 cells e p:=S.cells e p.1 p.2
 inn P w e p:=EAt S P w p.1 p.2 e
 len e p:=S.len e p.1 p.2
 frame h ha:=h.frame ha
 imp h hq:=h.imp hq
def FK (S:Shape):RK FF Value where
 sz:=5
 cells f cv:=[strV f.name,.int .i64 f.base,cv,.int .i64 f.at_,.int .i64 f.bare]
 inn P w f cv:=RowK (EK S) P w cv f.clause
 len _ _:=rfl
 frame h ha:=h.frame ha
 imp h hq:=h.imp hq
structure DV where
 pv:Value
 cv:Value
 m:Value
 k:Value
def DA:RK DD DV where
 sz:=15
 cells d x:=[.bool d.pub,strV d.res.name,x.pv,.int .i64 d.res.base,x.cv,.int .i64 d.body.op,strV d.body.name,strV d.body.module,.bool (decide (d.body.num<0)),x.m,.bool d.body.yes,x.k,.int .i64 d.body.at_,.int .i64 d.res.at_,.int .i64 d.res.bare]
 inn P w d x:=RowK (FK XA) P w x.pv d.params∧RowK (EK XA) P w x.cv d.res.clause∧EAt XA P w x.m x.k d.body
 len _ _:=rfl
 frame h ha:=⟨h.1.frame ha,h.2.1.frame ha,h.2.2.frame ha⟩
 imp h hq:=⟨h.1.imp hq,h.2.1.imp hq,h.2.2.imp hq⟩
def DR:RK DD DV where
 sz:=14
 cells d x:=[.bool d.pub,x.pv,strV d.res.name,.int .i64 d.res.base,x.cv,.int .i64 d.res.at_,.int .i64 d.res.bare,.int .i64 d.body.op,strV d.body.name,strV d.body.module,strV d.body.txt,.bool d.body.yes,x.k,.int .i64 d.body.at_]
 inn P w d x:=RowK (FK XR) P w x.pv d.params∧RowK (EK XR) P w x.cv d.res.clause∧EAt XR P w x.m x.k d.body
 len _ _:=rfl
 frame h ha:=⟨h.1.frame ha,h.2.1.frame ha,h.2.2.frame ha⟩
 imp h hq:=⟨h.1.imp hq,h.2.1.imp hq,h.2.2.imp hq⟩
def IA:RK (List UInt8 × Nat) Unit where
 sz:=2
 cells m _:=[strV m.1,.int .i64 m.2]
 inn _ _ _ _:=True
 len _ _:=rfl
 frame _ _:=trivial
 imp _ _:=trivial
def IR:RK (List UInt8 × Nat) Unit where
 sz:=1
 cells m _:=[strV m.1]
 inn _ _ _ _:=True
 len _ _:=rfl
 frame _ _:=trivial
 imp _ _:=trivial
def PAtA (P:Nat→Prop)(w:World)(iv dv:Value)(p:PP):Prop:=RowK IA P w iv p.imports∧RowK DA P w dv p.defs
def PAtR (P:Nat→Prop)(w:World)(iv dv:Value)(p:PP):Prop:=RowK IR P w iv p.imports∧RowK DR P w dv p.defs
theorem PAtA.frame {P:Nat→Prop}{w w':World}{iv dv:Value}{p:PP}(h:PAtA P w iv dv p)(ha:Alk P w w'):PAtA P w' iv dv p:=⟨h.1.frame ha,h.2.frame ha⟩
theorem PAtA.imp {P Q:Nat→Prop}{w:World}{iv dv:Value}{p:PP}(h:PAtA P w iv dv p)(hq:∀ b,P b→b<w.heap.size→Q b):PAtA Q w iv dv p:=⟨h.1.imp hq,h.2.imp hq⟩
theorem PAtR.frame {P:Nat→Prop}{w w':World}{iv dv:Value}{p:PP}(h:PAtR P w iv dv p)(ha:Alk P w w'):PAtR P w' iv dv p:=⟨h.1.frame ha,h.2.frame ha⟩
theorem PAtR.imp {P Q:Nat→Prop}{w:World}{iv dv:Value}{p:PP}(h:PAtR P w iv dv p)(hq:∀ b,P b→b<w.heap.size→Q b):PAtR Q w iv dv p:=⟨h.1.imp hq,h.2.imp hq⟩
end Go.Proofs.YtemkhbmkaalgdaaGreatDoor

namespace Go.Proofs.YtemkhbmkaalgdaaGreatDoor
open Go.RowKit Go
theorem store4 {w:World}{b:Nat}{c0 c1 c2 c3:Value}{T:TypeId}(h:w.heap[b]?=some (.cells #[c0,c1,c2,c3] T (0,0)))(v0 v1 v2 v3:Value) :
  ((((w.setCell ⟨b,0,none⟩ v0).setCell ⟨b,1,none⟩ v1).setCell ⟨b,2,none⟩ v2).setCell ⟨b,3,none⟩ v3).heap[b]?=some (.cells #[v0,v1,v2,v3] T (0,0)) ∧
  (∀ k,k≠b→((((w.setCell ⟨b,0,none⟩ v0).setCell ⟨b,1,none⟩ v1).setCell ⟨b,2,none⟩ v2).setCell ⟨b,3,none⟩ v3).heap[k]?=w.heap[k]?) ∧
  ((((w.setCell ⟨b,0,none⟩ v0).setCell ⟨b,1,none⟩ v1).setCell ⟨b,2,none⟩ v2).setCell ⟨b,3,none⟩ v3).heap.size=w.heap.size:=by
 have h1:=heap_setCell_same w b 0 _ _ v0 h
 have h2:=heap_setCell_same _ b 1 _ _ v1 h1
 have h3:=heap_setCell_same _ b 2 _ _ v2 h2
 have h4:=heap_setCell_same _ b 3 _ _ v3 h3
 refine ⟨h4,fun k hk=>?_,by simp⟩
 rw [heap_setCell_other _ _ _ _ hk,heap_setCell_other _ _ _ _ hk,heap_setCell_other _ _ _ _ hk,heap_setCell_other _ _ _ _ hk]
def set8 (w:World)(b:Nat)(v0 v1 v2 v3 v4 v5 v6 v7:Value):World :=
 (((((((w.setCell ⟨b,0,none⟩ v0).setCell ⟨b,1,none⟩ v1).setCell ⟨b,2,none⟩ v2).setCell ⟨b,3,none⟩ v3).setCell ⟨b,4,none⟩ v4).setCell ⟨b,5,none⟩ v5).setCell ⟨b,6,none⟩ v6).setCell ⟨b,7,none⟩ v7
theorem set8_alk (P:Nat→Prop)(w:World)(b:Nat)(v0 v1 v2 v3 v4 v5 v6 v7:Value)(hP:∀ k,P k→k≠b):Alk P w (set8 w b v0 v1 v2 v3 v4 v5 v6 v7):=by
 have hs:∀ (W:World) (j:Nat) (u:Value),Alk P W (W.setCell ⟨b,j,none⟩ u):=fun W j u=>Alk.set u hP
 exact (((((((hs _ _ _).trans (hs _ _ _)).trans (hs _ _ _)).trans (hs _ _ _)).trans (hs _ _ _)).trans (hs _ _ _)).trans (hs _ _ _)).trans (hs _ _ _)
theorem set8_below {B:Nat}{w0 w:World}(h:Below B w0 w){b:Nat}(hb:B≤b)(v0 v1 v2 v3 v4 v5 v6 v7:Value):Below B w0 (set8 w b v0 v1 v2 v3 v4 v5 v6 v7) :=
 (((((((h.setCell hb _).setCell hb _).setCell hb _).setCell hb _).setCell hb _).setCell hb _).setCell hb _).setCell hb _
def EPostM (op at_:Nat)(kids:List PE)(w:World)(e:Ending)(w':World):Prop :=
 ∃ am wn cm ae ce,e=.returned (.agg #[.int .i64 op,.string ⟨#[]⟩,.string ⟨#[]⟩,.bool false,.slice am wn cm,.bool false,.slice ae kids.length ce,.int .i64 at_]) ∧
  EAt XA (fun b=>w.heap.size≤b) w' (.slice am wn cm) (.slice ae kids.length ce) (.mk op [] [] 0 [] false kids at_)∧Below w.heap.size w w'
theorem EPost.m {op at_:Nat}{kids:List PE}{w w':World}{e:Ending}(h:EPost XA (.mk op [] [] 0 [] false kids at_) w e w'):EPostM op at_ kids w e w':=by
 obtain ⟨am,wn,cm,ae,ce,h1,h2,h3⟩:=h.a
 exact ⟨am,wn,cm,ae,ce,h1,h2,h3⟩
theorem EAt.rename {S:Shape}{P:Nat→Prop}{w:World}{m k:Value}{op op' a a':Nat}{n n' md md' t t':List UInt8}{num:Int}{y y':Bool}{kids:List PE}(h:EAt S P w m k (.mk op n md num t y kids a)):EAt S P w m k (.mk op' n' md' num t' y' kids a'):=by
 rw [EAt] at h ⊢
 exact h
def EPostS (x:PE)(w:World)(e:Ending)(w':World):Prop :=
 ∃ am wn cm ae ce,e=.returned (.agg #[.int .i64 x.op,.string ⟨x.name.toArray⟩,.string ⟨x.module.toArray⟩,.bool (decide (x.num<0)),.slice am wn cm,.bool x.yes,.slice ae x.kids.length ce,.int .i64 x.at_]) ∧
  EAt XA (fun b=>w.heap.size≤b) w' (.slice am wn cm) (.slice ae x.kids.length ce) x∧Below w.heap.size w w'
theorem EPost.s {x:PE}{w w':World}{e:Ending}(h:EPost XA x w e w'):EPostS x w e w':=h.a
def ZPost (n:Nat)(w:World)(e:Ending)(w':World):Prop :=
 ∃ am wn cm,e=.returned (.tuple #[.agg #[.bool false,.slice am wn cm],.int .i64 0])∧NumAt (fun b=>w.heap.size≤b) w' (n:Nat) (.slice am wn cm)∧Below w.heap.size w w'
theorem XA_num (n:Nat)(txt:List UInt8)(at_:Nat)(m k:Value):Ending.returned (.agg #[.int .i64 1,.string ⟨#[]⟩,.string ⟨#[]⟩,.bool false,m,.bool false,k,.int .i64 at_])=.returned (XA.agg (.mk 1 [] [] (n:Nat) txt false [] at_) m k):=by
 have hd:decide ((n:Int)<0)=false:=decide_eq_false (by omega)
 show _=Ending.returned (.agg #[.int .i64 1,.string ⟨#[]⟩,.string ⟨#[]⟩,.bool (decide ((n:Int)<0)),m,.bool false,k,.int .i64 at_])
 rw [hd]
theorem set1_cell (w:World)(b i:Nat)(v:Value){k j:Nat}(h:k≠b):(w.setCell ⟨b,i,none⟩ v).cell? ⟨k,j,none⟩=w.cell? ⟨k,j,none⟩ :=
 World.cell?_of_block (a:=⟨k,j,none⟩) (heap_setCell_other _ _ _ _ h)
theorem EPost.store {x:PE}{w0 W w':World}{m k:Value}(hx:EAt XA (fun b=>W.heap.size≤b) w' m k x)(hb:Below W.heap.size W w')(h0:Below w0.heap.size w0 W){b:Nat}(h1:w0.heap.size≤b)(h2:b<W.heap.size)(v0 v1 v2 v3 v4 v5 v6 v7:Value) :
  EAt XA (fun b=>w0.heap.size≤b) (set8 w' b v0 v1 v2 v3 v4 v5 v6 v7) m k x∧Below w0.heap.size w0 (set8 w' b v0 v1 v2 v3 v4 v5 v6 v7):=by
 have hs:=h0.size
 exact ⟨(hx.frame (set8_alk _ _ _ _ _ _ _ _ _ _ _ fun k hk=>by omega)).imp fun b hb _=>by omega,set8_below (h0.trans (hb.mono hs)) h1 _ _ _ _ _ _ _ _⟩
end Go.Proofs.YtemkhbmkaalgdaaGreatDoor
