/- Walks and plain laws: ReadW3, ZedW1, ReadLaws. -/
import Derived.Test.YtknicmmigbhpcaaGreatDoorF11
import Derived.Shelf.Abstract
set_option maxHeartbeats 16000000
set_option maxRecDepth 100000
set_option linter.unusedVariables false
set_option linter.unusedSimpArgs false
namespace Go.Proofs.YtknicmmigbhpcaaGreatDoor
open Go.RowKit Go
theorem Tryz.Uu:(Tryz.prog.info? 46).map (fun i=>(i.zero,i.size,i.bytes))=some (some (.agg #[.int .i64 0,.string ⟨#[]⟩,.string ⟨#[]⟩,.bool false,.slice none 0 0,.bool false,.slice none 0 0,.int .i64 0]),8,112):=by kernel_rfl
theorem Tryz.MO:∀ args w,(callFunc 113 args).run Tryz.prog w=.ok (.enter 113 args) w:=Go.Proofs.enters_of Tryz.func113 (by kernel_rfl) rfl
def jo (S:Shape)(C e:Nat)(w:World)(kv:Value)(es:List PE):Prop :=
 ∃ l,w.ownsRow C e S.sz kv es.length (nV S es l)∧fJ S (fun b=>C≤b∧some b≠kv.ownBlock) w l es
theorem jo.nil (S:Shape)(C e:Nat)(w:World):jo S C e w (.slice none 0 0) []:=⟨[],World.ownsRow_nil _ _ _ _,by rw[fJ]⟩
theorem jo.below {S:Shape}{C e:Nat}{w w':World}{kv:Value}{es:List PE}(h:jo S C e w kv es)(hb:Below w.heap.size w w'):jo S C e w' kv es:=by
 obtain⟨l,h1,h2⟩:=h;exact⟨l,own_below h1 hb,h2.frame (aQ.of hb)⟩
theorem jo.set {S:Shape}{C e:Nat}{w:World}{kv:Value}{es:List PE}(h:jo S C e w kv es){a:Addr}(ha:a.block<C)(u:Value):jo S C e (w.setCell a u) kv es:=by
 obtain⟨l,h1,h2⟩:=h;refine⟨l,iD h1 (fun q=>?_) u,h2.frame (aQ.set u fun b hb=>by have:=hb.1;omega)⟩;have:=(h1.lt a.block q.symm).1;omega
theorem jo.snoc {S:Shape}{C e:Nat}{w w':World}{kv kv' m k:Value}{es:List PE}{x:PE}{g H:Nat}{l:List (Value × Value)}(h2:fJ S (fun b=>C≤b∧some b≠kv.ownBlock) w l es)(hx:kI S (fun b=>C≤b∧some b≠kv.ownBlock) w m k x)
  (hown:w'.ownsRow C e S.sz kv' (es.length+1) (nV S es l++S.cells x m k)) (hgrow:w.grownBy w' kv.ownBlock) (hv:kv'.ownBlock=some g) (hor:kv.ownBlock=some g∨g=H) (hH:w.heap.size≤H):jo S C e w' kv' (es++[x]):=by
 have hll:=h2.len
 have hal:∀ (P:Nat→Prop),(∀ b,P b→some b≠kv.ownBlock)→aQ P w w':=fun P hP=>aQ.grown hgrow hP
 refine⟨l++[(m,k)],?_,?_⟩
 ·rw[BD S es l x m k hll,bP,List.length_singleton];exact hown
 ·have himp:∀ b,(C≤b∧some b≠kv.ownBlock)→b<w.heap.size→(C≤b∧some b≠kv'.ownBlock):=fun b hb hlt=>by
   refine⟨hb.1,fun q=>?_⟩;rw[hv] at q;simp only[Option.some.injEq] at q
   rcases hor with h|h
   ·exact hb.2 (by rw[h,q])
   ·omega
  exact(((h2.imp (fun b hb hlt=>⟨himp b hb hlt,hb.2⟩)).frame (hal (fun b=>(C≤b∧some b≠kv'.ownBlock)∧some b≠kv.ownBlock) fun b hb=>hb.2)).imp fun b hb _=>hb.1).snoc
   (((hx.imp (fun b hb hlt=>⟨himp b hb hlt,hb.2⟩)).frame (hal (fun b=>(C≤b∧some b≠kv'.ownBlock)∧some b≠kv.ownBlock) fun b hb=>hb.2)).imp fun b hb _=>hb.1)
theorem aQ.drew (P:Nat→Prop)(w:World):aQ P w w.drew:=⟨Nat.le_refl _,fun _ _ _=>rfl⟩
theorem MP {S:Shape}{e be:Nat}{w1 wr W2 w5:World}{o:Obj}{kv QM m k:Value}{acc:List PE}{x:PE}{l:List (Value × Value)}{gg:Nat}(dW:aQ (fun b=>b<w1.heap.size∧b≠be) w1 wr)(hbe:be<w1.heap.size)
  (hown:wr.ownsRow w1.heap.size e S.sz kv acc.length (nV S acc l)) (hes:fJ S (fun b=>w1.heap.size≤b∧some b≠kv.ownBlock) wr l acc) (hx:kI S (fun b=>wr.heap.size≤b) W2 m k x) (hb2:Below wr.heap.size wr W2)
  (hown5:w5.ownsRow w1.heap.size e S.sz QM (acc.length+1) (nV S acc l++S.cells x m k)) (hgrow:(W2.alloc o).grownBy w5 kv.ownBlock) (hv5:QM.ownBlock=some gg) (hat:kv.ownBlock=some gg∨gg=W2.heap.size+1) (off:Nat) (u:Value) :
  jo S w1.heap.size e (w5.setCell ⟨be,off,none⟩ u) QM (acc++[x])∧aQ (fun b=>b<w1.heap.size∧b≠be) w1 (w5.setCell ⟨be,off,none⟩ u)∧∀ (B:Nat) (w0:World),B≤be→Below B w0 wr→Below B w0 (w5.setCell ⟨be,off,none⟩ u):=by
 have hz1:=dW.1;have hz2:=hb2.size;have hb3:Below wr.heap.size wr (W2.alloc o):=hb2.alloc hz2 _
 have hlt:∀ b,some b=kv.ownBlock→w1.heap.size≤b∧b<wr.heap.size:=fun b q=>⟨(hown.lt b q.symm).1,(hown.lt b q.symm).2⟩
 have hx2:kI S (fun b=>w1.heap.size≤b∧some b≠kv.ownBlock) (W2.alloc o) m k x :=
  (hx.imp (Q:=fun b=>w1.heap.size≤b∧some b≠kv.ownBlock) fun b hb _=>⟨by omega,fun q=>by have:=(hlt b q).2;omega⟩).frame ⟨by simp,fun b _ hb=>Lib.alloc_old _ _ _ hb⟩
 have hrow:=jo.snoc (hes.frame (aQ.of hb3)) hx2 hown5 hgrow hv5 hat (by simp);refine⟨hrow.set hbe u,?_,fun B w0 hB hb0=>?_⟩
 ·refine((dW.trans (aQ.sI hb3 fun b hb=>by omega)).trans (aQ.grown hgrow fun b hb q=>?_)).trans (aQ.set u fun b hb=>hb.2)
  have:=(hlt b q).1;omega
 ·have hsz:=hb0.size
  exact((hb0.trans (hb3.mono (by omega))).grown hgrow (by simp;omega) (fun b q=>by have:=(hlt b q.symm).1;omega)).setCell hB _
def aaN (x:PE)(w:World)(e:Ending)(w':World):Prop :=
 ∃ am wn cm ae ce,e=.returned (.agg #[.int .i64 x.op,bY x.name,bY x.module,.bool (decide (x.num<0)),.slice am wn cm,.bool x.yes,.slice ae x.kids.length ce,.int .i64 x.at_]) ∧
  kI XA (fun b=>w.heap.size≤b) w' (.slice am wn cm) (.slice ae x.kids.length ce) x∧Below w.heap.size w w'
theorem kI.Yw {P:Nat→Prop}{w:World}{m k:Value}{x:PE}(h:kI XA P w m k x):∃ am wn cm ae ce,m=.slice am wn cm∧k=.slice ae x.kids.length ce:=by
 obtain⟨Ap,ae,ce,rfl,_,_⟩:=h.form
 obtain⟨ws,hws,_⟩:=(Ap:kN _ _ _ _)
 obtain⟨am,cm,rfl⟩:=hws.form;exact⟨am,_,cm,ae,ce,rfl,rfl⟩
theorem EPost.a {x:PE}{w w':World}{e:Ending}(h:EPost XA x w e w'):aaN x w e w':=by
 obtain⟨m,k,rfl,h1,h2⟩:=h;obtain⟨am,wn,cm,ae,ce,rfl,rfl⟩:=h1.Yw;exact⟨am,wn,cm,ae,ce,rfl,h1,h2⟩
def lU (op at_:Nat)(kv:Value):Array Value:=#[.int .i64 op,.string ⟨#[]⟩,.string ⟨#[]⟩,.bool false,.slice none 0 0,.bool false,kv,.int .i64 at_]
theorem BP {w:World}{b op at_:Nat}{kv:Value}(h:w.heap[b]?=some (.cells (lU op at_ kv) 46 (0,0)))(j:Nat):w.frozen? ⟨b,j,none⟩=false:=by simp[World.frozen?,h]
theorem sO {w:World}{b op at_:Nat}{kv:Value}(h:w.heap[b]?=some (.cells (lU op at_ kv) 46 (0,0))):w.cell? ⟨b,6,none⟩=some kv:=by rw[Lib.cell_of_heap h];rfl
theorem QN (B:Nat)(tv nv:Value)(toks:List Tok)(nodes:List Nd)(i op at_:Nat)(w:World)(h:aP B w (.agg #[tv,nv]) toks nodes)(hB:B≤w.heap.size)(hi:i<nodes.length)
  (hk:∀ k∈nodes[i].kids,0≤k∧k<(nodes.length:Int)) (hl:nodes[i].kids.length≤1000000000) (iJ:List PE) (hp:iJ.length=(fG nodes nodes[i].kids).length)
  (hE:∀ (j:Nat) (h1:j<iJ.length) (h2:j<(fG nodes nodes[i].kids).length) (W:World),aP B W (.agg #[tv,nv]) toks nodes→B≤W.heap.size→Calls Tryz.prog 113 #[.agg #[tv,nv],.int .i64 (fG nodes nodes[i].kids)[j]] W (EPost XA iJ[j] W)) :
  Calls Tryz.prog 180 #[.agg #[tv,nv],.int .i64 op,.int .i64 at_,.int .i64 i] w (EPost XA (.mk op [] [] 0 [] false iJ at_) w):=by
 obtain⟨i0,aaB,hz0,hz1,hz2⟩:=info_parts Tryz.Uu;have hlen:(fG nodes nodes[i].kids).length≤1000000000:=Nat.le_trans (List.length_filter_le _ _) hl;have HP:=ah (fun W hW hBW=>Mw B tv nv toks nodes i W hW hBW hi hk (Nat.le_trans hl (by decide)));have HT:=ah h;have HE:=ah hE;obtain⟨a1,c1,a2,c2,e⟩:=h.slices
 obtain⟨rfl,rfl⟩:tv=.slice a1 toks.length c1∧nv=.slice a2 nodes.length c2:=by simpa using e
 generalize fG nodes nodes[i].kids=ps at hp hlen HP HE;have HLP:=ah hp;have ent:=Tryz.MO;clear hk hE h e hp hl hi;have hb3:Below w.heap.size w (((w.alloc (.cells #[.slice a1 toks.length c1,.slice a2 nodes.length c2] 132)).alloc (.cells #[.int .i64 0,.string ⟨#[]⟩,.string ⟨#[]⟩,.bool false,.slice none 0 0,.bool false,.slice none 0 0,.int .i64 0] 46)).alloc (.cells (lU op at_ (.slice none 0 0)) 46)):=(((Below.refl _ _).alloc (Nat.le_refl _) _).alloc (by simp) _).alloc (by simp;omega) _;have hnr:=heap_alloc_new w (.cells #[.slice a1 toks.length c1,.slice a2 nodes.length c2] 132);have hne:=heap_alloc_new (w.alloc (.cells #[.slice a1 toks.length c1,.slice a2 nodes.length c2] 132)) (.cells #[.int .i64 0,.string ⟨#[]⟩,.string ⟨#[]⟩,.bool false,.slice none 0 0,.bool false,.slice none 0 0,.int .i64 0] 46);have hne2:=heap_alloc_new ((w.alloc (.cells #[.slice a1 toks.length c1,.slice a2 nodes.length c2] 132)).alloc (.cells #[.int .i64 0,.string ⟨#[]⟩,.string ⟨#[]⟩,.bool false,.slice none 0 0,.bool false,.slice none 0 0,.int .i64 0] 46)) (.cells (lU op at_ (.slice none 0 0)) 46);go_enter Tryz.func180,Tryz.ntmps180;go_wp2_with (go_at_call 240;refine(HP.out _ ?c1 ?c2).mono ?_)
 case c1=>exact HT.out.below (hb3.mono hB)
 case c2=>simp;omega
 rintro e w1 ⟨v,rfl,hints,hb1⟩;have adF:=hb1.size;simp only[World.size_alloc] at adF;rw[World.size_alloc] at hne;rw[World.size_alloc,World.size_alloc] at hne2;have hq0:w1.heap[w.heap.size]?=some (.cells #[.slice a1 toks.length c1,.slice a2 nodes.length c2] 132 (0,0)):=(hb1.block w.heap.size (by simp;omega)).trans ((Lib.alloc_old _ _ _ (by simp;omega)).trans ((Lib.alloc_old _ _ _ (by simp)).trans hnr));have hq1:w1.heap[w.heap.size+1]?=some (.cells #[.int .i64 0,.string ⟨#[]⟩,.string ⟨#[]⟩,.bool false,.slice none 0 0,.bool false,.slice none 0 0,.int .i64 0] 46 (0,0)):=(hb1.block (w.heap.size+1) (by simp)).trans ((Lib.alloc_old _ _ _ (by simp)).trans hne);have hq2:w1.heap[w.heap.size+1+1]?=some (.cells (lU op at_ (.slice none 0 0)) 46 (0,0)):=(hb1.block (w.heap.size+1+1) (by simp)).trans hne2;have yP:Below w.heap.size w w1:=hb3.trans (hb1.mono (by simp;omega));obtain⟨ap,cp,rfl,_,hpf⟩:=hints.ints;simp only[World.size_alloc] at hpf;have HF:=ah hpf;clear hpf hints hnr hne hne2 hb1 hb3;go_wp2
 go_loopw [19] (fun q wr=>∃ (j:Nat) (kv:Value),j≤ps.length∧q=.int .i64 j∧aQ (fun b=>b<w1.heap.size∧b≠w.heap.size+1+1) w1 wr∧wr.heap[w.heap.size+1+1]?=some (.cells (lU op at_ kv) 46 (0,0))∧jo XA w1.heap.size 46 wr kv (iJ.take j)∧Below w.heap.size w wr) (fun q _=>ps.length - (intOf q).toNat)
 case atStart=>exact⟨0,.slice none 0 0,Nat.zero_le _,rfl,aQ.refl _ _,hq2,jo.nil _ _ _ _,yP⟩
 case round =>
  obtain⟨j,kv,hj,rfl,dW,hbe,hrow,hbl⟩:=hrel;have hsz:=dW.1;have hr0:=(dW.2 w.heap.size ⟨by omega,by omega⟩ (by omega)).trans hq0;have hr1:=(dW.2 (w.heap.size+1) ⟨by omega,by omega⟩ (by omega)).trans hq1
  by_cases hjl:j<ps.length
  ·have hjp:j<iJ.length:=by have:=HLP.out;omega
   obtain⟨bp,op',rfl,afc,ab5,hcell⟩:=HF.out (by omega);have hx:=(World.cell?_of_block (a:=⟨bp,op'+j,none⟩) (dW.2 bp ⟨ab5,by omega⟩ ab5)).trans (hcell j hjl);have hC:=HE.out j hjp hjl wr.drew (HT.out.below ((hbl.mono hB).drew)) (by have:=hbl.size;show B≤wr.heap.size;omega);have hsn:iJ.take (j+1)=iJ.take j++[iJ[j]]:=List.take_succ_eq_append_getElem hjp
   have hpl:(iJ.take j).length=j:=by rw[List.length_take];omega
   have JC:(j:Int)<(ps.length:Int):=by omega
   generalize ps[j]=q at hx hC;generalize iJ[j]=x at hC hsn;generalize iJ.take j=acc at hrow hsn hpl;obtain⟨l,hown,hes⟩:=hrow;rw[hpl] at hown;have HL:=ah hpl;have HS:=ah hsn;clear hpl hsn hcell
   obtain⟨ak,ck,rfl,_⟩:∃ ak ck,kv=.slice ak j ck∧True:=by
    rcases hown.2 with ⟨hv,hn0⟩|⟨g,cap,cur,hv,_⟩
    ·exact⟨none,0,by rw[hv,hn0],trivial⟩
    ·exact⟨_,cap,hv,trivial⟩
   have HC:=ah (hC.mono fun _ _ h=>h.a)
   have r0:wr.cell? ⟨w.heap.size,0,none⟩=some (.slice a1 toks.length c1):=by rw[Lib.cell_of_heap hr0];rfl
   have r1:wr.cell? ⟨w.heap.size,1,none⟩=some (.slice a2 nodes.length c2):=by rw[Lib.cell_of_heap hr0];rfl
   have r6:wr.cell? ⟨w.heap.size+1+1,6,none⟩=some (.slice ak j ck):=by rw[Lib.cell_of_heap hbe];rfl
   clear hC;go_wp2;have hce:=hbe;have hlt:=(bG hbe).1;have hCw:w1.heap.size≤wr.heap.size:=hsz
   have adG:some (w.heap.size+1+1)≠(Value.slice ak j ck).ownBlock:=fun q=>by have:=(hown.lt _ q.symm).1;omega
   go_region_law ((first
    | (refine step_append_lies _ (by rfl) _ _ _ (by rfl) w1.heap.size 46 i0 _ 8 112 Tryz.underlying29 aaB hz0 hz1 hz2 rfl (by omega) (.slice ak j ck) j _ (by rfl) ((own_below (pV hown) hb2).alloc _) ⟨W2.heap.size,0,none⟩ 1 1 [.int .i64 x.op,bY x.name,bY x.module,.bool (decide (x.num<0)),.slice am wn cm,.bool x.yes,.slice ae x.kids.length ce,.int .i64 x.at_] (by rfl) (by rfl) (World.news_of_block (cs:=#[.int .i64 x.op,bY x.name,bY x.module,.bool (decide (x.num<0)),.slice am wn cm,.bool x.yes,.slice ae x.kids.length ce,.int .i64 x.at_]) (t:=46) (fr:=(0,0)) (heap_alloc_new W2 _)) (by simp[Value.oneCell',bY]) (by omega) (by unfold maxLen;omega) (by omega) (by have:=hb2.size;simp at this ⊢;omega) (W2.heap.size+1) (by simp) ?_;intro gg cap5 w5 hown5 iw yL Qv;have rU:=(iw.block (w.heap.size+1+1) (by have:=hb2.size;simp at this ⊢;omega) adG).trans ((Lib.alloc_old W2 _ (w.heap.size+1+1) (by have:=hb2.size;simp at this;omega)).trans BQ);have r65:=sO rU;have z65:=BP rU 6)
    | (refine uD rfl 113 _ _ rfl HC.out (by rfl) (ent _ _) ?_;rintro e W2 ⟨am,wn,cm,ae,ce,rfl,hxe,hb2⟩;refine⟨_,rfl,?_⟩;have BQ:=(hb2.block (w.heap.size+1+1) hlt).trans hce;have ZU:=sO BQ;have r63:=fun o=>Lib.cell?_alloc_some o ZU)))
   all_goals
    have hlen:=HL.out;obtain⟨q1,q2,q3⟩:=MP (S:=XA) (wr:=wr.drew) (kv:=.slice ak j ck) (QM:=.slice (some ⟨gg,0,none⟩) (j+1) cap5) (acc:=acc) (x:=x) (l:=l) (show aQ _ w1 wr.drew from dW) (show w.heap.size+1+1<w1.heap.size by omega) (by rw[hlen];exact hown) (hes.frame (aQ.drew _ wr)) hxe hb2 (by rw[hlen];exact hown5) iw rfl yL 6 (.slice (some ⟨gg,0,none⟩) (j+1) cap5)
    have BR:(w5.setCell ⟨w.heap.size+1+1,6,none⟩ (.slice (some ⟨gg,0,none⟩) (j+1) cap5)).heap[w.heap.size+1+1]?=some (.cells (lU op at_ (.slice (some ⟨gg,0,none⟩) (j+1) cap5)) 46 (0,0)):=by
     rw[heap_setCell_same w5 _ 6 _ _ _ rU];rfl
    have yQ:=q3 w.heap.size w (by omega) hbl.drew;clear iw hown5 yL rU r65 z65 BQ ZU r63 hxe hb2 HC hes hown dW hbe hce r0 r1 r6 hx;generalize w5.setCell _ _=w6 at q1 q2 BR yQ ⊢;go_wp2
    go_roundw
    case rel=>exact⟨j+1,_,by omega,by go_num,q2,BR,by rw[HS.out];exact q1,yQ⟩
    case measure=>simp[intOf];omega
  ·have:j=ps.length:=by omega
   subst this;have JC:decide ((ps.length:Int)<(ps.length:Int))=false:=decide_eq_false (by omega);rw[← HLP.out,List.take_length] at hrow;obtain⟨l,hown,hes⟩:=hrow
   obtain⟨ak,ck,rfl,_⟩:∃ ak ck,kv=.slice ak iJ.length ck∧True:=by
    rcases hown.2 with ⟨hv,hn0⟩|⟨g,cap,cur,hv,_⟩
    ·exact⟨none,0,by rw[hv,hn0],trivial⟩
    ·exact⟨_,cap,hv,trivial⟩
   have c0:wr.cell? ⟨w.heap.size+1+1,0,none⟩=some (.int .i64 op):=by rw[Lib.cell_of_heap hbe];rfl
   have c1':wr.cell? ⟨w.heap.size+1+1,1,none⟩=some (.string ⟨#[]⟩):=by rw[Lib.cell_of_heap hbe];rfl
   have c2':wr.cell? ⟨w.heap.size+1+1,2,none⟩=some (.string ⟨#[]⟩):=by rw[Lib.cell_of_heap hbe];rfl
   have c3:wr.cell? ⟨w.heap.size+1+1,3,none⟩=some (.bool false):=by rw[Lib.cell_of_heap hbe];rfl
   have c4:wr.cell? ⟨w.heap.size+1+1,4,none⟩=some (.slice none 0 0):=by rw[Lib.cell_of_heap hbe];rfl
   have c5:wr.cell? ⟨w.heap.size+1+1,5,none⟩=some (.bool false):=by rw[Lib.cell_of_heap hbe];rfl
   have c6:wr.cell? ⟨w.heap.size+1+1,6,none⟩=some (.slice ak iJ.length ck):=by rw[Lib.cell_of_heap hbe];rfl
   have c7:wr.cell? ⟨w.heap.size+1+1,7,none⟩=some (.int .i64 at_):=by rw[Lib.cell_of_heap hbe];rfl
   have d0:wr.cell? ⟨w.heap.size+1,0,none⟩=some (.int .i64 0):=by rw[Lib.cell_of_heap hr1];rfl
   have d1:wr.cell? ⟨w.heap.size+1,1,none⟩=some (.string ⟨#[]⟩):=by rw[Lib.cell_of_heap hr1];rfl
   have d2:wr.cell? ⟨w.heap.size+1,2,none⟩=some (.string ⟨#[]⟩):=by rw[Lib.cell_of_heap hr1];rfl
   have d3:wr.cell? ⟨w.heap.size+1,3,none⟩=some (.bool false):=by rw[Lib.cell_of_heap hr1];rfl
   have d4:wr.cell? ⟨w.heap.size+1,4,none⟩=some (.slice none 0 0):=by rw[Lib.cell_of_heap hr1];rfl
   have d5:wr.cell? ⟨w.heap.size+1,5,none⟩=some (.bool false):=by rw[Lib.cell_of_heap hr1];rfl
   have d6:wr.cell? ⟨w.heap.size+1,6,none⟩=some (.slice none 0 0):=by rw[Lib.cell_of_heap hr1];rfl
   have d7:wr.cell? ⟨w.heap.size+1,7,none⟩=some (.int .i64 0):=by rw[Lib.cell_of_heap hr1];rfl
   have z0:∀ j,wr.frozen? ⟨w.heap.size+1,j,none⟩=false:=by intro j;simp[World.frozen?,hr1]
   have hE0:kI XA (fun b=>w1.heap.size≤b) wr (.slice none 0 0) (.slice ak iJ.length ck) (.mk op [] [] 0 [] false iJ at_):=by
    rw[kI];exact⟨kN.zero _ _,l,lS.fF hown fun b hb=>hb,hes.imp fun b hb _=>hb.1⟩
   clear hown hes hbe hr0 hr1;go_wp2;refine bodyPost_ret (v:=.agg #[.int .i64 op,.string ⟨#[]⟩,.string ⟨#[]⟩,.bool false,.slice none 0 0,.bool false,.slice ak iJ.length ck,.int .i64 at_]) (by simp[results,Tryz.results180,go_sem,d0,d1,d2,d3,d4,d5,d6,d7]) rfl ⟨.slice none 0 0,.slice ak iJ.length ck,rfl,?_,?_⟩
   ·have hs:∀ (W:World) (j:Nat) (u:Value),aQ (fun b=>w1.heap.size≤b) W (W.setCell ⟨w.heap.size+1,j,none⟩ u):=fun W j u=>aQ.set u fun b hb=>by show b≠w.heap.size+1;omega
    refine(hE0.frame ?_).imp (fun b hb _=>by omega);exact(((((((hs _ _ _).trans (hs _ _ _)).trans (hs _ _ _)).trans (hs _ _ _)).trans (hs _ _ _)).trans (hs _ _ _)).trans (hs _ _ _)).trans (hs _ _ _)
   ·exact((((((((hbl).setCell (by simp) _).setCell (by simp) _).setCell (by simp) _).setCell (by simp) _).setCell (by simp) _).setCell (by simp) _).setCell (by simp) _).setCell (by simp) _
def Wd (P:Nat→Prop)(w:World)(m:Value)(ws:List Nat):Prop:=lS P w m 1 ws.length (ws.map fun d=>.int .u32 (d:Nat))
theorem Wd.form {P:Nat→Prop}{w:World}{m:Value}{ws:List Nat}(h:Wd P w m ws):∃ ao cap,m=.slice ao ws.length cap∧ws.length≤cap ∧
  (0<ws.length→∃ b off,ao=some ⟨b,off,none⟩∧P b∧b<w.heap.size∧∀ j,(hj:j<ws.length)→w.cell? ⟨b,off+j,none⟩=some (.int .u32 (ws[j]:Nat))):=by
 obtain⟨ao,cap,hv,hn,hl,hc⟩:=h;refine⟨ao,cap,hv,hn,fun h0=>?_⟩;obtain⟨b,off,ha,hP,hlt,hcell⟩:=hc h0;exact⟨b,off,ha,hP,hlt,fun j hj=>by rw[hcell j (by simpa using hj)];simp⟩
theorem Wd.take {P:Nat→Prop}{w:World}{ao:Option Addr}{cap k:Nat}{ws:List Nat}(h:Wd P w (.slice ao ws.length cap) ws)(hk:k≤ws.length):Wd P w (.slice ao k cap) (ws.take k):=by
 obtain⟨Tf,cap',hv,hn,hl,hc⟩:=h;simp only[Value.slice.injEq] at hv;obtain⟨rfl,_,rfl⟩:=hv
 have hlen:(ws.take k).length=k:=by rw[List.length_take];omega
 refine⟨ao,cap,by rw[hlen],by omega,by simp,fun h0=>?_⟩;obtain⟨b,off,ha,hP,hlt,hcell⟩:=hc (by omega);refine⟨b,off,ha,hP,hlt,fun j hj=>?_⟩;simp only[List.length_map] at hj;rw[hcell j (by simp only[List.length_map];omega)]
 simp
theorem JI (ws:List Nat)(k:Nat)(hk:k≤ws.length)(h0:∀ j,k≤j→(h:j<ws.length)→ws[j]=0)(h1:∀ j,j+1=k→(h:j<ws.length)→ws[j]≠0):(bN ws).length=k∧ws.take k=bN ws:=by
 obtain⟨n,n1,n2,n3,n4⟩:=qR ws
 have:n=k:=by
  rcases Nat.lt_trichotomy n k with h|h|h
  ·exact absurd (n3 (k - 1) (by omega) (by omega)) (h1 (k - 1) (by omega) (by omega))
  ·exact h
  ·exact absurd (h0 (n - 1) (by omega) (by omega)) (n4 (n - 1) (by omega) (by omega))
 subst this;exact⟨by rw[n2,List.length_take];omega,n2.symm⟩
theorem yR (P:Nat→Prop)(ao:Option Addr)(cap:Nat)(ws:List Nat)(w:World)(h:Wd P w (.slice ao ws.length cap) ws)(hn:ws.length≤1099511627776) :
  Calls Tryz.prog 183 #[.slice ao ws.length cap] w fun e w'=>e=.returned (.slice ao (bN ws).length cap)∧w'=w:=by
 obtain⟨Tf,cap',hv,hc1,hf⟩:=h.form;simp only[Value.slice.injEq] at hv;obtain⟨rfl,-,rfl⟩:=hv;have HF:=ah hf;clear hf h;go_enter Tryz.func183,Tryz.ntmps183;go_wp2
 go_loop [3] (fun q=>∃ k:Nat,k≤ws.length∧q=.int .i64 k∧∀ j,k≤j→(hj:j<ws.length)→ws[j]=0) (fun q=>(intOf q).toNat)
 case atStart=>exact⟨ws.length,Nat.le_refl _,rfl,fun j h1 h2=>absurd h2 (by omega)⟩
 case round =>
  obtain⟨k,hk,rfl,h0⟩:=hrel;have H0:=ah h0;clear h0
  by_cases hk0:k=0
  ·subst hk0
   obtain⟨t1,_⟩:=JI ws 0 (Nat.zero_le _) H0.out (fun j hj=>by omega);have HT:=ah t1;clear t1;go_wp2;go_ret;exact⟨by rw[HT.out];rfl,rfl⟩
  ·obtain⟨k',rfl⟩:∃ k',k=k'+1:=⟨k - 1,by omega⟩
   obtain⟨b,off,rfl,_,_,hcell⟩:=HF.out (by omega);have hx:=hcell k' (by omega)
   have hw:(((k'+1:Nat):Int) - 1)=(k':Int):=by omega
   have nJ:(k':Int)<(ws.length:Int):=by omega
   have hpos:(0:Int)<((k'+1:Nat):Int):=by omega
   by_cases hz:ws[k']=0
   ·have HZ:=ah hz
    rw[hz] at hx;clear hz hcell;go_wp2
    go_round
    case rel=>exact⟨k',by omega,by go_num,fun j h1 h2=>by
     rcases Nat.lt_or_ge k' j with h|h
     ·exact H0.out j h h2
     ·obtain rfl:j=k':=by omega
      exact HZ.out⟩
    case measure=>simp[intOf]
   ·have hz1:((ws[k']:Int) == 0)=false:=by simpa using hz
    have hz2:∀ j,j+1=k'+1→(h:j<ws.length)→ws[j]≠0:=fun j hj hj2=>by
     have e:j=k':=by omega
     subst e;exact hz
    obtain⟨t1,_⟩:=JI ws (k'+1) hk H0.out hz2;clear hz2;have HT:=ah t1;clear t1 hz hcell;generalize ws[k']=d at hx hz1
    have hkc:((k'+1:Nat):Int)≤(cap:Int):=by omega
    go_wp2;go_ret;exact⟨by rw[HT.out];rfl,rfl⟩
theorem Tryz.O9:(Tryz.prog.info? 259).map (fun i=>(i.zero,i.size,i.bytes))=some (some (.int .u32 0),1,4):=by kernel_rfl
theorem GX {α:Type}{l t:List α}{k:Nat}{r:α}(h:l=l.take k++r :: t)(hk:(l.take k).length=k):l.take (k+1)=l.take k++[r]∧l=l.take (k+1)++t:=by
 have h1:l.take (k+1)=l.take k++[r]:=by
  conv=>lhs;rw[h]
  rw[List.take_append,hk,List.take_of_length_le (by omega),Nat.add_sub_cancel_left,List.take_succ_cons,List.take_zero]
 exact⟨h1,by rw[h1,List.append_assoc];exact h⟩
theorem Fh (c x b:Nat):((c:Int)+(x:Int) * (b:Int)) % 4294967296=(((c+x * b) % 4294967296:Nat):Int)∧((c:Int)+(x:Int) * (b:Int)) / 4294967296=(((c+x * b) / 4294967296:Nat):Int):=by
 rw[← Int.natCast_mul];generalize x * b=y;omega
def ab6 (ws:List Nat)(w:World)(e:Ending)(w':World):Prop:=∃ v,e=.returned v∧w'.ownsRow w.heap.size 259 1 v ws.length (ws.map fun d=>.int .u32 (d:Nat))∧Below w.heap.size w w'
theorem QO (P:Nat→Prop)(m:Value)(ws:List Nat)(GI more:Nat)(w:World)(h:Wd P w m ws)(hw:∀ x∈ws,x<4294967296)(hb:GI≤1000000000)(hm:more≤1000000000)(hn:ws.length≤1000) :
  Calls Tryz.prog 243 #[m,.int .u64 GI,.int .u64 more] w (ab6 (eu GI ws more) w):=by
 obtain⟨i0,hi,hz0,hz1,hz2⟩:=info_parts Tryz.O9;obtain⟨ao,cap,rfl,hc1,hf⟩:=h.form;have HF:=ah hf;have HW:=ah hw;clear hf h hw;obtain⟨wm,hmk,hown0,ab7⟩:=run_make_own (P:=Tryz.prog) w w.heap.size 42 259 i0 (.int .u32 0) 1 Tryz.underlying42 hi hz0 hz1 .i64 .i64 (ws.length+1) (by rw[hz2];omega) (by unfold maxLen;omega) (Nat.le_refl _);rw[show (((ws.length+1:Nat)):Int)=(ws.length:Int)+1 by omega] at hmk;have hbm:Below w.heap.size w wm:=(Below.refl _ _).grown ab7 (Nat.le_refl _) (fun k hk=>by cases hk);clear ab7;go_enter Tryz.func243,Tryz.ntmps243;go_wp2;clear hmk
 go_loopw [2,7,16] (fun mv v q wr=>∃ k c:Nat,k≤ws.length∧q=.int .i64 k∧mv=.int .u64 c∧c≤1000000000∧wr.ownsRow w.heap.size 259 1 v k (((eu GI ws more).take k).map fun d=>.int .u32 (d:Nat))∧eu GI ws more=(eu GI ws more).take k++eu GI (ws.drop k) c∧Below w.heap.size w wr) (fun _ _ q _=>ws.length - (intOf q).toNat)
 case atStart=>exact⟨0,more,Nat.zero_le _,rfl,rfl,hm,hown0,by simp,hbm⟩
 case round =>
  obtain⟨k,c,hk,rfl,rfl,hc,hown,heq,hbl⟩:=hrel;have hz:=hbl.size
  by_cases hlt:k<ws.length
  ·obtain⟨b,off,rfl,_,hb',hcell⟩:=HF.out (by omega)
   have hx:=(hbl.cell (p:=⟨b,off+k,none⟩) hb').trans (hcell k hlt);have hxw:=HW.out ws[k] (List.getElem_mem hlt)
   have nJ:(k:Int)<(ws.length:Int):=by omega
   have hdr:ws.drop k=ws[k] :: ws.drop (k+1):=List.drop_eq_getElem_cons hlt;rw[hdr,eu] at heq;generalize ws[k]=x at hx hxw heq;have hcar:=Jo hxw hb hc;have hE:=ah heq;clear heq hcell hdr
   have hlt2:((eu GI ws more).take k).length=k:=by rw[List.length_take,jA];omega
   have HL:=ah hlt2;clear hlt2;go_wp2_with (at_builtin;refine wpList_append_own _ rfl _ _ 42 rfl w.heap.size 259 i0 (.int .u32 0) 1 4 Tryz.underlying42 hi hz0 hz1 hz2 rfl (by decide) _ _ _ rfl (hown.alloc _) ⟨wr.heap.size,0,none⟩ 1 1 [.int .u32 (((c:Int)+(x:Int) * (GI:Int)) % 4294967296)] rfl rfl ?c1 ?c2 ?c3 ?c4 ?c5 ?_)
   case c1 =>
    intro j' u hj';exact World.news_of_block (cs:=#[.int .u32 (((c:Int)+(x:Int) * (GI:Int)) % 4294967296)]) (t:=259) (fr:=(0,0)) (heap_alloc_new wr _) j' u (by simpa using hj')
   case c2=>simp[Value.oneCell']
   case c3=>unfold maxLen;omega
   case c4=>omega
   case c5=>simp;omega
   intro v' w2 hown2 hgrow2 _;have hb2:Below w.heap.size w w2:=(hbl.alloc hz _).grown hgrow2 (by simp;omega) (fun q hq=>by have:=(hown.lt q hq).1;omega);have H2:=ah hown2;clear hgrow2 hown2 hown;go_wp2
   go_roundw
   case rel =>
    refine⟨k+1,(c+x * GI) / 4294967296,by omega,by go_num,?_,hcar.2,?_,?_,hb2⟩
    ·rw[(Fh c x GI).2]
    ·rw[(GX hE.out HL.out).1,List.map_append,List.map_singleton,← (Fh c x GI).1,List.map_take]
     exact H2.out
    ·exact(GX hE.out HL.out).2
   case measure=>simp[intOf];omega
  ·have hkl:k=ws.length:=by omega
   subst hkl;rw[List.drop_length,eu] at heq
   have hlt2:((eu GI ws more).take ws.length).length=ws.length:=by rw[List.length_take,jA];omega
   have hfin:=(GX heq hlt2).1;rw[List.take_of_length_le (by rw[jA];exact Nat.le_refl _)] at hfin;have HE:=ah hfin;clear hfin hlt2 heq;generalize (eu GI ws more).take ws.length=acc at hown HE;go_wp2_with (at_builtin;refine wpList_append_own _ rfl _ _ 42 rfl w.heap.size 259 i0 (.int .u32 0) 1 4 Tryz.underlying42 hi hz0 hz1 hz2 rfl (by decide) _ _ _ rfl (hown.alloc _) ⟨wr.heap.size,0,none⟩ 1 1 [.int .u32 (c:Int)] rfl rfl ?e1 ?e2 ?e3 ?e4 ?e5 ?_)
   case e1 =>
    intro j' u hj';exact World.news_of_block (cs:=#[.int .u32 (c:Int)]) (t:=259) (fr:=(0,0)) (heap_alloc_new wr _) j' u (by simpa using hj')
   case e2=>simp[Value.oneCell']
   case e3=>unfold maxLen;omega
   case e4=>omega
   case e5=>simp;omega
   intro v' w2 hown2 hgrow2 _;have hb2:Below w.heap.size w w2:=(hbl.alloc hz _).grown hgrow2 (by simp;omega) (fun q hq=>by have:=(hown.lt q hq).1;omega);have H2:=ah hown2;clear hgrow2 hown2 hown;go_wp2;go_ret;refine⟨v',rfl,?_,hb2⟩;rw[HE.out,List.map_append,List.map_singleton,Nat.mod_eq_of_lt (show c<4294967296 by omega),← Nat.mod_eq_of_lt (show c<4294967296 by omega),← HE.out,jA,Nat.mod_eq_of_lt (show c<4294967296 by omega)];exact H2.out
theorem vK {w:World}{b:Nat}{c0 c1 c2 c3:Value}{T:TypeId}(h:w.heap[b]?=some (.cells #[c0,c1,c2,c3] T (0,0)))(v0 v1 v2 v3:Value) :
  ((((w.setCell ⟨b,0,none⟩ v0).setCell ⟨b,1,none⟩ v1).setCell ⟨b,2,none⟩ v2).setCell ⟨b,3,none⟩ v3).heap[b]?=some (.cells #[v0,v1,v2,v3] T (0,0)) ∧
  (∀ k,k≠b→((((w.setCell ⟨b,0,none⟩ v0).setCell ⟨b,1,none⟩ v1).setCell ⟨b,2,none⟩ v2).setCell ⟨b,3,none⟩ v3).heap[k]?=w.heap[k]?) ∧
  ((((w.setCell ⟨b,0,none⟩ v0).setCell ⟨b,1,none⟩ v1).setCell ⟨b,2,none⟩ v2).setCell ⟨b,3,none⟩ v3).heap.size=w.heap.size:=by
 have h1:=heap_setCell_same w b 0 _ _ v0 h;have h2:=heap_setCell_same _ b 1 _ _ v1 h1;have h3:=heap_setCell_same _ b 2 _ _ v2 h2;have h4:=heap_setCell_same _ b 3 _ _ v3 h3;refine⟨h4,fun k hk=>?_,by simp⟩;rw[heap_setCell_other _ _ _ _ hk,heap_setCell_other _ _ _ _ hk,heap_setCell_other _ _ _ _ hk,heap_setCell_other _ _ _ _ hk]
def QS (w:World)(b:Nat)(v0 v1 v2 v3 v4 v5 v6 v7:Value):World :=
 (((((((w.setCell ⟨b,0,none⟩ v0).setCell ⟨b,1,none⟩ v1).setCell ⟨b,2,none⟩ v2).setCell ⟨b,3,none⟩ v3).setCell ⟨b,4,none⟩ v4).setCell ⟨b,5,none⟩ v5).setCell ⟨b,6,none⟩ v6).setCell ⟨b,7,none⟩ v7
theorem sP (P:Nat→Prop)(w:World)(b:Nat)(v0 v1 v2 v3 v4 v5 v6 v7:Value)(hP:∀ k,P k→k≠b):aQ P w (QS w b v0 v1 v2 v3 v4 v5 v6 v7):=by
 have hs:∀ (W:World) (j:Nat) (u:Value),aQ P W (W.setCell ⟨b,j,none⟩ u):=fun W j u=>aQ.set u hP
 exact(((((((hs _ _ _).trans (hs _ _ _)).trans (hs _ _ _)).trans (hs _ _ _)).trans (hs _ _ _)).trans (hs _ _ _)).trans (hs _ _ _)).trans (hs _ _ _)
theorem iX {B:Nat}{w0 w:World}(h:Below B w0 w){b:Nat}(hb:B≤b)(v0 v1 v2 v3 v4 v5 v6 v7:Value):Below B w0 (QS w b v0 v1 v2 v3 v4 v5 v6 v7) :=
 (((((((h.setCell hb _).setCell hb _).setCell hb _).setCell hb _).setCell hb _).setCell hb _).setCell hb _).setCell hb _
def aaO (op at_:Nat)(kids:List PE)(w:World)(e:Ending)(w':World):Prop :=
 ∃ am wn cm ae ce,e=.returned (.agg #[.int .i64 op,.string ⟨#[]⟩,.string ⟨#[]⟩,.bool false,.slice am wn cm,.bool false,.slice ae kids.length ce,.int .i64 at_]) ∧
  kI XA (fun b=>w.heap.size≤b) w' (.slice am wn cm) (.slice ae kids.length ce) (.mk op [] [] 0 [] false kids at_)∧Below w.heap.size w w'
theorem EPost.m {op at_:Nat}{kids:List PE}{w w':World}{e:Ending}(h:EPost XA (.mk op [] [] 0 [] false kids at_) w e w'):aaO op at_ kids w e w':=by
 obtain⟨am,wn,cm,ae,ce,h1,h2,h3⟩:=h.a;exact⟨am,wn,cm,ae,ce,h1,h2,h3⟩
theorem kI.rename {S:Shape}{P:Nat→Prop}{w:World}{m k:Value}{op op' a a':Nat}{n n' md md' t t':List UInt8}{num:Int}{y y':Bool}{kids:List PE}(h:kI S P w m k (.mk op n md num t y kids a)):kI S P w m k (.mk op' n' md' num t' y' kids a'):=by
 rw[kI] at h ⊢;exact h
def Uv (x:PE)(w:World)(e:Ending)(w':World):Prop :=
 ∃ am wn cm ae ce,e=.returned (.agg #[.int .i64 x.op,.string ⟨x.name.toArray⟩,.string ⟨x.module.toArray⟩,.bool (decide (x.num<0)),.slice am wn cm,.bool x.yes,.slice ae x.kids.length ce,.int .i64 x.at_]) ∧
  kI XA (fun b=>w.heap.size≤b) w' (.slice am wn cm) (.slice ae x.kids.length ce) x∧Below w.heap.size w w'
theorem EPost.s {x:PE}{w w':World}{e:Ending}(h:EPost XA x w e w'):Uv x w e w':=h.a
def Uw (n:Nat)(w:World)(e:Ending)(w':World):Prop :=
 ∃ am wn cm,e=.returned (.tuple #[.agg #[.bool false,.slice am wn cm],.int .i64 0])∧kN (fun b=>w.heap.size≤b) w' (n:Nat) (.slice am wn cm)∧Below w.heap.size w w'
theorem aaP (n:Nat)(txt:List UInt8)(at_:Nat)(m k:Value):Ending.returned (.agg #[.int .i64 1,.string ⟨#[]⟩,.string ⟨#[]⟩,.bool false,m,.bool false,k,.int .i64 at_])=.returned (XA.agg (.mk 1 [] [] (n:Nat) txt false [] at_) m k):=by
 have hd:decide ((n:Int)<0)=false:=decide_eq_false (by omega);show _=Ending.returned (.agg #[.int .i64 1,.string ⟨#[]⟩,.string ⟨#[]⟩,.bool (decide ((n:Int)<0)),m,.bool false,k,.int .i64 at_]);rw[hd]
theorem dP (w:World)(b i:Nat)(v:Value){k j:Nat}(h:k≠b):(w.setCell ⟨b,i,none⟩ v).cell? ⟨k,j,none⟩=w.cell? ⟨k,j,none⟩ :=
 World.cell?_of_block (a:=⟨k,j,none⟩) (heap_setCell_other _ _ _ _ h)
theorem EPost.store {x:PE}{w0 W w':World}{m k:Value}(hx:kI XA (fun b=>W.heap.size≤b) w' m k x)(hb:Below W.heap.size W w')(h0:Below w0.heap.size w0 W){b:Nat}(h1:w0.heap.size≤b)(h2:b<W.heap.size)(v0 v1 v2 v3 v4 v5 v6 v7:Value) :
  kI XA (fun b=>w0.heap.size≤b) (QS w' b v0 v1 v2 v3 v4 v5 v6 v7) m k x∧Below w0.heap.size w0 (QS w' b v0 v1 v2 v3 v4 v5 v6 v7):=by
 have hs:=h0.size;exact⟨(hx.frame (sP _ _ _ _ _ _ _ _ _ _ _ fun k hk=>by omega)).imp fun b hb _=>by omega,iX (h0.trans (hb.mono hs)) h1 _ _ _ _ _ _ _ _⟩
end Go.Proofs.YtknicmmigbhpcaaGreatDoor
