/- Walks and plain laws: ExprMem, ReadW1, ReadW2, ParseW7. -/
import Derived.Test.YtdednahplodojaaGreatDoorB09
set_option maxHeartbeats 16000000
set_option maxRecDepth 100000
set_option linter.unusedVariables false
set_option linter.unusedSimpArgs false
namespace Go.Proofs.YtdednahplodojaaGreatDoor
open Go.RowKit
def SlP (P:Nat→Prop)(w:World)(v:Value)(sz n:Nat)(cs:List Value):Prop :=
 ∃ ao cap,v=.slice ao n cap∧n≤cap∧cs.length=n * sz ∧
  (0<n→∃ b off,ao=some ⟨b,off,none⟩∧P b∧b<w.heap.size∧∀ i,(h:i<cs.length)→w.cell? ⟨b,off+i,none⟩=some cs[i])
def Alk (P:Nat→Prop)(w w':World):Prop:=w.heap.size≤w'.heap.size∧∀ b,P b→b<w.heap.size→w'.heap[b]?=w.heap[b]?
theorem Alk.refl (P:Nat→Prop)(w:World):Alk P w w:=⟨Nat.le_refl _,fun _ _ _=>rfl⟩
theorem Alk.trans {P:Nat→Prop}{a b c:World}(h:Alk P a b)(k:Alk P b c):Alk P a c:=⟨Nat.le_trans h.1 k.1,fun n hn hl=>(k.2 n hn (Nat.lt_of_lt_of_le hl h.1)).trans (h.2 n hn hl)⟩
theorem Alk.of {P:Nat→Prop}{w w':World}(h:Below w.heap.size w w'):Alk P w w':=⟨h.size,fun b _ hb=>h.block b hb⟩
theorem Alk.ofB {P:Nat→Prop}{B:Nat}{w w':World}(h:Below B w w')(hP:∀ b,P b→b<B):Alk P w w':=⟨h.size,fun b hb _=>h.block b (hP b hb)⟩
theorem Alk.grown {P:Nat→Prop}{w w':World}{row:Option Nat}(h:w.grownBy w' row)(hP:∀ b,P b→some b≠row):Alk P w w':=⟨h.size,fun b hb hl=>h.block b hl (hP b hb)⟩
theorem Alk.set {P:Nat→Prop}{w:World}{a:Addr}(u:Value)(hP:∀ b,P b→b≠a.block):Alk P w (w.setCell a u):=⟨by simp,fun b hb _=>heap_setCell_other _ _ _ _ (hP b hb)⟩
theorem SlP.frame {P:Nat→Prop}{w w':World}{v:Value}{sz n:Nat}{cs:List Value}(h:SlP P w v sz n cs)(ha:Alk P w w'):SlP P w' v sz n cs:=by
 obtain ⟨ao,cap,hv,hn,hl,hc⟩:=h
 refine ⟨ao,cap,hv,hn,hl,fun h0=>?_⟩
 obtain ⟨b,off,e,hP,hlt,hcell⟩:=hc h0
 exact ⟨b,off,e,hP,Nat.lt_of_lt_of_le hlt ha.1,fun i hi=>(World.cell?_of_block (a:=⟨b,off+i,none⟩) (ha.2 b hP hlt)).trans (hcell i hi)⟩
theorem SlP.imp {P Q:Nat→Prop}{w:World}{v:Value}{sz n:Nat}{cs:List Value}(h:SlP P w v sz n cs)(hq:∀ b,P b→b<w.heap.size→Q b):SlP Q w v sz n cs:=by
 obtain ⟨ao,cap,hv,hn,hl,hc⟩:=h
 refine ⟨ao,cap,hv,hn,hl,fun h0=>?_⟩
 obtain ⟨b,off,e,hP,hlt,hcell⟩:=hc h0
 exact ⟨b,off,e,hq b hP hlt,hlt,hcell⟩
theorem SlP.nil (P:Nat→Prop)(w:World)(sz:Nat):SlP P w (.slice none 0 0) sz 0 []:=⟨none,0,rfl,Nat.le_refl _,by simp,fun h=>absurd h (by omega)⟩
theorem SlP.ofOwns {P:Nat→Prop}{B:Nat}{w:World}{e sz:Nat}{v:Value}{n:Nat}{cs:List Value}(h:w.ownsRow B e sz v n cs)(hP:∀ b,B≤b→P b):SlP P w v sz n cs:=by
 obtain ⟨ao,cap,hv,hn,hl,hc⟩:=Sl.ofOwns h
 refine ⟨ao,cap,hv,hn,hl,fun h0=>?_⟩
 obtain ⟨b,off,e,hlt,hcell⟩:=hc h0
 refine ⟨b,off,e,hP b ?_,hlt,hcell⟩
 rcases h.2 with ⟨hv',h1⟩|⟨g,cap',cur,hv',hg,_⟩
 ·omega
 ·rw [hv,e] at hv'
  simp only [Value.slice.injEq,Option.some.injEq,Addr.mk.injEq] at hv'
  omega
theorem SlP.form {P:Nat→Prop}{w:World}{v:Value}{sz n:Nat}{cs:List Value}(h:SlP P w v sz n cs):∃ ao cap,v=.slice ao n cap:=by
 obtain ⟨ao,cap,hv,_⟩:=h
 exact ⟨ao,cap,hv⟩
structure Shape where
 sz:Nat
 cells:PE→Value→Value→List Value
 agg:PE→Value→Value→Value
 num:(Nat→Prop)→World→Int→Value→Prop
 len:∀ e m k,(cells e m k).length=sz
 frame:∀ {P:Nat→Prop} {w w':World} {n:Int} {m:Value},num P w n m→Alk P w w'→num P w' n m
 imp:∀ {P Q:Nat→Prop} {w:World} {n:Int} {m:Value},num P w n m→(∀ b,P b→b<w.heap.size→Q b)→num Q w n m
def rowsE (S:Shape):List PE→List (Value × Value)→List Value
 | e :: es,p :: l=>S.cells e p.1 p.2++rowsE S es l
 | _,_=>[]
mutual
def EAt (S:Shape)(P:Nat→Prop)(w:World)(mag kv:Value):PE→Prop
 | .mk _op _name _module num _txt _yes kids _at_=>S.num P w num mag∧∃ l:List (Value × Value),SlP P w kv S.sz kids.length (rowsE S kids l)∧EAtL S P w l kids
def EAtL (S:Shape)(P:Nat→Prop)(w:World)(l:List (Value × Value)):List PE→Prop
 | []=>l=[]
 | e :: es=>∃ p l',l=p :: l'∧EAt S P w p.1 p.2 e∧EAtL S P w l' es
end
mutual
theorem EAt.frame {S:Shape}{P:Nat→Prop}{w w':World}(ha:Alk P w w'):∀ {e:PE} {m k:Value},EAt S P w m k e→EAt S P w' m k e
 | .mk op name module num txt yes kids at_,m,k,h=>by
  rw [EAt] at h ⊢
  obtain ⟨h1,l,h2,h3⟩:=h
  exact ⟨S.frame h1 ha,l,h2.frame ha,EAtL.frame ha h3⟩
theorem EAtL.frame {S:Shape}{P:Nat→Prop}{w w':World}(ha:Alk P w w'):∀ {es:List PE} {l:List (Value × Value)},EAtL S P w l es→EAtL S P w' l es
 | [],l,h=>by rw [EAtL] at h ⊢;exact h
 | e :: es,l,h=>by
  rw [EAtL] at h ⊢
  obtain ⟨p,l',h1,h2,h3⟩:=h
  exact ⟨p,l',h1,EAt.frame ha h2,EAtL.frame ha h3⟩
end
mutual
theorem EAt.imp {S:Shape}{P Q:Nat→Prop}{w:World}(hq:∀ b,P b→b<w.heap.size→Q b):∀ {e:PE} {m k:Value},EAt S P w m k e→EAt S Q w m k e
 | .mk op name module num txt yes kids at_,m,k,h=>by
  rw [EAt] at h ⊢
  obtain ⟨h1,l,h2,h3⟩:=h
  exact ⟨S.imp h1 hq,l,h2.imp hq,EAtL.imp hq h3⟩
theorem EAtL.imp {S:Shape}{P Q:Nat→Prop}{w:World}(hq:∀ b,P b→b<w.heap.size→Q b):∀ {es:List PE} {l:List (Value × Value)},EAtL S P w l es→EAtL S Q w l es
 | [],l,h=>by rw [EAtL] at h ⊢;exact h
 | e :: es,l,h=>by
  rw [EAtL] at h ⊢
  obtain ⟨p,l',h1,h2,h3⟩:=h
  exact ⟨p,l',h1,EAt.imp hq h2,EAtL.imp hq h3⟩
end
theorem EAtL.len {S:Shape}{P:Nat→Prop}{w:World}:∀ {es:List PE} {l:List (Value × Value)},EAtL S P w l es→l.length=es.length
 | [],l,h=>by rw [EAtL] at h;subst h;rfl
 | e :: es,l,h=>by
  rw [EAtL] at h
  obtain ⟨p,l',rfl,_,h3⟩:=h
  simp [EAtL.len h3]
theorem EAtL.snoc {S:Shape}{P:Nat→Prop}{w:World}:∀ {es:List PE} {l:List (Value × Value)} {e:PE} {m k:Value},EAtL S P w l es→EAt S P w m k e→EAtL S P w (l++[(m,k)]) (es++[e])
 | [],l,e,m,k,h,h2=>by
  rw [EAtL] at h
  subst h
  rw [List.nil_append,List.nil_append,EAtL]
  exact ⟨(m,k),[],rfl,h2,by rw [EAtL]⟩
 | x :: es,l,e,m,k,h,h2=>by
  rw [EAtL] at h
  obtain ⟨p,l',rfl,h3,h4⟩:=h
  rw [List.cons_append,List.cons_append,EAtL]
  exact ⟨p,_,rfl,h3,h4.snoc h2⟩
theorem rowsE_snoc (S:Shape):∀ (es:List PE) (l:List (Value × Value)) (e:PE) (m k:Value),l.length=es.length→rowsE S (es++[e]) (l++[(m,k)])=rowsE S es l++S.cells e m k
 | [],[],e,m,k,_=>by simp [rowsE]
 | x :: es,p :: l,e,m,k,h=>by
  simp only [List.cons_append,rowsE,rowsE_snoc S es l e m k (by simpa using h),List.append_assoc]
 | [],_ :: _,_,_,_,h=>by simp at h
 | _ :: _,[],_,_,_,h=>by simp at h
theorem rowsE_at (S:Shape):∀ (es:List PE) (l:List (Value × Value)) (i j:Nat) (hl:l.length=es.length) (hi:i<es.length),j<S.sz→(rowsE S es l)[i * S.sz+j]?=(S.cells es[i] (l[i]'(by omega)).1 (l[i]'(by omega)).2)[j]?
 | [],[],i,j,_,h,_=>absurd h (by simp)
 | x :: es,p :: l,0,j,_,_,hj=>by
  simp only [rowsE,Nat.zero_mul,Nat.zero_add,List.getElem_cons_zero]
  rw [List.getElem?_append_left (by rw [S.len];exact hj)]
 | x :: es,p :: l,i+1,j,hl,hi,hj=>by
  simp only [rowsE,List.getElem_cons_succ]
  rw [List.getElem?_append_right (by rw [S.len,Nat.succ_mul];omega),S.len,show (i+1) * S.sz+j - S.sz=i * S.sz+j by rw [Nat.succ_mul];omega]
  exact rowsE_at S es l i j (by simpa using hl) (by simpa using hi) hj
 | [],_ :: _,_,_,h,_,_=>by simp at h
 | _ :: _,[],_,_,h,_,_=>by simp at h
theorem EAtL.get {S:Shape}{P:Nat→Prop}{w:World}:∀ {es:List PE} {l:List (Value × Value)} (h:EAtL S P w l es) (i:Nat) (hi:i<es.length),EAt S P w (l[i]'(by rw [h.len];exact hi)).1 (l[i]'(by rw [h.len];exact hi)).2 es[i]
 | [],l,h,i,hi=>absurd hi (by simp)
 | e :: es,l,h,i,hi=>by
  have h':=h
  rw [EAtL] at h'
  obtain ⟨p,l',rfl,h3,h4⟩:=h'
  cases i with
  | zero=>exact h3
  | succ i=>exact h4.get i (by simpa using hi)
theorem EAt.form {S:Shape}{P:Nat→Prop}{w:World}{e:PE}{mag kv:Value}(h:EAt S P w mag kv e):S.num P w e.num mag∧∃ ao cap,kv=.slice ao e.kids.length cap∧e.kids.length≤cap ∧
  (0<e.kids.length→∃ b off,ao=some ⟨b,off,none⟩∧P b∧b<w.heap.size∧∀ i,(hi:i<e.kids.length)→∃ m k,EAt S P w m k e.kids[i]∧∀ j u,(S.cells e.kids[i] m k)[j]?=some u→w.cell? ⟨b,off+i * S.sz+j,none⟩=some u):=by
 cases e with
 | mk op name module num txt yes kids at_ =>
  rw [EAt] at h
  obtain ⟨h1,l,⟨ao,cap,hv,hn,hl,hc⟩,h3⟩:=h
  refine ⟨h1,ao,cap,hv,hn,fun h0=>?_⟩
  obtain ⟨b,off,ha,hP,hlt,hcell⟩:=hc h0
  refine ⟨b,off,ha,hP,hlt,fun i hi=>?_⟩
  have hll:=h3.len
  refine ⟨_,_,h3.get i hi,fun j u hu=>?_⟩
  have hj:j<S.sz:=by
   rcases Nat.lt_or_ge j S.sz with h'|h'
   ·exact h'
   ·rw [List.getElem?_eq_none (by rw [S.len];exact h')] at hu;cases hu
  have hr:=rowsE_at S kids l i j hll hi hj
  have hu':=hr.trans hu
  obtain ⟨h',e⟩:=List.getElem?_eq_some_iff.1 hu'
  have:=hcell (i * S.sz+j) h'
  rw [e] at this
  rw [Nat.add_assoc]
  exact this
def NumAt (P:Nat→Prop)(w:World)(n:Int)(m:Value):Prop :=
 ∃ ws:List Nat,SlP P w m 1 ws.length (ws.map fun d=>.int .u32 (d:Nat))∧trimW ws=ws∧(∀ x∈ws,x<4294967296)∧magV ws=n.natAbs
def strV (l:List UInt8):Value:=.string ⟨l.toArray⟩
def XA:Shape where
 sz:=8
 cells e m k:=[.int .i64 e.op,strV e.name,strV e.module,.bool (decide (e.num<0)),m,.bool e.yes,k,.int .i64 e.at_]
 agg e m k:=.agg #[.int .i64 e.op,strV e.name,strV e.module,.bool (decide (e.num<0)),m,.bool e.yes,k,.int .i64 e.at_]
 num:=NumAt
 len _ _ _:=rfl
 frame h ha:=by obtain ⟨ws,h1,h2⟩:=h;exact ⟨ws,h1.frame ha,h2⟩
 imp h hq:=by obtain ⟨ws,h1,h2⟩:=h;exact ⟨ws,h1.imp hq,h2⟩
def XR:Shape where
 sz:=7
 cells e _ k:=[.int .i64 e.op,strV e.name,strV e.module,strV e.txt,.bool e.yes,k,.int .i64 e.at_]
 agg e _ k:=.agg #[.int .i64 e.op,strV e.name,strV e.module,strV e.txt,.bool e.yes,k,.int .i64 e.at_]
 num _ _ _ _:=True
 len _ _ _:=rfl
 frame _ _:=trivial
 imp _ _:=trivial
theorem NumAt.zero (P:Nat→Prop)(w:World):NumAt P w 0 (.slice none 0 0):=⟨[],SlP.nil P w 1,rfl,fun x h=>(by cases h),rfl⟩
def EPost (S:Shape)(e:PE)(w:World)(r:Ending)(w':World):Prop:=∃ m k,r=.returned (S.agg e m k)∧EAt S (fun b=>w.heap.size≤b) w' m k e∧Below w.heap.size w w'
theorem Rep.leafAt {nodes:List Nd}{n:Int}{u:Nat}(h:Rep nodes n u .leaf):∃ i:Nat,n=i∧nodes[i]?=some ⟨19,(u:Nat),[]⟩:=by
 rw [Rep] at h
 exact ⟨n.toNat,by omega,h.2⟩
theorem TreeAt.tok {B:Nat}{w:World}{tv nv:Value}{toks:List Tok}{nodes:List Nd}(h:TreeAt B w (.agg #[tv,nv]) toks nodes){u:Nat}(hu:u<toks.length) :
  ∃ b off cap,tv=.slice (some ⟨b,off,none⟩) toks.length cap∧b<B∧w.cell? ⟨b,off+u * 4,none⟩=some (.int .i64 toks[u].kind)∧w.cell? ⟨b,off+u * 4+1,none⟩=some (strV toks[u].lead)∧w.cell? ⟨b,off+u * 4+2,none⟩=some (strV toks[u].text)∧w.cell? ⟨b,off+u * 4+3,none⟩=some (.int .i64 toks[u].place):=by
 obtain ⟨tv',nv',l,h1,h2,h3,h4,h5⟩:=h
 obtain ⟨rfl,rfl⟩:tv=tv'∧nv=nv':=by simpa using h1
 obtain ⟨ao,cap,rfl,_,hf⟩:=h2.form (fun _=>rfl)
 obtain ⟨b,off,rfl,hb,hc⟩:=hf (by omega)
 exact ⟨b,off,cap,rfl,hb,hc u 0 _ hu rfl,hc u 1 _ hu rfl,hc u 2 _ hu rfl,hc u 3 _ hu rfl⟩
def tokVal (t:Tok):Value:=.agg #[.int .i64 t.kind,strV t.lead,strV t.text,.int .i64 t.place]
theorem rtoken_any (B:Nat)(tv nv:Value)(toks:List Tok)(nodes:List Nd)(i u:Nat)(w:World)(h:TreeAt B w (.agg #[tv,nv]) toks nodes)(_hB:B≤w.heap.size)(hn:nodes[i]?=some ⟨19,(u:Nat),[]⟩)(hu:u<toks.length) :
  Calls Tryz.prog 32 #[.agg #[tv,nv],.int .i64 i] w fun e w'=>e=.returned (tokVal toks[u])∧Below w.heap.size w w':=by
 obtain ⟨hi,hni⟩:=List.getElem?_eq_some_iff.1 hn
 obtain ⟨b,off,cap,kv,rfl,hb,_,x1,_,_⟩:=h.node hi
 obtain ⟨b2,off2,cap2,rfl,hb2,t0,t1,t2,t3⟩:=h.tok hu
 rw [hni] at x1
 simp only at x1
 generalize toks[u]=t at t0 t1 t2 t3
 obtain ⟨c,x,y,q⟩:=t
 simp only [strV] at t0 t1 t2 t3
 have hal:=((Below.refl w.heap.size w).alloc (Nat.le_refl _) (.cells #[.slice (some ⟨b2,off2,none⟩) toks.length cap2,.slice (some ⟨b,off,none⟩) nodes.length cap] 85)).alloc (by simp) (.cells #[.int .i64 0,.string ⟨#[]⟩,.string ⟨#[]⟩,.int .i64 0] 79)
 have x1':=cell_later hal x1
 have y0:=cell_later hal t0
 have y1:=cell_later hal t1
 have y2:=cell_later hal t2
 have y3:=cell_later hal t3
 have i1:(i:Int)<(nodes.length:Int):=by omega
 have i2:(u:Int)<(toks.length:Int):=by omega
 have hnr:((w.alloc (.cells #[.slice (some ⟨b2,off2,none⟩) toks.length cap2,.slice (some ⟨b,off,none⟩) nodes.length cap] 85)).alloc (.cells #[.int .i64 0,.string ⟨#[]⟩,.string ⟨#[]⟩,.int .i64 0] 79)).heap[w.heap.size]?=some (.cells #[.slice (some ⟨b2,off2,none⟩) toks.length cap2,.slice (some ⟨b,off,none⟩) nodes.length cap] 85 (0,0)):=(Lib.alloc_old _ _ _ (by simp)).trans (heap_alloc_new w _)
 have hnw:=heap_alloc_new (w.alloc (.cells #[.slice (some ⟨b2,off2,none⟩) toks.length cap2,.slice (some ⟨b,off,none⟩) nodes.length cap] 85)) (.cells #[.int .i64 0,.string ⟨#[]⟩,.string ⟨#[]⟩,.int .i64 0] 79)
 rw [World.size_alloc] at hnw
 clear t0 t1 t2 t3 x1 hn hni h
 go_enter Tryz.func32,Tryz.ntmps32
 go_wp2
 generalize (w.alloc _).alloc _=w1 at hnr hnw hal x1' y0 y1 y2 y3 ⊢
 have r0:w1.cell? ⟨w.heap.size,0,none⟩=some (.slice (some ⟨b2,off2,none⟩) toks.length cap2):=by rw [Lib.cell_of_heap hnr];rfl
 have r1:w1.cell? ⟨w.heap.size,1,none⟩=some (.slice (some ⟨b,off,none⟩) nodes.length cap):=by rw [Lib.cell_of_heap hnr];rfl
 go_still_tail 12,(by kernel_rfl)
 change wpList _ _ _ _ _ w1.drew
 have hald:=hal.drew
 have hnw2:w1.drew.heap[w.heap.size+1]?=some (.cells #[.int .i64 0,.string ⟨#[]⟩,.string ⟨#[]⟩,.int .i64 0] 79 (0,0)):=hnw
 generalize w1.drew=w2 at hald hnw2 ⊢
 have f0:w2.cell? ⟨w.heap.size+1,0,none⟩=some (.int .i64 0):=by rw [Lib.cell_of_heap hnw2];rfl
 have f1:w2.cell? ⟨w.heap.size+1,1,none⟩=some (.string ⟨#[]⟩):=by rw [Lib.cell_of_heap hnw2];rfl
 have f2:w2.cell? ⟨w.heap.size+1,2,none⟩=some (.string ⟨#[]⟩):=by rw [Lib.cell_of_heap hnw2];rfl
 have f3:w2.cell? ⟨w.heap.size+1,3,none⟩=some (.int .i64 0):=by rw [Lib.cell_of_heap hnw2];rfl
 have z0:∀ j,w2.frozen? ⟨w.heap.size+1,j,none⟩=false:=by intro j;simp [World.frozen?,hnw2]
 clear hnw hnw2 i1 i2 y0 y1 y2 y3 r0 r1 x1'
 go_wp2
 refine bodyPost_ret (v:=.agg #[.int .i64 c,.string ⟨x.toArray⟩,.string ⟨y.toArray⟩,.int .i64 q]) (by simp [results,Tryz.results32,go_sem,f0,f1,f2,f3]) rfl ⟨rfl,?_⟩
 exact (((hald.setCell (by simp) _).setCell (by simp) _).setCell (by simp) _).setCell (by simp) _
theorem Tryz.tokField2 (a b c d:Value)(w:World):(Instr.field 79 (.agg #[a,b,c,d]) 2).run Tryz.prog w=.ok c w:=by kernel_rfl
theorem rtext_any (B:Nat)(tv nv:Value)(toks:List Tok)(nodes:List Nd)(i u:Nat)(w:World)(h:TreeAt B w (.agg #[tv,nv]) toks nodes)(hB:B≤w.heap.size)(hn:nodes[i]?=some ⟨19,(u:Nat),[]⟩)(hu:u<toks.length) :
  Calls Tryz.prog 63 #[.agg #[tv,nv],.int .i64 i] w fun e w'=>e=.returned (strV toks[u].text)∧Below w.heap.size w w':=by
 have hb1:=(Below.refl w.heap.size w).alloc (Nat.le_refl _) (.cells #[tv,nv] 85)
 have HT:=Lib.hid (rtoken_any B tv nv toks nodes i u _ (h.below (hb1.mono hB)) (by have:=hb1.size;omega) hn hu)
 obtain ⟨a1,c1,a2,c2,e⟩:=h.slices
 obtain ⟨rfl,rfl⟩:tv=_∧nv=_:=by simpa using e
 generalize toks[u]=t at HT ⊢
 have hf:=fun w=>Tryz.tokField2 (.int .i64 t.kind) (strV t.lead) (strV t.text) (.int .i64 t.place) w
 unfold tokVal at HT
 clear h hn e
 go_enter Tryz.func63,Tryz.ntmps63
 go_wp2_with (go_at_call 32;refine HT.out.mono ?_;rintro e w1 ⟨rfl,hb2⟩)
 go_ret
 exact ⟨rfl,hb1.trans (hb2.mono hb1.size)⟩
theorem Tryz.infoInt:(Tryz.prog.info? 3).map (fun i=>(i.zero,i.size,i.bytes))=some (some (.int .i64 0),1,8):=by kernel_rfl
theorem partsF_snoc (nodes:List Nd)(ks:List Int)(k:Int):partsF nodes (ks++[k])=partsF nodes ks++if (nodes[k.toNat]?.map (·.kind)).getD 19 != 19 then [k] else []:=by
 unfold partsF
 rw [List.filter_append]
 congr 1
 rw [List.filter_cons,List.filter_nil]
def IPost (ks:List Int)(w:World)(e:Ending)(w':World):Prop:=∃ v,e=.returned v∧SlP (fun b=>w.heap.size≤b) w' v 1 ks.length (ks.map (Value.int .i64))∧Below w.heap.size w w'
theorem SlP.ints {P:Nat→Prop}{w:World}{v:Value}{ks:List Int}(h:SlP P w v 1 ks.length (ks.map (Value.int .i64))):∃ ao cap,v=.slice ao ks.length cap∧ks.length≤cap ∧
  (0<ks.length→∃ b off,ao=some ⟨b,off,none⟩∧P b∧b<w.heap.size∧∀ j,(hj:j<ks.length)→w.cell? ⟨b,off+j,none⟩=some (.int .i64 ks[j])):=by
 obtain ⟨ao,cap,hv,hn,hl,hc⟩:=h
 refine ⟨ao,cap,hv,hn,fun h0=>?_⟩
 obtain ⟨b,off,ha,hP,hlt,hcell⟩:=hc h0
 exact ⟨b,off,ha,hP,hlt,fun j hj=>by rw [hcell j (by simpa using hj)];simp⟩
theorem rparts_any (B:Nat)(tv nv:Value)(toks:List Tok)(nodes:List Nd)(i:Nat)(w:World)(h:TreeAt B w (.agg #[tv,nv]) toks nodes)(hB:B≤w.heap.size)(hi:i<nodes.length)
  (hk:∀ k∈nodes[i].kids,0≤k∧k<(nodes.length:Int)) (hl:nodes[i].kids.length≤1099511627776) :
  Calls Tryz.prog 103 #[.agg #[tv,nv],.int .i64 i] w (IPost (partsF nodes nodes[i].kids) w):=by
 obtain ⟨i0,hinf,hz0,hz1,hz2⟩:=info_parts Tryz.infoInt
 have HT:=Lib.hid h
 obtain ⟨a1,c1,_,_,e⟩:=h.slices
 obtain ⟨b,off,cap,kv,rfl,hb,_,_,x2,hkv⟩:=h.node hi
 obtain ⟨rfl,-⟩:tv=.slice a1 toks.length c1∧_:=by simpa using e
 generalize nodes[i].kids=ks at hk hl hkv ⊢
 obtain ⟨ak,ck,rfl,_,hf⟩:=hkv.form
 have HF:=Lib.hid hf
 have HK:=Lib.hid hk
 have hal:=(Below.refl w.heap.size w).alloc (Nat.le_refl _) (.cells #[.slice a1 toks.length c1,.slice (some ⟨b,off,none⟩) nodes.length cap] 85)
 have x2':=cell_later hal x2
 have hnr:=heap_alloc_new w (.cells #[.slice a1 toks.length c1,.slice (some ⟨b,off,none⟩) nodes.length cap] 85)
 have r0:(w.alloc (.cells #[.slice a1 toks.length c1,.slice (some ⟨b,off,none⟩) nodes.length cap] 85)).cell? ⟨w.heap.size,1,none⟩=some (.slice (some ⟨b,off,none⟩) nodes.length cap):=by rw [Lib.cell_of_heap hnr];rfl
 have i1:(i:Int)<(nodes.length:Int):=by omega
 clear hf hk h e hkv x2
 go_enter Tryz.func103,Tryz.ntmps103
 go_wp2
 generalize w.alloc _=w1 at hnr hal r0 x2' ⊢
 have hsz1:=hal.size
 go_loopw [5,16] (fun v k wr=>∃ j:Nat,j≤ks.length∧k=.int .i64 j∧wr.ownsRow w.heap.size 3 1 v (partsF nodes (ks.take j)).length ((partsF nodes (ks.take j)).map (Value.int .i64))∧wr.heap[w.heap.size]?=some (.cells #[.slice a1 toks.length c1,.slice (some ⟨b,off,none⟩) nodes.length cap] 85 (0,0))∧Below w.heap.size w wr) (fun _ k _=>ks.length - (intOf k).toNat)
 case atStart=>exact ⟨0,Nat.zero_le _,rfl,World.ownsRow_nil _ _ _ _,hnr,hal⟩
 case round =>
  obtain ⟨j,hj,rfl,hown,hrr,hbl⟩:=hrel
  have hz:=hbl.size
  have hlt:=(Array.getElem?_eq_some_iff.1 hrr).1
  by_cases hjl:j<ks.length
  ·obtain ⟨bk,ok,rfl,hbk,hcell⟩:=HF.out (by omega)
   have hx:=(hbl.cell (p:=⟨bk,ok+j,none⟩) (by show bk<_;omega)).trans (hcell j hjl)
   have hkj:=HK.out ks[j] (List.getElem_mem hjl)
   have hsn:=partsF_snoc nodes (ks.take j) ks[j]
   rw [← List.take_succ_eq_append_getElem hjl] at hsn
   have hjI:(j:Int)<(ks.length:Int):=by omega
   generalize ks[j]=q at hx hkj hsn
   obtain ⟨m,rfl⟩:∃ m:Nat,q=(m:Int):=⟨q.toNat,by omega⟩
   have hm:m<nodes.length:=by omega
   obtain ⟨b',off',cap',kv',e',_,y0,_,_,_⟩:=HT.out.node hm
   simp only [Value.slice.injEq,Option.some.injEq,Addr.mk.injEq,and_true] at e'
   obtain ⟨⟨rfl,rfl⟩,rfl⟩:(b=b'∧off=off')∧cap=cap':=by simpa using e'
   have y0':=(hbl.cell (p:=⟨b,off+m * 3,none⟩) (by show b<_;omega)).trans y0
   have hmI:(m:Int)<(nodes.length:Int):=by omega
   have r1:wr.cell? ⟨w.heap.size,1,none⟩=some (.slice (some ⟨b,off,none⟩) nodes.length cap):=by rw [Lib.cell_of_heap hrr];rfl
   have hlen:(partsF nodes (ks.take j)).length≤j:=by
    have:=List.length_filter_le (fun k:Int=>(nodes[k.toNat]?.map (·.kind)).getD 19 != 19) (ks.take j)
    rw [List.length_take] at this
    show (List.filter _ _).length≤j
    omega
   simp only [Int.toNat_natCast,List.getElem?_eq_getElem hm,Option.map_some,Option.getD_some] at hsn
   generalize nodes[m].kind=kd at y0' hsn
   clear y0 hcell e'
   by_cases hd:kd=19
   ·subst hd
    simp only [bne_self_eq_false,Bool.false_eq_true,if_false,List.append_nil] at hsn
    have HS:=Lib.hid hsn
    clear hsn
    go_wp2
    go_roundw
    case rel=>exact ⟨j+1,by omega,by go_num,by rw [HS.out];exact hown,hrr,hbl⟩
    case measure=>simp [intOf];omega
   ·have hd1:(kd != 19)=true:=by simp [hd]
    have hd2:(kd == 19)=false:=by simp [hd]
    rw [hd1] at hsn
    simp only [if_true] at hsn
    have HS:=Lib.hid hsn
    clear hsn
    generalize partsF nodes (ks.take j)=acc at hown hlen HS
    go_wp2_with (at_builtin;refine wpList_append_own _ rfl _ _ 80 rfl w.heap.size 3 i0 (.int .i64 0) 1 8 Tryz.underlying80 hinf hz0 hz1 hz2 rfl (by decide) _ _ _ rfl (hown.alloc _) ⟨wr.heap.size,0,none⟩ 1 1 [.int .i64 m] rfl rfl ?c1 ?c2 ?c3 ?c4 ?c5 ?_)
    case c1 =>
     intro j' u hj'
     have:=World.news_of_block (cs:=#[.int .i64 (m:Int)]) (t:=3) (fr:=(0,0)) (heap_alloc_new wr _) j' u (by simpa using hj')
     exact this
    case c2=>simp [Value.oneCell']
    case c3=>unfold maxLen;omega
    case c4=>omega
    case c5=>simp;omega
    intro v' w2 hown2 hgrow2 _
    have hb2:Below w.heap.size w w2:=(hbl.alloc hz _).grown hgrow2 (by simp;omega) (fun q hq=>by have:=(hown.lt q hq).1;omega)
    have hrr2:=own_block (hown.alloc _) hgrow2 ((Lib.alloc_old wr (.cells #[.int .i64 m] 3) _ hlt).trans hrr) (by decide)
    have H2:=Lib.hid hown2
    clear hgrow2 hown2 hown
    go_wp2
    go_roundw
    case rel=>exact ⟨j+1,by omega,by go_num,by rw [HS.out,List.length_append,List.map_append];exact H2.out,hrr2,hb2⟩
    case measure=>simp [intOf];omega
  ·have:j=ks.length:=by omega
   subst this
   rw [List.take_length] at hown
   have hjI:decide ((ks.length:Int)<(ks.length:Int))=false:=decide_eq_false (by omega)
   go_wp2
   go_ret
   exact ⟨_,rfl,SlP.ofOwns hown (fun b hb=>hb),hbl⟩
theorem expr_step (E:PEnv)(hE:E.ok)(g:Nat)(ih:AllT E g)(nest:Nat)(st:PSt)(r:Int × PSt)(w:World)(h:run E.toks E.depth (g+1) (.expr nest) st=some r)(hw:PW E st w)(hn:r.2.nodes.length+1≤1099511627776)(_hnest:nest≤E.depth+1) :
  Calls Tryz.prog 92 #[.pointer (some ⟨E.pb,0,none⟩),.int .i64 nest] w (PPost E r w):=by
 have hdep:=hE.2.2
 have HD:=Lib.hid (deep_any E hE nest st w hw)
 have hnd:(deepM E.toks E.depth nest st).fE=0→nest≤E.depth:=fun q=>by
  unfold deepM at q
  split at q
  ·exact (failM_fE (by decide) _ q).elim
  ·omega
 rw [run] at h
 generalize deepM E.toks E.depth nest st=s at HD h hnd
 by_cases hf:s.fE=0
 ·rw [if_neg (by simp [hf])] at h
  have hnest2:=hnd hf
  have hok:okB s=true:=decide_eq_true hf
  have HD':Hid (Calls Tryz.prog 143 #[.pointer (some ⟨E.pb,0,none⟩),.int .i64 nest] w (NPost E s false w)):=Lib.hid (HD.out.mono fun e w' ⟨he,hp⟩=>⟨by rw [he,hok];rfl,hp⟩)
  clear HD hnd hok
  by_cases hcl:s.clause=true
  ·rw [if_pos hcl] at h
   have HI:=Lib.hid (fun w' hp=>ih _ _ _ w' h hp hn hnest2)
   clear h
   go_enter Tryz.func92,Tryz.ntmps92
   go_wp2_with (go_at_call 143;refine HD'.out.mono ?_)
   rintro e w1 ⟨rfl,hp1,hk1⟩
   obtain ⟨_,_,c2,_,_,_⟩:=hp1.cells
   rw [hcl] at c2
   clear hcl
   go_wp2_with (go_at_call 144;refine (HI.out _ hp1).mono ?_)
   rintro e w2 ⟨rfl,hp2,hk2⟩
   go_wp2
   go_ret
   exact ⟨rfl,hp2,hk1.trans hk2⟩
  ·rw [if_neg hcl] at h
   have hcl':s.clause=false:=by simpa using hcl
   clear hcl
   have hHI:∀ (t:Task) (st:PSt) (r:Int × PSt),run E.toks E.depth g t st=some r→r.2.nodes.length+1≤1099511627776→nestOk E t→∀ w,PW E st w→taskCalls E r w t:=fun t st r h1 h2 h3 w h4=>ih t st r w h1 h4 h2 h3
   have ex:=run_ext E.toks E.depth g
   have fin:∀ a b:PSt,PExt a b→b.nodes.length+1≤1099511627776→a.nodes.length+1≤1099511627776:=fun a b h1 h2=>by have:=h1.2.2.2;omega
   have N1:=Lib.hid (fun w hp=>next_one E hE ⟨#[108,101,116]⟩ s w hp)
   have N2:=Lib.hid (fun w hp=>next_one E hE ⟨#[105,102]⟩ s w hp)
   have N3:=Lib.hid (fun w hp=>next_one E hE ⟨#[97,115,115,101,114,116]⟩ s w hp)
   by_cases hl:nextF E.toks s [tLet]=true
   ·rw [if_pos hl] at h
    have e1:nextF E.toks s [(⟨#[108,101,116]⟩:ByteArray).data.toList]=true:=hl
    obtain ⟨d,h1,h⟩:=Option.bind_eq_some_iff.1 h
    obtain ⟨f,h2,h⟩:=Option.bind_eq_some_iff.1 h
    injection h with h;subst h
    have n6:=fin _ _ (nodeM_ext _ _ _) hn
    have n5:=fin _ _ (ex _ _ _ h2) n6
    have n4:=fin _ _ (mustM_ext _ _ _) n5
    have n3:=fin _ _ (ex _ _ _ h1) n4
    have n2:=fin _ _ (mustM_ext _ _ _) n3
    have n1:=fin _ _ (kindM_ext _ _ _) n2
    have n0:=fin _ _ (leafM_ext _ _) n1
    have C1:=Lib.hid (fun w hp=>pleaf_any E s w hp hE.1 hE.2.1 n0)
    have C2:=Lib.hid (fun w hp=>kind_any E hE 1 (leafM E.toks s).2 w hp n1)
    have C3:=Lib.hid (fun w hp=>must_one E hE ⟨#[61]⟩ (kindM E.toks 1 (leafM E.toks s).2).2 w hp n2)
    have C4:=Lib.hid (hHI _ _ _ h1 n4 (by show nest+1≤_;omega))
    have C5:=Lib.hid (fun w hp=>must_one E hE ⟨#[105,110]⟩ d.2 w hp n4)
    have C6:=Lib.hid (hHI _ _ _ h2 n6 (by show nest+1≤_;omega))
    have C7:=Lib.hid (fun w hp=>node_lit E 7 [(leafM E.toks s).1,(kindM E.toks 1 (leafM E.toks s).2).1,(mustM E.toks [[61]] (kindM E.toks 1 (leafM E.toks s).2).2).1,d.1,(mustM E.toks [tIn] d.2).1,f.1] 6 _ f.2 w hp rfl rfl (by omega) n6)
    have E1:=Lib.hid e1
    clear h1 h2 hl e1 n0 n1 n2 n3 n4 n5 n6 hHI ex fin ih hn
    go_enter Tryz.func92,Tryz.ntmps92
    go_wp2_with (go_at_call 143;refine HD'.out.mono ?_)
    rintro e w1 ⟨rfl,hp1,hk1⟩
    obtain ⟨_,_,c2,_,_,_⟩:=hp1.cells
    rw [hcl'] at c2
    go_wp2_with (go_at_call 108;refine (N1.out w1 hp1).mono ?_)
    rintro e w2 ⟨rfl,hp2,hk2⟩
    rw [E1.out]
    obtain ⟨d0,_,_,_,_,_⟩:=hp2.cells
    clear c2
    go_wp2_with (go_at_call 110;refine (C1.out w2 hp2).mono ?_)
    rintro e w3 ⟨rfl,hp3,hk3⟩
    go_wp2_with (go_at_call 77;refine (C2.out w3 hp3).mono ?_)
    rintro e w4 ⟨rfl,hp4,hk4⟩
    go_wp2_with (go_at_call 111;refine (C3.out w4 hp4).mono ?_)
    rintro e w5 ⟨rfl,hp5,hk5⟩
    go_wp2_with (go_at_call 92;refine (C4.out w5 hp5).mono ?_)
    rintro e w6 ⟨rfl,hp6,hk6⟩
    go_wp2_with (go_at_call 111;refine (C5.out w6 hp6).mono ?_)
    rintro e w7 ⟨rfl,hp7,hk7⟩
    go_wp2_with (go_at_call 92;refine (C6.out w7 hp7).mono ?_)
    rintro e w8 ⟨rfl,hp8,hk8⟩
    go_wp2_with (go_at_call 76;refine (C7.out w8 hp8).mono ?_)
    rintro e w9 ⟨rfl,hp9,hk9⟩
    go_wp2
    go_ret
    exact ⟨rfl,hp9,((((((hk1.trans hk2).trans hk3).trans hk4).trans hk5).trans hk6).trans hk7).trans (hk8.trans hk9)⟩
   ·rw [if_neg hl] at h
    have e1:nextF E.toks s [(⟨#[108,101,116]⟩:ByteArray).data.toList]=false:=eq_false_of_ne_true hl
    clear hl
    by_cases hi:nextF E.toks s [tIf]=true
    ·rw [if_pos hi] at h
     have e2:nextF E.toks s [(⟨#[105,102]⟩:ByteArray).data.toList]=true:=hi
     obtain ⟨b,h0,h⟩:=Option.bind_eq_some_iff.1 h
     obtain ⟨d,h1,h⟩:=Option.bind_eq_some_iff.1 h
     obtain ⟨f,h2,h⟩:=Option.bind_eq_some_iff.1 h
     injection h with h;subst h
     have n6:=fin _ _ (nodeM_ext _ _ _) hn
     have n5:=fin _ _ (ex _ _ _ h2) n6
     have n4:=fin _ _ (mustM_ext _ _ _) n5
     have n3:=fin _ _ (ex _ _ _ h1) n4
     have n2:=fin _ _ (mustM_ext _ _ _) n3
     have n1:=fin _ _ (ex _ _ _ h0) n2
     have n0:=fin _ _ (leafM_ext _ _) n1
     have C1:=Lib.hid (fun w hp=>pleaf_any E s w hp hE.1 hE.2.1 n0)
     have C2:=Lib.hid (hHI _ _ _ h0 n2 (by show nest+1≤_;omega))
     have C3:=Lib.hid (fun w hp=>must_one E hE ⟨#[116,104,101,110]⟩ b.2 w hp n2)
     have C4:=Lib.hid (hHI _ _ _ h1 n4 (by show nest+1≤_;omega))
     have C5:=Lib.hid (fun w hp=>must_one E hE ⟨#[101,108,115,101]⟩ d.2 w hp n4)
     have C6:=Lib.hid (hHI _ _ _ h2 n6 (by show nest+1≤_;omega))
     have C7:=Lib.hid (fun w hp=>node_lit E 8 [(leafM E.toks s).1,b.1,(mustM E.toks [tThen] b.2).1,d.1,(mustM E.toks [tElse] d.2).1,f.1] 6 _ f.2 w hp rfl rfl (by omega) n6)
     have E1:=Lib.hid e1
     have E2:=Lib.hid e2
     clear h0 h1 h2 hi e1 e2 n0 n1 n2 n3 n4 n5 n6 hHI ex fin ih hn
     go_enter Tryz.func92,Tryz.ntmps92
     go_wp2_with (go_at_call 143;refine HD'.out.mono ?_)
     rintro e w1 ⟨rfl,hp1,hk1⟩
     obtain ⟨_,_,c2,_,_,_⟩:=hp1.cells
     rw [hcl'] at c2
     go_wp2_with (go_at_call 108;refine (N1.out w1 hp1).mono ?_)
     rintro e w2 ⟨rfl,hp2,hk2⟩
     rw [E1.out]
     obtain ⟨_,_,d2,_,_,_⟩:=hp2.cells
     rw [hcl'] at d2
     clear c2
     go_wp2_with (go_at_call 108;refine (N2.out w2 hp2).mono ?_)
     rintro e w3 ⟨rfl,hp3,hk3⟩
     rw [E2.out]
     obtain ⟨d0,_,_,_,_,_⟩:=hp3.cells
     clear d2
     go_wp2_with (go_at_call 110;refine (C1.out w3 hp3).mono ?_)
     rintro e w4 ⟨rfl,hp4,hk4⟩
     go_wp2_with (go_at_call 92;refine (C2.out w4 hp4).mono ?_)
     rintro e w5 ⟨rfl,hp5,hk5⟩
     go_wp2_with (go_at_call 111;refine (C3.out w5 hp5).mono ?_)
     rintro e w6 ⟨rfl,hp6,hk6⟩
     go_wp2_with (go_at_call 92;refine (C4.out w6 hp6).mono ?_)
     rintro e w7 ⟨rfl,hp7,hk7⟩
     go_wp2_with (go_at_call 111;refine (C5.out w7 hp7).mono ?_)
     rintro e w8 ⟨rfl,hp8,hk8⟩
     go_wp2_with (go_at_call 92;refine (C6.out w8 hp8).mono ?_)
     rintro e w9 ⟨rfl,hp9,hk9⟩
     go_wp2_with (go_at_call 76;refine (C7.out w9 hp9).mono ?_)
     rintro e w10 ⟨rfl,hp10,hk10⟩
     go_wp2
     go_ret
     exact ⟨rfl,hp10,((((((((hk1.trans hk2).trans hk3).trans hk4).trans hk5).trans hk6).trans hk7).trans hk8).trans hk9).trans hk10⟩
    ·rw [if_neg hi] at h
     have e2:nextF E.toks s [(⟨#[105,102]⟩:ByteArray).data.toList]=false:=eq_false_of_ne_true hi
     clear hi
     by_cases ha:nextF E.toks s [tAssert]=true
     ·rw [if_pos ha] at h
      have e3:nextF E.toks s [(⟨#[97,115,115,101,114,116]⟩:ByteArray).data.toList]=true:=ha
      obtain ⟨b,h0,h⟩:=Option.bind_eq_some_iff.1 h
      obtain ⟨d,h1,h⟩:=Option.bind_eq_some_iff.1 h
      injection h with h;subst h
      have n4:=fin _ _ (nodeM_ext _ _ _) hn
      have n3:=fin _ _ (ex _ _ _ h1) n4
      have n2:=fin _ _ (mustM_ext _ _ _) n3
      have n1:=fin _ _ (ex _ _ _ h0) n2
      have n0:=fin _ _ (leafM_ext _ _) n1
      have C1:=Lib.hid (fun w hp=>pleaf_any E s w hp hE.1 hE.2.1 n0)
      have C2:=Lib.hid (hHI _ _ _ h0 n2 (by show nest+1≤_;omega))
      have C3:=Lib.hid (fun w hp=>must_one E hE ⟨#[105,110]⟩ b.2 w hp n2)
      have C4:=Lib.hid (hHI _ _ _ h1 n4 (by show nest+1≤_;omega))
      have C5:=Lib.hid (fun w hp=>node_lit E 9 [(leafM E.toks s).1,b.1,(mustM E.toks [tIn] b.2).1,d.1] 4 _ d.2 w hp rfl rfl (by omega) n4)
      have E1:=Lib.hid e1
      have E2:=Lib.hid e2
      have E3:=Lib.hid e3
      clear h0 h1 ha e1 e2 e3 n0 n1 n2 n3 n4 hHI ex fin ih hn
      go_enter Tryz.func92,Tryz.ntmps92
      go_wp2_with (go_at_call 143;refine HD'.out.mono ?_)
      rintro e w1 ⟨rfl,hp1,hk1⟩
      obtain ⟨_,_,c2,_,_,_⟩:=hp1.cells
      rw [hcl'] at c2
      go_wp2_with (go_at_call 108;refine (N1.out w1 hp1).mono ?_)
      rintro e w2 ⟨rfl,hp2,hk2⟩
      rw [E1.out]
      go_wp2_with (go_at_call 108;refine (N2.out w2 hp2).mono ?_)
      rintro e w3 ⟨rfl,hp3,hk3⟩
      rw [E2.out]
      go_wp2_with (go_at_call 108;refine (N3.out w3 hp3).mono ?_)
      rintro e w4 ⟨rfl,hp4,hk4⟩
      rw [E3.out]
      obtain ⟨d0,_,_,_,_,_⟩:=hp4.cells
      clear c2
      go_wp2_with (go_at_call 110;refine (C1.out w4 hp4).mono ?_)
      rintro e w5 ⟨rfl,hp5,hk5⟩
      go_wp2_with (go_at_call 92;refine (C2.out w5 hp5).mono ?_)
      rintro e w6 ⟨rfl,hp6,hk6⟩
      go_wp2_with (go_at_call 111;refine (C3.out w6 hp6).mono ?_)
      rintro e w7 ⟨rfl,hp7,hk7⟩
      go_wp2_with (go_at_call 92;refine (C4.out w7 hp7).mono ?_)
      rintro e w8 ⟨rfl,hp8,hk8⟩
      go_wp2_with (go_at_call 76;refine (C5.out w8 hp8).mono ?_)
      rintro e w9 ⟨rfl,hp9,hk9⟩
      go_wp2
      go_ret
      exact ⟨rfl,hp9,(((((((hk1.trans hk2).trans hk3).trans hk4).trans hk5).trans hk6).trans hk7).trans hk8).trans hk9⟩
     ·rw [if_neg ha] at h
      have e3:nextF E.toks s [(⟨#[97,115,115,101,114,116]⟩:ByteArray).data.toList]=false:=eq_false_of_ne_true ha
      have HI:=Lib.hid (hHI _ _ _ h hn hnest2)
      have E1:=Lib.hid e1
      have E2:=Lib.hid e2
      have E3:=Lib.hid e3
      clear h ha e1 e2 e3 hHI ex fin ih hn
      go_enter Tryz.func92,Tryz.ntmps92
      go_wp2_with (go_at_call 143;refine HD'.out.mono ?_)
      rintro e w1 ⟨rfl,hp1,hk1⟩
      obtain ⟨_,_,c2,_,_,_⟩:=hp1.cells
      rw [hcl'] at c2
      go_wp2_with (go_at_call 108;refine (N1.out w1 hp1).mono ?_)
      rintro e w2 ⟨rfl,hp2,hk2⟩
      rw [E1.out]
      go_wp2_with (go_at_call 108;refine (N2.out w2 hp2).mono ?_)
      rintro e w3 ⟨rfl,hp3,hk3⟩
      rw [E2.out]
      go_wp2_with (go_at_call 108;refine (N3.out w3 hp3).mono ?_)
      rintro e w4 ⟨rfl,hp4,hk4⟩
      rw [E3.out]
      go_wp2_with (go_at_call 144;refine (HI.out w4 hp4).mono ?_)
      rintro e w5 ⟨rfl,hp5,hk5⟩
      go_wp2
      go_ret
      exact ⟨rfl,hp5,(((hk1.trans hk2).trans hk3).trans hk4).trans hk5⟩
 ·rw [if_pos hf] at h
  injection h with h
  subst h
  have hok:okB s=false:=decide_eq_false hf
  have HD':Hid (Calls Tryz.prog 143 #[.pointer (some ⟨E.pb,0,none⟩),.int .i64 nest] w (NPost E s true w)):=Lib.hid (HD.out.mono fun e w' ⟨he,hp⟩=>⟨by rw [he,hok];rfl,hp⟩)
  clear HD hnd hok hf
  go_enter Tryz.func92,Tryz.ntmps92
  go_wp2_with (go_at_call 143;refine HD'.out.mono ?_)
  rintro e w1 ⟨rfl,hp1,hk1⟩
  go_wp2
  go_ret
  exact ⟨rfl,hp1,hk1⟩
end Go.Proofs.YtdednahplodojaaGreatDoor
