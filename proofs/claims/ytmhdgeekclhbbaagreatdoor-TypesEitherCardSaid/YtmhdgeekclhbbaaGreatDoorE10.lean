/- Walks and plain laws, without a condition. -/
import Derived.Test.YtmhdgeekclhbbaaGreatDoorE09
import Derived.Laws.BitsAllLaws
import Derived.Lib.UnsafeStr
import Derived.Lib.SlicesMore
set_option maxHeartbeats 16000000
set_option maxRecDepth 100000
set_option linter.unusedVariables false
set_option linter.unusedSimpArgs false
namespace Go.Proofs.YtmhdgeekclhbbaaGreatDoor
open Go.RowKit Go
variable{kv m v:Value}{w:World}{P:Nat->Prop}{base n g cap:Nat}{l:aH}
structure oJ where
 sz:Nat
 cells:PZ->Value->Value->List Value
 agg:PZ->Value->Value->Value
 num:(Nat->Prop)->World->Int->Value->Prop
 len:∀ e m k,(cells e m k).length=sz
 frame:∀ {P:Nat->Prop} {w w':World} {n:Int} {m:Value},num P w n m->bA P w w'->num P w' n m
 imp:∀ {P Q:Nat->Prop} {w:World} {n:Int} {m:Value},num P w n m->(∀ b,P b->b<w.heap.size->Q b)->num Q w n m
def Hu (S:oJ):List PZ->List (Value × Value)->List Value
 | e :: es,p :: l=>S.cells e p.1 p.2++Hu S es l
 | _,_=>[]
mutual
def nD (S:oJ)(P:Nat->Prop)(w:World)(mag kv:Value):PZ->Prop
 | .mk _op _name adi num ah9 aA _at_=>S.num P w num mag/\∃ l:List (Value × Value),pO P w kv S.sz aA.length (Hu S aA l)/\kI S P w l aA
def kI (S:oJ)(P:Nat->Prop)(w:World)(l:List (Value × Value)):List PZ->Prop
 | []=>l=[]
 | e :: es=>∃ p l',l=p :: l'/\nD S P w p.1 p.2 e/\kI S P w l' es
end
mutual
theorem nD.frame {S:oJ}{P:Nat->Prop}{w w':World}(ha:bA P w w'):∀ {e:PZ} {m k:Value},nD S P w m k e->nD S P w' m k e
 | .mk op name module num yes aA at_,m,k,h=>by
  rw[nD] at h |-;obtain⟨h1,l,h2,h3⟩:=h;exact⟨S.frame h1 ha,l,h2.frame ha,kI.frame ha h3⟩
theorem kI.frame {S:oJ}{P:Nat->Prop}{w w':World}(ha:bA P w w'):∀ {es:List PZ} {l:List (Value × Value)},kI S P w l es->kI S P w' l es
 | [],l,h=>by rw[kI] at h |-;exact h
 | e :: es,l,h=>by
  rw[kI] at h |-;obtain⟨p,l',h1,h2,h3⟩:=h;exact⟨p,l',h1,nD.frame ha h2,kI.frame ha h3⟩
end
mutual
theorem nD.imp {S:oJ}{P Q:Nat->Prop}{w:World}(hq:∀ b,P b->b<w.heap.size->Q b):∀ {e:PZ} {m k:Value},nD S P w m k e->nD S Q w m k e
 | .mk op name module num yes aA at_,m,k,h=>by
  rw[nD] at h |-;obtain⟨h1,l,h2,h3⟩:=h;exact⟨S.imp h1 hq,l,h2.imp hq,kI.imp hq h3⟩
theorem kI.imp {S:oJ}{P Q:Nat->Prop}{w:World}(hq:∀ b,P b->b<w.heap.size->Q b):∀ {es:List PZ} {l:List (Value × Value)},kI S P w l es->kI S Q w l es
 | [],l,h=>by rw[kI] at h |-;exact h
 | e :: es,l,h=>by
  rw[kI] at h |-;obtain⟨p,l',h1,h2,h3⟩:=h;exact⟨p,l',h1,nD.imp hq h2,kI.imp hq h3⟩
end
theorem kI.len {S:oJ}{P:Nat->Prop}{w:World}:∀ {es:List PZ} {l:List (Value × Value)},kI S P w l es->l.length=es.length
 | [],l,h=>by rw[kI] at h;subst h;rfl
 | e :: es,l,h=>by
  rw[kI] at h;obtain⟨p,l',rfl,_,h3⟩:=h;simp[kI.len h3]
theorem kI.snoc {S:oJ}{P:Nat->Prop}{w:World}:∀ {es:List PZ} {l:List (Value × Value)} {e:PZ} {m k:Value},kI S P w l es->nD S P w m k e->kI S P w (l++[(m,k)]) (es++[e])
 | [],l,e,m,k,h,h2=>by
  rw[kI] at h;subst h;rw[qW,qW,kI];exact⟨(m,k),[],rfl,h2,by rw[kI]⟩
 | x :: es,l,e,m,k,h,h2=>by
  rw[kI] at h;obtain⟨p,l',rfl,h3,h4⟩:=h;rw[kF,kF,kI];exact⟨p,_,rfl,h3,h4.snoc h2⟩
theorem PV (S:oJ):∀ (es:List PZ) (l:List (Value × Value)) (i j:Nat) (hl:l.length=es.length) (hi:i<es.length),j<S.sz->(Hu S es l)[i * S.sz+j]?=(S.cells es[i] (l[i]'(by omega)).1 (l[i]'(by omega)).2)[j]?
 | [],[],i,j,_,h,_=>absurd h (by simp)
 | x :: es,p :: l,0,j,_,_,hj=>by
  simp only[Hu,Nat.zero_mul,Nat.zero_add,List.getElem_cons_zero];rw[List.getElem?_append_left (by rw[S.len];exact hj)]
 | x :: es,p :: l,i+1,j,hl,hi,hj=>by
  simp only[Hu,JG];rw[abj (by rw[S.len,Nat.succ_mul];omega),S.len,show (i+1) * S.sz+j - S.sz=i * S.sz+j by rw[Nat.succ_mul];omega];exact PV S es l i j (by simpa using hl) (by simpa using hi) hj
 | [],_ :: _,_,_,h,_,_=>by simp at h
 | _ :: _,[],_,_,h,_,_=>by simp at h
theorem kI.get {S:oJ}{P:Nat->Prop}{w:World}:∀ {es:List PZ} {l:List (Value × Value)} (h:kI S P w l es) (i:Nat) (hi:i<es.length),nD S P w (l[i]'(by rw[h.len];exact hi)).1 (l[i]'(by rw[h.len];exact hi)).2 es[i]
 | [],l,h,i,hi=>absurd hi (by simp)
 | e :: es,l,h,i,hi=>by
  have h':=h;rw[kI] at h';obtain⟨p,l',rfl,h3,h4⟩:=h'
  cases i with
  | zero=>exact h3
  | succ i=>exact h4.get i (by simpa using hi)
theorem nD.form {S:oJ}{e:PZ}{mag:Value}(h:nD S P w mag kv e):S.num P w e.num mag/\∃ ao cap,kv=.slice ao e.aA.length cap/\e.aA.length<=cap /\
  (0<e.aA.length->∃ b off,ao=some ⟨b,off,none⟩/\P b/\b<w.heap.size/\∀ i,(hi:i<e.aA.length)->∃ m k,nD S P w m k e.aA[i]/\∀ j u,(S.cells e.aA[i] m k)[j]?=some u->w.cell? ⟨b,off+i * S.sz+j,none⟩=some u):=by
 cases e with
 | mk op name module num yes aA at_ =>
  rw[nD] at h;obtain⟨h1,l,⟨ao,cap,hv,hn,hl,hc⟩,h3⟩:=h;refine⟨h1,ao,cap,hv,hn,λh0=>?_⟩;obtain⟨b,off,ha,hP,hlt,hcell⟩:=hc h0;refine⟨b,off,ha,hP,hlt,λi hi=>?_⟩;have hll:=h3.len;refine⟨_,_,h3.get i hi,λj u hu=>?_⟩
  have hj:j<S.sz:=by
   rcases Nat.lt_or_ge j S.sz with h'|h'
   ·exact h'
   ·rw[List.getElem?_eq_none (by rw[S.len];exact h')] at hu;cases hu
  have hr:=PV S aA l i j hll hi hj;have hu':=hr.trans hu;obtain⟨h',e⟩:=qm hu';have:=hcell (i * S.sz+j) h';rw[e] at this;rw[wU];exact this
def YA:oJ where
 sz:=8
 cells e m k:=[.int .i64 e.op,dX e.name,dX e.module,.bool (decide (e.num<0)),m,.bool e.yes,k,.int .i64 e.at_]
 agg e m k:=.agg #[.int .i64 e.op,dX e.name,dX e.module,.bool (decide (e.num<0)),m,.bool e.yes,k,.int .i64 e.at_]
 num:=ow
 len _ _ _:=rfl
 frame h ha:=by obtain⟨ws,h1,h2⟩:=h;exact⟨ws,h1.frame ha,h2⟩
 imp h hq:=by obtain⟨ws,h1,h2⟩:=h;exact⟨ws,h1.imp hq,h2⟩
def ZK (S:oJ):RK PZ (Value × Value) where
 sz:=S.sz
 cells e p:=S.cells e p.1 p.2
 inn P w e p:=nD S P w p.1 p.2 e
 len e p:=S.len e p.1 p.2
 frame h ha:=h.frame ha
 imp h hq:=h.imp hq
theorem PX (e:PE)(m k:Value):YA.cells e.z m k=XA.cells e m k:=by cases e;rfl
theorem PY:∀ (es:List PE) (l:List (Value × Value)),Hu YA (Ht es) l=rX XA es l
 | [],_=>rfl
 | e :: es,[]=>rfl
 | e :: es,p :: l=>by rw[Ht,Hu,rX,PX,PY es l]
mutual
theorem nD.ofE {P:Nat->Prop}{w:World}:∀ {e:PE} {m k:Value},qC XA P w m k e->nD YA P w m k e.z
 | .mk op nm md num txt yes aA at_,m,k,h=>by
  rw[qC] at h;obtain⟨h1,l,h2,h3⟩:=h;rw[PE.z,nD];refine⟨h1,l,?_,kI.ofE h3⟩;rw[PY,MO,vL];exact h2
theorem kI.ofE {P:Nat->Prop}{w:World}:∀ {es:List PE} {l:List (Value × Value)},jl XA P w l es->kI YA P w l (Ht es)
 | [],l,h=>by rw[jl] at h;rw[Ht,kI];exact h
 | e :: es,l,h=>by
  rw[jl] at h;obtain⟨p,l',h1,h2,h3⟩:=h;rw[Ht,kI];exact⟨p,l',h1,nD.ofE h2,kI.ofE h3⟩
end
theorem abA (r x:Nat)(hr:r<4294967296)(hx:x<4294967296):bits BinOp.or IntKind.u64 ((r:Int) * 4294967296) (x:Int)=(r:Int) * 4294967296+(x:Int):=by
 have e:((r:Int) * 4294967296)=((r * 4294967296:Nat):Int):=by omega
 have h:(r * 4294967296) ||| x=r * 4294967296+x:=by
  rw[show (4294967296:Nat)=2 ^ 32 from rfl,<- Nat.shiftLeft_eq,Nat.shiftLeft_add_eq_or_of_lt (by omega)]
 rw[e,u64_or_nat _ _ (by omega) (by omega),h];omega
theorem abB {α:Type}(z v:α)(k:Nat)(L:List α):(List.replicate (k+1) z++L).set k v=List.replicate k z++v :: L:=by
 rw[List.replicate_succ',om,List.set_append_right _ _ (by simp),abt,Nat.sub_self]
 rfl
def La (b:Nat)(ws:List Nat)(w:World)(e:Ending)(w':World):Prop :=
 ∃ cap,e=.returned (.tuple #[.slice (some ⟨w.heap.size,0,none⟩) (dK (bL b ws).1).length cap,.int .u64 ((bL b ws).2:Nat)])/\Wd (λk=>w.heap.size<=k) w' (.slice (some ⟨w.heap.size,0,none⟩) (dK (bL b ws).1).length cap) (dK (bL b ws).1)/\Below w.heap.size w w'
theorem Tw (P:Nat->Prop)(ao:Option Addr)(cap:Nat)(ws:List Nat)(b:Nat)(w:World)(h:Wd P w (.slice ao ws.length cap) ws)(hw:∀ x∈ws,x<4294967296)(hb:0<b)(EO:b<=1000000000)(hn:ws.length<=1000) :
  Calls Tryz.prog 112 #[.slice ao ws.length cap,.int .u64 b] w (La b ws w):=by
 obtain⟨i0,hi,hz0,hz1,hz2⟩:=info_parts Tryz.Vm;obtain⟨ao',jc,hv,hc1,hf⟩:=h.form;simp only[Value.slice.injEq] at hv;obtain⟨rfl,-,rfl⟩:=hv;have HF:=ay hf;have HW:=ay hw;have hmk:=run_make (P:=Tryz.prog) w 60 255 i0 (.int .u32 0) Tryz.underlying60 hi hz0 .i64 .i64 ws.length ws.length (by omega) (by omega) (by rw[hz2];omega) (by omega);rw[hz1] at hmk;clear hf h hw;go_enter Tryz.func112,Tryz.ntmps112;go_wp2;have hnew:=aZ w (.cells (madeCells #[Value.int .u32 0] ws.length) 255);have hbw:=aB w (.cells (madeCells #[Value.int .u32 0] ws.length) 255);clear hmk;generalize w.alloc _=w2 at hnew hbw |-
 go_loopw [7,8] (λrv q wr=>∃ (k:Nat) (i:Int) (cs:Array Value),k<=ws.length/\q=.int .i64 i/\i+1=(k:Int)/\rv=.int .u64 ((bL b (ws.drop k)).2:Nat)/\wr.heap[w.heap.size]?=some (.cells cs 255 (0,0))/\cs.toList=List.replicate k (.int .u32 0)++(bL b (ws.drop k)).1.map (λd=>.int .u32 (d:Nat))/\Below w.heap.size w wr) (λ_ q _=>(intOf q+1).toNat)
 case atStart=>exact⟨ws.length,_,_,bI _,rfl,by omega,by rw[List.drop_length];rfl,hnew,by rw[toList_madeCells_one,List.drop_length];simp[bL],hbw⟩
 case round =>
  obtain⟨k,i,cs,hk,rfl,hik,rfl,hcs,hcl,hbl⟩:=hrel;have hz:=hbl.size
  cases k with
  | zero =>
   obtain rfl:i=-1:=by omega
   rw[List.drop_zero] at hcl |-;rw[List.replicate_zero,qW] at hcl;have hsl:=FQ b ws
   have hWd:Wd (λk=>w.heap.size<=k) wr (.slice (some ⟨w.heap.size,0,none⟩) (bL b ws).1.length ws.length) (bL b ws).1:=by
    refine⟨_,_,rfl,by rw[hsl];exact bI _,by simp,λh0=>⟨w.heap.size,0,rfl,bI _,(bU hcs).1,λj hj=>?_⟩⟩;rw[bg hcs,Nat.zero_add,<- Array.getElem?_toList,hcl,AB hj]
   have hT:=CY _ (some ⟨w.heap.size,0,none⟩) ws.length (bL b ws).1 wr hWd (by omega);obtain⟨n,n1,n2,_,_⟩:=vQ (bL b ws).1
   have hln:(dK (bL b ws).1).length=n:=by rw[n2,qX];omega
   have hW2:Wd (λk=>w.heap.size<=k) wr (.slice (some ⟨w.heap.size,0,none⟩) (dK (bL b ws).1).length ws.length) (dK (bL b ws).1):=by
    rw[hln,n2];exact hWd.take n1
   rw[hsl] at hT;have HT:=ay hT;have HW2:=ay hW2;clear hT hW2 hWd hsl hln n1 n2 hcl;go_wp2_with (go_at_call 178;refine HT.out.mono ?_;rintro e w8 ⟨rfl,rfl⟩);go_ret2;exact⟨_,rfl,HW2.out,hbl⟩
  | succ k =>
   obtain rfl:i=(k:Int):=by omega
   obtain⟨bk,off,rfl,_,hbk,hcell⟩:=HF.out (by omega);have hx:=(hbl.cell (p:=⟨bk,off+k,none⟩) hbk).trans (hcell k (by omega));have hxw:=HW.out ws[k] (oQ (by omega));have hdr:ws.drop k=ws[k] :: ws.drop (k+1):=List.drop_eq_getElem_cons (by omega);have hr:=tH b hb (ws.drop (k+1))
   have hsh:bL b (ws.drop k)=(((bL b (ws.drop (k+1))).2 * 4294967296+ws[k]) / b :: (bL b (ws.drop (k+1))).1,((bL b (ws.drop (k+1))).2 * 4294967296+ws[k]) % b):=by rw[hdr,bL]
   have HS:=ay hsh;have KY:=ay hcl;generalize (bL b (ws.drop (k+1))).2=r at hr HS |-;generalize ws[k]=x at hx hxw HS
   have qF:(k:Int)<(ws.length:Int):=by omega
   clear hcell hdr hsh hcl;have hlt:=(bU hcs).1;have hor:=abA r x (by omega) hxw
   have hk0:cs.toList[k]?=some (.int .u32 0):=by
    rw[KY.out,List.getElem?_append_left (by simp),List.getElem?_replicate,bq (by omega)]
   have o0:wr.cell? ⟨w.heap.size,k,none⟩=some (.int .u32 0):=by rw[bg hcs,<- Array.getElem?_toList];exact hk0
   have oz:∀ j,wr.frozen? ⟨w.heap.size,j,none⟩=false:=by intro j;simp[World.frozen?,hcs]
   clear hk0
   have hq:(r * 4294967296+x) / b<4294967296:=by
    rw[Nat.div_lt_iff_lt_mul hb];have:(r+1) * 4294967296<=b * 4294967296:=Nat.mul_le_mul_right _ hr;rw[Nat.mul_comm 4294967296 b];omega
   have e1:((r:Int) * 4294967296+(x:Int)) % (b:Int)=(((r * 4294967296+x) % b:Nat):Int):=by
    rw[Int.natCast_emod]
    congr 1
   have e2:((r:Int) * 4294967296+(x:Int)) / (b:Int) % 4294967296=(((r * 4294967296+x) / b:Nat):Int):=by
    have e3:((r:Int) * 4294967296+(x:Int)) / (b:Int)=(((r * 4294967296+x) / b:Nat):Int):=by
     rw[Int.natCast_ediv]
     congr 1
    rw[e3];generalize (r * 4294967296+x) / b=qq at hq |-;omega
   have E1:=ay e1;have E2:=ay e2;clear e1 e2;go_wp2;refine⟨⟨k,(k:Int) - 1,_,by omega,rfl,by omega,by rw[HS.out];exact Fu E1.out,kG wr w.heap.size k _ _ _ hcs,?_,hbl.setCell (bI _) _⟩,by simp[intOf]⟩;rw[Array.toList_setIfInBounds,KY.out,abB,HS.out,E2.out]
   rfl
def adM (bk:Nat)(l:aH)(rest:List Value)(fr:Nat × Nat)(w:World)(e:Ending)(w':World):Prop :=
 e=.returned (.tuple #[])/\w'.heap[bk]?=some (.cells (Lib.byteCells l.reverse++rest).toArray 5 fr)/\w'.heap.size=w.heap.size/\(∀ q,q≠bk->w'.heap[q]?=w.heap[q]?)/\Below bk w w'
theorem Lb (w:World):w.drew.heap=w.heap:=rfl
theorem Tx {α:Type}:∀ (M:List α),2<=M.length->∃ x N y,M=x :: (N++[y])
 | [],h=>absurd h (by simp)
 | [x],h=>absurd h (by simp)
 | x :: y :: l,_=>⟨x,(y :: l).dropLast,(y :: l).getLast (by simp),by rw[List.dropLast_concat_getLast]⟩
theorem Xr {α:Type}(A N C:List α)(x y:α):((A++(x :: (N++y :: C))).set A.length y).set (A.length+N.length+1) x=A++(y :: (N++x :: C)):=by
 rw[List.set_append_right _ _ (bI _),Nat.sub_self,List.set_cons_zero,List.set_append_right _ _ (by omega),show A.length+N.length+1 - A.length=N.length+1 by omega,List.set_cons_succ,List.set_append_right _ _ (bI _),Nat.sub_self,List.set_cons_zero]
theorem Ei (w:World)(b i:Nat)(cs:Array Value)(T:TypeId)(fr:Nat × Nat)(v:Value)(hb:w.heap[b]?=some (.cells cs T fr)) :
  (w.setCell ⟨b,i,none⟩ v).heap[b]?=some (.cells (cs.setIfInBounds i v) T fr):=by
 simp[World.setCell,Array.getElem?_modify,hb]
theorem P6 (bk cap:Nat)(l:aH)(rest:List Value)(fr:Nat × Nat)(w:World)(h:w.heap[bk]?=some (.cells (Lib.byteCells l++rest).toArray 5 fr))(hf:l.length<=fr.1)(hn:l.length<=1099511627776) :
  Calls Tryz.prog 114 #[.slice (some ⟨bk,0,none⟩) l.length cap] w (adM bk l rest fr w):=by
 go_enter Tryz.func114,Tryz.ntmps114;go_wp2
 go_loopg [2,3] l.length (λk s2 s3 wr=>∃ (A M C:aH),s2=.int .i64 (A.length:Nat)/\s3=.int .i64 ((A.length:Int)+(M.length:Int) - 1)/\M.length<=k/\l=C.reverse++M++A.reverse /\
  wr.heap[bk]?=some (.cells (Lib.byteCells (A++M++C)++rest).toArray 5 fr)/\wr.heap.size=w.heap.size/\(∀ q,q≠bk->wr.heap[q]?=w.heap[q]?)/\Below bk w wr)
 case atStart=>exact⟨[],l,[],rfl,by simp,bI _,by simp,by simpa using h,rfl,λ_ _=>rfl,bY _ _⟩
 case round =>
  obtain⟨A,M,C,rfl,rfl,hk,hl,hh,hsz,hoth,hbl⟩:=hrel
  have hlen:l.length=C.length+M.length+A.length:=by rw[hl];simp;omega
  by_cases hlt:2<=M.length
  ·obtain⟨x,N,y,rfl⟩:=Tx M hlt
   have hI:(A.length:Int)<(A.length:Int)+((x :: (N++[y])).length:Int) - 1:=by simp only[dN] at hlt |-;omega
   have hj:(A.length:Int)+((x :: (N++[y])).length:Int) - 1=((A.length+N.length+1:Nat):Int):=by simp;omega
   simp only[dN,bQ,iF] at hlen hk;rw[hj] at hI |-
   have e:A++(x :: (N++[y]))++C=A++(x :: (N++y :: C)):=by simp
   rw[e] at hh
   have ci:wr.cell? ⟨bk,A.length,none⟩=some (.int .u8 x.toNat):=by
    rw[bg hh];simp[Lib.byteCells]
   have cj:wr.cell? ⟨bk,A.length+N.length+1,none⟩=some (.int .u8 y.toNat):=by
    rw[bg hh,List.getElem?_toArray,Lib.byteCells,zJ,om,abj (by simp;omega)];simp only[vL];rw[show A.length+N.length+1 - A.length=N.length+1 by omega,mE,kF,List.getElem?_cons_succ,zJ,om,abj (by simp)]
    simp
   have fi:wr.frozen? ⟨bk,A.length,none⟩=false:=by
    simp[World.frozen?,hh];omega
   have fj:wr.frozen? ⟨bk,A.length+N.length+1,none⟩=false:=by
    simp[World.frozen?,hh];omega
   have h1:=Ei wr bk A.length _ _ _ (.int .u8 y.toNat) hh;have h2:=Ei _ bk (A.length+N.length+1) _ _ _ (.int .u8 x.toNat) h1;have HL:=ay hl;have HH:=ay hh;have H2:=ay h2;have HO:=ay hoth;clear hj hl hh h1 h2 hoth e;go_wp2_with fail
   go_region
   go_wp2
   go_roundg N.length
   case measure=>omega
   case rel =>
    refine⟨A++[y],N,x :: C,by simp,by simp;omega,bI _,by rw[HL.out];simp,?_,?_,?_,((hbl.setCell (bI _) _).setCell (bI _) _).drew⟩
    ·rw[Lb,H2.out]
     have e2:((Lib.byteCells (A++x :: (N++y :: C))++rest).toArray.setIfInBounds A.length (.int .u8 y.toNat)).setIfInBounds (A.length+N.length+1) (.int .u8 x.toNat)=(Lib.byteCells (A++[y]++N++x :: C)++rest).toArray:=by
      have:=Xr (Lib.byteCells A) (Lib.byteCells N) (Lib.byteCells C++rest) (.int .u8 x.toNat) (.int .u8 y.toNat);simp only[Lib.byteCells_length] at this
      apply Array.toList_inj.1
      simp only[Array.toList_setIfInBounds]
      have e3:Lib.byteCells (A++x :: (N++y :: C))++rest=Lib.byteCells A++(.int .u8 x.toNat :: (Lib.byteCells N++.int .u8 y.toNat :: (Lib.byteCells C++rest))):=by simp[Lib.byteCells]
      have e4:Lib.byteCells (A++[y]++N++x :: C)++rest=Lib.byteCells A++(.int .u8 y.toNat :: (Lib.byteCells N++.int .u8 x.toNat :: (Lib.byteCells C++rest))):=by simp[Lib.byteCells]
      rw[e3,e4,this]
     rw[e2]
    ·simpa using hsz
    ·intro q hq
     rw[Lb,qo _ _ _ _ hq,qo _ _ _ _ hq];exact HO.out q hq
  ·have hI:decide ((A.length:Int)<(A.length:Int)+(M.length:Int) - 1)=false:=fu (by omega)
   have hr:M.reverse=M:=by
    match M,hlt with
    | [],_=>rfl
    | [x],_=>rfl
    | x :: y :: l,h=>exact absurd h (by simp)
   have HR:Hid (A++M++C=l.reverse):=ay (by rw[hl];simp[hr]);have HH:=ay hh;clear hl hh hr;go_wp2
   go_end0
   exact⟨rfl,by rw[<- HR.out];exact HH.out,hsz,hoth,hbl⟩
mutual
def PE.size:PE->Nat
 | .mk _ _ _ _ _ _ aA _=>1+P7 aA
def P7:List PE->Nat
 | []=>0
 | e :: l=>e.size+P7 l
end
mutual
theorem PE.adN:∀ e:PE,e.ats.length=e.size
 | .mk _ _ _ _ _ _ aA _=>by rw[PE.ats,PE.size,dN,P8 aA,Nat.add_comm]
theorem P8:∀ l:List PE,(adh l).length=P7 l
 | []=>rfl
 | e :: l=>by rw[adh,P7,bQ,PE.adN e,P8 l]
end
theorem PE.xY (e:PE):e.size=1+P7 e.aA:=by cases e;rfl
theorem lQ (e:PE):∀ x∈e.aA,SizeOf.sizeOf x<SizeOf.sizeOf e:=by
 intro x hx
 cases e with
 | mk op name module num txt yes aA at_ =>
  have:=List.sizeOf_lt_of_mem hx;simp only[PE.mk.sizeOf_spec,PE.aA] at this |-;omega
theorem qC.Xt {k:Value}{x:PE}(h:qC XA P w m k x):∃ am wn cm ae ce,m=.slice am wn cm/\k=.slice ae x.aA.length ce:=by
 obtain⟨JR,ae,ce,rfl,_,_⟩:=h.form
 obtain⟨ws,hws,_⟩:=(JR:ow _ _ _ _)
 obtain⟨am,cm,rfl⟩:=hws.form;exact⟨am,_,cm,ae,ce,rfl,rfl⟩
def MS (l:aH)(w:World)(r:Ending)(w':World):Prop:=r=.returned (.string ⟨l.toArray⟩)/\Below w.heap.size w w'
theorem abC {W:World}{e:TypeId}{size:Nat}{xs:List Value}(h:W.ownsRow base e size v n xs)(h0:0<n):∃ g cap,v=.slice (some ⟨g,0,none⟩) n cap:=by
 rcases h.2 with ⟨_,h1⟩|⟨g,cap,_,rfl,_⟩
 ·omega
 ·exact⟨g,cap,rfl⟩
theorem Xu:∀ k:Nat,k<10->∀ h:k<(ByteArray.mk #[48,49,50,51,52,53,54,55,56,57]).size,(ByteArray.mk #[48,49,50,51,52,53,54,55,56,57])[k]'h=UInt8.ofNat (48+k)
 | 0,_=>λ_=>rfl
 | 1,_=>λ_=>rfl
 | 2,_=>λ_=>rfl
 | 3,_=>λ_=>rfl
 | 4,_=>λ_=>rfl
 | 5,_=>λ_=>rfl
 | 6,_=>λ_=>rfl
 | 7,_=>λ_=>rfl
 | 8,_=>λ_=>rfl
 | 9,_=>λ_=>rfl
 | n+10,h=>absurd h (by omega)
theorem MU (W:World)(hn:l.length=n)(h:W.ownsRow base 5 1 (.slice (some ⟨g,0,none⟩) n cap) n (Lib.byteCells l)) :
  (convert 147 9 (.slice (some ⟨g,0,none⟩) n cap)).run Tryz.prog W=.ok (.string ⟨l.toArray⟩) W:=by
 subst hn;refine run_convert_bytes_back _ 147 9 5 ⟨g,0,none⟩ cap l Tryz.underlying147 Tryz.underlying5 Tryz.underlying9 (λj hj=>?_);obtain⟨ao,c,hv,_,hl,hc⟩:=Sl.fZ h;obtain⟨b,o,ha,_,hcell⟩:=hc (by omega);simp only[Value.slice.injEq] at hv;rw[ha] at hv;simp only[Option.some.injEq,Addr.mk.injEq] at hv;obtain⟨⟨rfl,rfl,-⟩,-,-⟩:=hv;rw[show Addr.add ⟨g,0,none⟩ j=⟨g,0+j,none⟩ by unfold Addr.add;split<;>simp_all];have:=hcell j (by rw[hl];omega);rw[this];simp[Lib.byteCells]
theorem Wd.append {wr w3:World}{o:Obj}{v':Value}{us:List Nat}(h:Wd (λb=>some b≠v.ownBlock) wr m us)(hg:(wr.alloc o).grownBy w3 v.ownBlock)(hat:v.ownBlock=some g\/g=wr.heap.size+1)(hv:v'.ownBlock=some g) :
  Wd (λb=>some b≠v'.ownBlock) w3 m us:=by
 have h1:Wd (λb=>some b≠v.ownBlock/\some b≠v'.ownBlock) wr m us:=pO.imp h λb hb hlt=>⟨hb,λq=>by
  rw[hv] at q
  rcases hat with e|e
  ·exact hb (by rw[e,q])
  ·injection q;omega⟩
 have h2:Wd (λb=>some b≠v.ownBlock/\some b≠v'.ownBlock) (wr.alloc o) m us:=pO.frame h1 ⟨by simp,λb _ hb=>iB _ _ _ hb⟩
 exact pO.imp (pO.frame h2 (bA.grown hg λb hb=>hb.1)) λb hb _=>hb.2
theorem Xv (b:Bool)(am:Option Addr)(cm:Nat)(w:World) :
  Calls Tryz.prog 66 #[.agg #[.bool b,.slice am 0 cm]] w (MS [48] w):=by
 go_enter Tryz.func66,Tryz.ntmps66;go_wp2;go_ret;exact⟨rfl,(bY _ _).alloc (bI _) _⟩
theorem P9 (S:ByteArray)(c:Nat):bytesRow S c=(Lib.byteCells S.data.toList++List.replicate (c - S.size) (Value.int .u8 0)).toArray:=by
 apply Array.ext'
 simp[bytesRow,Lib.byteCells]
theorem Tz (W:World){rest:List Value}{T:TypeId}{fr:Nat × Nat}(hn:l.length=n)(h:W.heap[g]?=some (.cells (Lib.byteCells l++rest).toArray T fr)) :
  (convert 147 9 (.slice (some ⟨g,0,none⟩) n cap)).run Tryz.prog W=.ok (.string ⟨l.toArray⟩) W:=by
 subst hn;refine run_convert_bytes_back _ 147 9 5 ⟨g,0,none⟩ cap l Tryz.underlying147 Tryz.underlying5 Tryz.underlying9 (λj hj=>?_);rw[show Addr.add ⟨g,0,none⟩ j=⟨g,j,none⟩ by unfold Addr.add;split<;>simp_all,bg h,List.getElem?_toArray,List.getElem?_append_left (by simpa [Lib.byteCells] using hj)];simp[Lib.byteCells,hj]
def ZIn (bx:Array Value)(w:World)(n:Nat)(l:aH)(v m:Value)(us:List Nat)(wr:World):Prop :=
 Wd (λb=>some b≠v.ownBlock) wr m us/\wr.ownsRow w.heap.size 5 1 v n (Lib.byteCells l)/\Below w.heap.size w wr/\wr.heap[w.heap.size]?=some (.cells bx 62 (0,0))
def ag6 (bx:Array Value)(w:World)(n:Nat)(l:aH)(r:Nat)(m:Value)(us:List Nat)(v q c:Value)(wr:World):Prop :=
 ∃ i:Nat,i<=9/\c=.int .i64 i/\q=.int .u64 ((r / 10 ^ i:Nat):Int)/\ZIn bx w (n+i) (l++lg i r) v m us wr
def abD (bx:Array Value)(w:World)(N j:Nat)(v m:Value)(us:List Nat)(wr:World):Prop :=
 dK us=us/\(∀ x∈us,x<4294967296)/\jk us=N / 10 ^ (9 * j)/\Wd (λb=>some b≠v.ownBlock) wr m us/\wr.ownsRow w.heap.size 5 1 v (9 * j) (Lib.byteCells (lg (9 * j) N))/\Below w.heap.size w wr/\wr.heap[w.heap.size]?=some (.cells bx 62 (0,0))
def ag7 (bx:Array Value)(w:World)(k N:Nat)(v m:Value)(wr:World):Prop:=∃ j us am cm,j+k=7/\m=.slice am us.length cm/\abD bx w N j v m us wr
theorem abE (P:Nat->Prop)(am:Option Addr)(cm:Nat)(n:Int)(ws:List Nat)(w:World)(h:Wd P w (.slice am ws.length cm) ws)(ht:dK ws=ws)(hw:∀ x∈ws,x<4294967296)(hv:jk ws=n.natAbs)(hn:n.natAbs<10 ^ 60)(h0:0<ws.length) :
  Calls Tryz.prog 66 #[.agg #[.bool (decide (n<0)),.slice am ws.length cm]] w (MS (kr n) w):=by
 obtain⟨i0,hi,hz0,hz1,hz2⟩:=info_parts Tryz.infoByte
 have hN0:0<n.natAbs:=by rw[<- hv];exact yG ht (by intro q;rw[q] at h0;simp at h0)
 have h7:ws.length<=7:=Gx ws 7 ht (by rw[hv];exact Nat.lt_trans hn (by decide));have HT:=ay (show n≠0 by omega);have HS:Hid (ag7 #[.bool (decide (n<0)),.slice am ws.length cm] w 7 n.natAbs (.slice none 0 0) (.slice am ws.length cm) (w.alloc (.cells #[.bool (decide (n<0)),.slice am ws.length cm] 62))):=ay ⟨0,ws,am,cm,rfl,rfl,ht,hw,by rw[hv];simp,pO.imp (pO.frame h ⟨by simp,λb _ hb=>iB _ _ _ hb⟩) (λb _ _ q=>by cases q),World.ownsRow_nil _ _ _ _,(bY _ _).alloc (bI _) _,aZ w _⟩;have HN:=ay hn
 have hwl:(0:Int)<(ws.length:Int):=by omega
 have hwn:((ws.length:Int) == 0)=false:=Fa.2 (by omega);clear h ht hw hv hn hN0;generalize hng:decide (n<0)=ng at *;have HNG:=ay hng;clear hng;go_enter Tryz.func66,Tryz.ntmps66
 go_upto_region 5 with fail
 go_loopg [3,4] 7 (λk v m wr=>ag7 #[.bool ng,.slice am ws.length cm] w k n.natAbs v m wr)
 case atStart=>exact HS.out
 case round =>
  obtain⟨j,us,au,cu,hjk,rfl,ht,hw,hm,hwd,hrow,hbl,hbx⟩:=hrel
  obtain⟨v,rfl⟩:∃ v:Value,v=u3:=⟨_,rfl⟩
  obtain⟨w1,rfl⟩:∃ w1:World,w1=wr:=⟨_,rfl⟩
  have hz:=hbl.size
  by_cases hu:us.length=0
  ·have hu':=List.length_eq_zero_iff.1 hu
   subst hu'
   have hlt:n.natAbs<10 ^ (9 * j):=by
    rw[jk] at hm;exact(Nat.div_eq_zero_iff_lt (Nat.pow_pos (by omega))).1 hm.symm
   have Rw:=ay (ZY n (9 * j) HT.out hlt);have htl:=Z4 (lg (9 * j) n.natAbs);rw[Gy] at htl;have hll:=Gy (9 * j) n.natAbs
   have h9j:0<9 * j:=by
    rcases Nat.eq_zero_or_pos j with q|q
    ·subst q;simp at hlt;have:=HT.out;omega
    ·omega
   obtain⟨g,cap,rfl⟩:=abC hrow h9j;have hcv:=MU w1 hll hrow
   have bx0:w1.cell? ⟨w.heap.size,0,none⟩=some (.bool ng):=by rw[bg hbx];rfl
   have Tt:=ay (Tryz.strings_TrimRight_one ⟨(lg (9 * j) n.natAbs).toArray⟩ 48 (by decide) w1 (by rw[<- aS];simp[hll];omega));simp only[SL] at Tt;generalize lg (9 * j) n.natAbs=l at htl hll hcv Rw Tt hrow;obtain⟨TZ,hTZ,eTZ⟩:=jV (Ba l);rw[eTZ] at Tt;have HTZ:=ay hTZ
   have htz:TZ.size<=9 * j:=by rw[<- aS,hTZ];exact htl
   have hcb:=λ(W:World) (S:ByteArray)=>run_bytes_of_string (P:=Tryz.prog) W 9 147 5 S Tryz.underlying9 Tryz.underlying147 Tryz.underlying5
   have HBL:=ay hbl;clear hTZ eTZ htl hll hwd hrow ht hw hm hlt hbl
   go_upto_if 37 with (go_at_call 113;refine Tt.out.mono ?_;rintro e w2 ⟨rfl,hww⟩;obtain rfl:w1=w2:=hww.symm)
   go_cut [6] (λs wc=>∃ S:ByteArray,s=.string S/\S.data.toList.reverse=kr n/\S.size<=70/\wc=w1)
   case first =>
    cases ng with
    | true =>
     have hn0:=V7 HNG.out;have HR:Hid ((Ba l++[45]).reverse=kr n):=ay (by have:=Rw.out;rw[bq hn0] at this;exact this);clear hn0;go_wp2
     go_meet
     exact⟨_,rfl,by rw[DT,HTZ.out,<- HR.out],by simp[ByteArray.size_append];show TZ.size+1<=70;omega,rfl⟩
    | false =>
     have hn0:=of_decide_eq_false HNG.out;have HR:Hid ((Ba l).reverse=kr n):=ay (by have:=Rw.out;rw[aP hn0,List.append_nil] at this;exact this);clear hn0;go_wp2
     go_meet
     exact⟨TZ,rfl,by rw[HTZ.out,HR.out],by omega,rfl⟩
   case rest =>
    obtain⟨S,rfl,hS,hSz,rfl⟩:=hcut
    obtain⟨wo,rfl⟩:∃ wo:World,wo=wc:=⟨_,rfl⟩
    have HSS:=ay hS;have hcS:=hcb wo S;rw[P9] at hcS;have hnew:=aZ wo.drew (.cells (Lib.byteCells S.data.toList++List.replicate (grownCap wo S.size 0 5 - S.size) (Value.int .u8 0)).toArray 5 ((Lib.byteCells S.data.toList++List.replicate (grownCap wo S.size 0 5 - S.size) (Value.int .u8 0)).toArray.size,(Lib.byteCells S.data.toList++List.replicate (grownCap wo S.size 0 5 - S.size) (Value.int .u8 0)).toArray.size+1));have hbn:=aB wo.drew (.cells (Lib.byteCells S.data.toList++List.replicate (grownCap wo S.size 0 5 - S.size) (Value.int .u8 0)).toArray 5 ((Lib.byteCells S.data.toList++List.replicate (grownCap wo S.size 0 5 - S.size) (Value.int .u8 0)).toArray.size,(Lib.byteCells S.data.toList++List.replicate (grownCap wo S.size 0 5 - S.size) (Value.int .u8 0)).toArray.size+1))
    have hfz:S.data.toList.length<=((Lib.byteCells S.data.toList++List.replicate (grownCap wo S.size 0 5 - S.size) (Value.int .u8 0)).toArray.size,(Lib.byteCells S.data.toList++List.replicate (grownCap wo S.size 0 5 - S.size) (Value.int .u8 0)).toArray.size+1).1:=by simp[Lib.byteCells]
    generalize List.replicate (grownCap wo S.size 0 5 - S.size) (Value.int .u8 0)=rest at *;generalize ((Lib.byteCells S.data.toList++rest).toArray.size,(Lib.byteCells S.data.toList++rest).toArray.size+1)=fr at *;generalize grownCap wo S.size 0 5=cp at *;generalize wo.drew.alloc _=w5 at hcS hnew hbn;have hrv:=P6 wo.heap.size cp S.data.toList rest fr w5 hnew hfz (by rw[aS];omega);rw[aS] at hrv;have HRV:=ay hrv;clear hcb hrv hnew hfz hS hcv bx0;go_wp2_with (go_at_call 114;refine HRV.out.mono ?_;rintro e w6 ⟨rfl,hh6,hs6,ho6,hb6⟩;have hct:=Tz (cap:=cp) (n:=S.size) w6 (by simp) hh6);go_ret;exact⟨by rw[HSS.out];rfl,(HBL.out.drew.trans (hbn.mono hz)).trans (hb6.mono hz)⟩
  ·have hul:(0:Int)<(us.length:Int):=by omega
   have hmp:=yG ht (by intro q;rw[q] at hu;exact hu rfl)
   have hj6:j<=6:=by
    rcases Nat.lt_or_ge 6 j with q|q
    ·obtain rfl:j=7:=by omega
     rw[Nat.div_eq_of_lt (Nat.lt_trans HN.out (by decide))] at hm;omega
    ·exact q
   have Mv:us.length<=7:=Gx us 7 ht (by rw[hm];exact Nat.lt_of_le_of_lt (Nat.div_le_self _ _) (Nat.lt_trans HN.out (by decide)));have HSH:=ay (Tw _ au cu us 1000000000 w1 hwd hw (by omega) (by omega) (by omega));obtain⟨hd1,hd2⟩:=WV us n.natAbs (9 * j) hm;have hr9:=tH 1000000000 (by omega) us;have htr:=zO (bL 1000000000 us).1
   have hlt2:∀ x∈dK (bL 1000000000 us).1,x<4294967296:=λx hx=>Km 1000000000 (by omega) us hw x (Cv _ _ hx)
   have hlow:=WU (9 * j) n.natAbs;rw[<- hd2] at hlow;have HLW:=ay hlow;have HM:=ay (show dK (dK (bL 1000000000 us).1)=dK (bL 1000000000 us).1/\(∀ x∈dK (bL 1000000000 us).1,x<4294967296)/\jk (dK (bL 1000000000 us).1)=n.natAbs / 10 ^ (9 * (j+1)) from ⟨htr,hlt2,by rw[hd1,Nat.mul_add]⟩);unfold La at HSH;generalize (bL 1000000000 us).2=r at HSH hr9 HLW;generalize dK (bL 1000000000 us).1=us2 at HSH HM;generalize lg (9 * j) n.natAbs=l at hrow HLW;clear hwd hw ht hm hmp hd1 hd2 htr hlt2 hlow
   go_upto_region 8 with (go_at_call 112;refine HSH.out.mono ?_;rintro e w2 ⟨c2,rfl,hwd2,hb2⟩)
   have ajW:=hb2.size
   have hown:∀ q,v.ownBlock=some q->w.heap.size<=q/\q<w1.heap.size:=λq hq=>hrow.lt q hq
   have HI:Hid (ag6 #[.bool ng,.slice am ws.length cm] w (9 * j) l r (.slice (some ⟨w1.heap.size,0,none⟩) us2.length c2) us2 v (.int .u64 (r:Int)) (.int .i64 (0:Nat)) w2):=ay ⟨0,by omega,rfl,by simp,pO.imp hwd2 (λb hb _ q=>by have:=(hown b q.symm).2;omega),by simpa [lg] using own_below hrow hb2,hbl.trans (hb2.mono hz),(hb2.block _ (bU hbx).1).trans hbx⟩;clear hown hrow hwd2 hb2 hbl hbx;go_wp2
   go_loopw [3,5,22] (λv q c W=>ag6 #[.bool ng,.slice am ws.length cm] w (9 * j) l r (.slice (some ⟨w1.heap.size,0,none⟩) us2.length c2) us2 v q c W) (λ_ _ c _=>9 - (intOf c).toNat)
   case atStart=>exact HI.out
   case round =>
    obtain⟨i,hi9,rfl,rfl,hwd,hrow,hbl,hbx⟩:=hrel;have hzW:=hbl.size
    by_cases hlt:i<9
    ·have YP:r / 10 ^ i<1000000000:=Nat.lt_of_le_of_lt (Nat.div_le_self _ _) hr9
     have hsn:=Kn i r
     have hdv:r / 10 ^ (i+1)=r / 10 ^ i / 10:=by rw[Nat.pow_succ,Nat.div_div_eq_div_mul]
     have HDV:=ay hdv;have tZ:=ay hsn;generalize r / 10 ^ i=q at YP HDV tZ |-;have hix:=Xu (q % 10) (by omega);generalize UInt8.ofNat (48+q % 10)=c at hix tZ
     have hiI:(i:Int)<9:=by omega
     clear hsn hdv;go_wp2_with (at_builtin;refine wpList_append_lies _ rfl _ _ 147 rfl w.heap.size 5 i0 (.int .u8 0) 1 1 Tryz.underlying147 hi hz0 hz1 hz2 rfl (by decide) _ (9 * j+i) _ rfl (hrow.alloc _) ⟨wr.heap.size,0,none⟩ 1 1 [.int .u8 (c.toNat:Int)] rfl rfl ?c1 ?c2 ?c3 ?c4 ?c5 ?c6 _ rfl ?_)
     case c1 =>
      intro j' u hj';exact wS (cs:=#[.int .u8 (c.toNat:Int)]) (t:=5) (fr:=(0,0)) (aZ wr _) j' u (by simpa using hj')
     case c2=>simp[Value.oneCell']
     case c3=>omega
     case c4=>unfold maxLen;omega
     case c5=>omega
     case c6=>simp;omega
     intro g cap w3 lM hgrow3 ag8 hlt3;have ag9:=Wd.append (v':=.slice (some ⟨g,0,none⟩) (9 * j+i+1) cap) hwd hgrow3 (by simpa using ag8) rfl;have hb3:Below w.heap.size w w3:=(hbl.alloc hzW _).grown hgrow3 (by simp;omega) (λq hq=>by have:=(hrow.lt q hq).1;omega);have HIN:Hid (ZIn #[.bool ng,.slice am ws.length cm] w (9 * j+(i+1)) (l++lg (i+1) r) (.slice (some ⟨g,0,none⟩) (9 * j+i+1) cap) (.slice (some ⟨w1.heap.size,0,none⟩) us2.length c2) us2 w3):=ay ⟨ag9,by rw[tZ.out,<- om,Lib.byteCells_append];exact lM,hb3,jf (hrow.alloc _) hgrow3 ((iB _ _ _ (bU hbx).1).trans hbx) (by decide)⟩;clear ag9 hb3 lM hgrow3 ag8 hlt3 hwd hrow hbl hix hbx;go_wp2;exact⟨⟨i+1,by omega,by go_num,by rw[HDV.out];exact Fu (by omega),HIN.out⟩,by simp[intOf];omega⟩
    ·obtain rfl:i=9:=by omega
     have HO:Hid (abD #[.bool ng,.slice am ws.length cm] w n.natAbs (j+1) u3 (.slice (some ⟨w1.heap.size,0,none⟩) us2.length c2) us2 wr):=ay ⟨HM.out.1,HM.out.2.1,HM.out.2.2,hwd,by rw[Nat.mul_add,HLW.out];exact hrow,hbl,hbx⟩;clear hwd hrow hbl hbx;go_wp2
     go_roundg (6 - j)
     case measure=>omega
     case rel=>exact⟨j+1,us2,_,c2,by omega,rfl,HO.out⟩
theorem Qa (P:Nat->Prop)(am:Option Addr)(wn cm:Nat)(n:Int)(w:World)(h:ow P w n (.slice am wn cm))(hn:n.natAbs<10 ^ 60) :
  Calls Tryz.prog 66 #[.agg #[.bool (decide (n<0)),.slice am wn cm]] w (MS (kr n) w):=by
 obtain⟨ws,h1,h2,h3,h4⟩:=h;obtain⟨ao,cap,hv⟩:=h1.form;simp only[Value.slice.injEq] at hv;obtain⟨rfl,rfl,rfl⟩:=hv
 by_cases h0:ws.length=0
 ·have hw:=List.length_eq_zero_iff.1 h0
  subst hw
  have hz:n=0:=by rw[jk] at h4;omega
  subst hz
  have e:kr 0=[48]:=by
   have:=Bb 0;rw[show ((0:Nat):Int)=0 from rfl] at this;rw[this,iw,dif_pos (by omega)]
   rfl
  rw[e];exact Xv _ _ _ _
 ·exact abE P _ _ n ws w h1 h2 h3 h4 hn (by omega)
def aT (op:Int)(NM MD:ByteArray)(ng:Bool)(mv:Value)(ys:Bool)(kv:Value)(a_:Int):Array Value:=#[.int .i64 op,.string NM,.string MD,.bool ng,mv,.bool ys,kv,.int .i64 a_]
theorem aL {b:Nat}{op:Int}{NM MD:ByteArray}{ng ys:Bool}{mv:Value}{a_:Int}(h:w.heap[b]?=some (.cells (aT op NM MD ng mv ys kv a_) 64 (0,0))) :
    w.cell? ⟨b,0,none⟩=some (.int .i64 op)/\w.cell? ⟨b,1,none⟩=some (.string NM)/\w.cell? ⟨b,2,none⟩=some (.string MD)/\w.cell? ⟨b,3,none⟩=some (.bool ng)/\w.cell? ⟨b,4,none⟩=some mv/\w.cell? ⟨b,5,none⟩=some (.bool ys)/\w.cell? ⟨b,6,none⟩=some kv/\w.cell? ⟨b,7,none⟩=some (.int .i64 a_):=by
  refine⟨?_,?_,?_,?_,?_,?_,?_,?_⟩<;>(rw[bg h];rfl)
theorem CZ (s:ByteArray):s.toList.isEmpty=decide (s.data.toList=[])/\(s.toList == [])=decide (s.data.toList=[]):=by
  rw[Go.ByteArray.toList_eq]
  cases s.data.toList with
  | nil=>exact⟨rfl,rfl⟩
  | cons c l=>exact⟨by simp,by simp⟩
theorem Xw (op:Int)(NM MD:ByteArray)(ng:Bool)(am:Option Addr)(wn cm:Nat)(ys:Bool)(ae:Option Addr)(wk ce:Nat)(a_:Int)(w:World)(h1:NM.size<=1099511627776)(h2:MD.size<=1099511627776) :
    Calls Tryz.prog 197 #[.agg #[.int .i64 op,.string NM,.string MD,.bool ng,.slice am wn cm,.bool ys,.slice ae wk ce,.int .i64 a_]] w λr w'=>r=.returned (.bool (p9 op NM.data.toList MD.data.toList))/\Below w.heap.size w w':=by
  have P1:=ay (λW=>nC NM W h1);have P2:=ay (λW=>nC MD W h2);obtain⟨q1,q2⟩:=CZ MD;obtain⟨q3,q4⟩:=CZ NM
  have hN:p9 op NM.data.toList MD.data.toList=if op=3\/op=22 then bZ NM.data.toList && decide (MD.data.toList=[]) else if op=24 then bZ NM.data.toList && (decide (MD.data.toList=[]) || bZ MD.data.toList) else decide (NM.data.toList=[]) && decide (MD.data.toList=[]):=rfl
  rw[hN];clear hN;generalize decide (MD.data.toList=[])=eM at *;generalize decide (NM.data.toList=[])=eN at *;generalize bZ NM.data.toList=pN at *;generalize bZ MD.data.toList=pM at *
  obtain⟨res,hres⟩:∃ res,res=if op=3\/op=22 then pN && eM else if op=24 then pN && (eM || pM) else eN && eM:=⟨_,rfl⟩
  rw[<- hres];have HR:=ay hres;clear hres;have hb0:=aB w (.cells (aT op NM MD ng (.slice am wn cm) ys (.slice ae wk ce) a_) 64);have hB:=aZ w (.cells (aT op NM MD ng (.slice am wn cm) ys (.slice ae wk ce) a_) 64)
  have hs0:w.heap.size<(w.alloc (.cells (aT op NM MD ng (.slice am wn cm) ys (.slice ae wk ce) a_) 64)).heap.size:=by simp
  go_enter Tryz.func197,Tryz.ntmps197
  go_upto_region 1 with fail
  change Code.wp _ _ _ _ (w.alloc (.cells (aT op NM MD ng (.slice am wn cm) ys (.slice ae wk ce) a_) 64));generalize w.alloc _=w0 at hb0 hB hs0 |-;obtain⟨y0,y1,y2,-⟩:=aL hB
  by_cases h3:op=3\/op=22
  · rcases h3 with rfl|rfl<;>cases pN<;>cases eM<;>
      (go_wp2_with (go_at_call 42;refine(P1.out _).mono ?_;rintro r w1 ⟨rfl,hb1⟩;have z2:=(hb1.cell (p:=⟨w.heap.size,2,none⟩) hs0).trans y2)
       go_ret;exact⟨bF (by rw[HR.out];rfl),hb0.trans (hb1.mono hb0.size)⟩)
  · have H3:=ay h3
    have t3:(op == 3)=false:=Fa.2 λq=>h3 (.inl q)
    have t22:(op == 22)=false:=Fa.2 λq=>h3 (.inr q)
    by_cases h24:op=24
    · subst h24
      clear h3 t3 t22
      cases pN<;>cases eM<;>cases pM<;>
        (go_wp2_with (first|(go_at_call 42;(with_reducible refine(P1.out w0).mono ?_);rintro r w1 ⟨rfl,hb1⟩;have hs1:=hb1.size;have z2:=(hb1.cell (p:=⟨w.heap.size,2,none⟩) hs0).trans y2)|(go_at_call 42;(with_reducible refine(P2.out _).mono ?_);rintro r w2 ⟨rfl,hb2⟩))
         go_ret;first|exact⟨bF (by rw[HR.out];rfl),hb0.trans (hb1.mono hb0.size)⟩|exact⟨bF (by rw[HR.out];rfl),(hb0.trans (hb1.mono hb0.size)).trans (hb2.mono (by omega))⟩)
    · have H24:=ay h24
      have t24:(op == 24)=false:=Fa.2 h24;clear h3 h24
      cases eN<;>cases eM<;>(go_wp2;go_ret;exact⟨bF (by rw[HR.out,aP H3.out,aP H24.out];rfl),hb0⟩)
theorem adO (op:Int)(fm:Bool)(w:World):Calls Tryz.prog 196 #[.int .i64 op,.int .i64 (if fm=true then 0 else 1)] w λr w'=>r=.returned (.bool (Tn fm op))/\w=w':=by
  have h:Tn fm op=if fm=true then decide (op<=20) else decide (op≠4):=rfl
  rw[h];clear h
  cases fm with
  | true =>
    simp only[if_true]
    have e:decide (op<=20)=decide (op<21):=by by_cases q:op<=20<;>simp<;>omega
    rw[e];go_enter Tryz.func196,Tryz.ntmps196;go_wp2;go_ret;exact⟨rfl,rfl⟩
  | false =>
    simp only[Bool.false_eq_true,if_false]
    have e:decide (op≠4)=!(op == 4):=by by_cases q:op=4<;>simp[q]
    rw[e];go_enter Tryz.func196,Tryz.ntmps196;go_wp2;go_ret;exact⟨rfl,rfl⟩
def Ej (op:Int):Int:=if op<=4 then 0 else if op<=6 then 1 else if op<=20\/op=22\/op=23 then 2 else if op=21 then 3 else -1
theorem abF (op:Int)(w:World):Calls Tryz.prog 199 #[.int .i64 op] w λr w'=>r=.returned (.int .i64 (Ej op))/\w=w':=by
  unfold Ej
  by_cases h4:op<=4
  · rw[bq h4]
    go_enter Tryz.func199,Tryz.ntmps199;go_wp2;go_ret;exact⟨rfl,rfl⟩
  rw[aP h4]
  have t4:4<op:=by omega
  by_cases h6:op<=6
  · rw[bq h6]
    go_enter Tryz.func199,Tryz.ntmps199;go_wp2;go_ret;exact⟨rfl,rfl⟩
  rw[aP h6]
  have t6:6<op:=by omega
  by_cases h20:op<=20
  · rw[bq (.inl h20)]
    go_enter Tryz.func199,Tryz.ntmps199;go_wp2;go_ret;exact⟨rfl,rfl⟩
  have t20:20<op:=by omega
  by_cases h22:op=22
  · subst h22
    rw[bq (.inr (.inl rfl))];go_enter Tryz.func199,Tryz.ntmps199;go_wp2;go_ret;exact⟨rfl,rfl⟩
  by_cases h23:op=23
  · subst h23
    rw[bq (.inr (.inr rfl))];go_enter Tryz.func199,Tryz.ntmps199;go_wp2;go_ret;exact⟨rfl,rfl⟩
  rw[aP (by rintro(h|h|h)<;>omega)];have t22:(op == 22)=false:=Fa.2 h22;have t23:(op == 23)=false:=Fa.2 h23
  by_cases h21:op=21
  · subst h21
    go_enter Tryz.func199,Tryz.ntmps199;go_wp2;go_ret;exact⟨rfl,rfl⟩
  rw[aP h21];have t21:(op == 21)=false:=Fa.2 h21;clear h22 h23 h21;go_enter Tryz.func199,Tryz.ntmps199;go_wp2;go_ret;exact⟨rfl,rfl⟩
theorem TA (P:Nat->Prop)(op:Int)(NM MD:ByteArray)(n:Int)(am:Option Addr)(wn cm:Nat)(ys:Bool)(ae:Option Addr)(wk ce:Nat)(a_:Int)(w:World)(h:ow P w n (.slice am wn cm))(hn:n.natAbs<10 ^ 60) :
    Calls Tryz.prog 198 #[.agg #[.int .i64 op,.string NM,.string MD,.bool (decide (n<0)),.slice am wn cm,.bool ys,.slice ae wk ce,.int .i64 a_]] w λr w'=>r=.returned (.bool (tY op n ys))/\Below w.heap.size w w':=by
  have HS:=ay (λW (hW:Below w.heap.size w W)=>Xp P am wn cm n W (YA.frame h (bA.of hW)));have HT:=ay (λW (hW:Below w.heap.size w W)=>Qa P am wn cm n W (XA.frame h (bA.of hW)) hn)
  have hV:tY op n ys=if op=1 then decide (0<=n) && decide ((kr n).length<=60) && !ys else decide (n=0) && (decide (op=2) || !ys):=rfl
  rw[hV];clear hV h hn;obtain⟨TX,hTX,eT⟩:=jV (kr n);rw[<- hTX,aS];rw[show kr n=TX.data.toList from hTX.symm] at HT
  have HT:Hid (∀ W,Below w.heap.size w W->Calls Tryz.prog 66 #[.agg #[.bool (decide (n<0)),.slice am wn cm]] W λr w'=>r=.returned (.string TX)/\Below W.heap.size W w'):=ay λW hW=>(HT.out W hW).mono λr w' q=>⟨by rw[q.1],q.2⟩
  have h0:decide (0<=n)=decide (0<=n.sign):=by
    rcases Int.lt_trichotomy n 0 with q|q|q
    · rw[Int.sign_eq_neg_one_of_neg q,fu (by omega),fu (by omega)]
    · subst q;rfl
    · rw[Int.sign_eq_one_of_pos q,kS (by omega),kS (by omega)]
  have h1:decide (n=0)=(n.sign == 0):=by
    rcases Int.lt_trichotomy n 0 with q|q|q
    · rw[Int.sign_eq_neg_one_of_neg q,fu (by omega)];rfl
    · subst q;rfl
    · rw[Int.sign_eq_one_of_pos q,fu (by omega)];rfl
  rw[h0,h1];clear h0 h1 hTX eT;generalize decide (n<0)=ng at *;generalize n.sign=sg at *
  obtain⟨res,hres⟩:∃ res,res=if op=1 then decide (0<=sg) && decide (TX.size<=60) && !ys else sg == 0 && (decide (op=2) || !ys):=⟨_,rfl⟩
  rw[<- hres];have HR:=ay hres;clear hres;have hb0:=aB w (.cells (aT op NM MD ng (.slice am wn cm) ys (.slice ae wk ce) a_) 64);have hB:=aZ w (.cells (aT op NM MD ng (.slice am wn cm) ys (.slice ae wk ce) a_) 64)
  have hs0:w.heap.size<(w.alloc (.cells (aT op NM MD ng (.slice am wn cm) ys (.slice ae wk ce) a_) 64)).heap.size:=by simp
  go_enter Tryz.func198,Tryz.ntmps198
  go_upto_region 1 with fail
  change Code.wp _ _ _ _ (w.alloc (.cells (aT op NM MD ng (.slice am wn cm) ys (.slice ae wk ce) a_) 64));generalize w.alloc _=w0 at hb0 hB hs0 |-;obtain⟨y0,y1,y2,y3,y4,y5,-⟩:=aL hB
  by_cases h1:op=1
  · subst h1
    have HR2:Hid (res=(decide (0<=sg) && decide (TX.size<=60) && !ys)):=ay (by rw[HR.out,bq rfl]);clear HR;generalize hg:decide (0<=sg)=g0 at HR2
    have hl2:decide (TX.size<=60)=decide ((TX.size:Int)<=60):=by by_cases q:TX.size<=60<;>simp<;>omega
    rw[hl2] at HR2;clear hl2;generalize hl:decide ((TX.size:Int)<=60)=l0 at HR2
    cases g0<;>cases l0<;>cases ys<;>
      (go_wp2_with (first|(go_at_call 253;refine(HS.out _ hb0).mono ?_;rintro r w1 ⟨rfl,hb1⟩;have hbw:=hb0.trans (hb1.mono hb0.size);have hs1:=hb1.size;have z3:=(hb1.cell (p:=⟨w.heap.size,3,none⟩) hs0).trans y3;have z4:=(hb1.cell (p:=⟨w.heap.size,4,none⟩) hs0).trans y4;have z5:=(hb1.cell (p:=⟨w.heap.size,5,none⟩) hs0).trans y5)|(go_at_call 66;refine(HT.out _ hbw).mono ?_;rintro r w2 ⟨rfl,hb2⟩;have x5:=(hb2.cell (p:=⟨w.heap.size,5,none⟩) (by show w.heap.size<_;omega)).trans z5))
       go_ret;first|exact⟨bF (by rw[HR2.out];rfl),hbw⟩|exact⟨bF (by rw[HR2.out];rfl),hbw.trans (hb2.mono (by omega))⟩)
  · have HR2:Hid (res=(sg == 0 && (decide (op=2) || !ys))):=ay (by rw[HR.out,aP h1])
    clear HR;have t1:(op == 1)=false:=Fa.2 h1
    have t2:(op == 2)=decide (op=2):=by
      by_cases q:op=2
      · subst q;rfl
      · rw[fu q];exact Fa.2 q
    generalize decide (op=2)=d2 at *;generalize hg:(sg == 0)=g0 at *;clear h1
    cases g0<;>cases d2<;>cases ys<;>
      (go_wp2_with (go_at_call 253;refine(HS.out _ hb0).mono ?_;rintro r w1 ⟨rfl,hb1⟩;have hbw:=hb0.trans (hb1.mono hb0.size);have z0:=(hb1.cell (p:=⟨w.heap.size,0,none⟩) hs0).trans y0;have z5:=(hb1.cell (p:=⟨w.heap.size,5,none⟩) hs0).trans y5)
       go_ret;exact⟨bF (by rw[HR2.out];rfl),hbw⟩)
variable{e:PZ}{fm:Bool}{least:Int}
def eU (t:aH):Pc:=⟨[],if t∈uy then 2 else 1,t⟩
def abG (t:aH):Pc:=⟨[],3,t⟩
def qR (t:aH):Pc:=⟨[],4,t⟩
def Ag:List Pc->List Pc
 | []=>[]
 | p :: l=>⟨32 :: p.lead,p.kind,p.text⟩ :: l
def EP (least:Int)(k:Int × List Pc):List Pc:=if KV k.1<least then qR [40] :: (k.2++[qR [41]]) else k.2
def sF:List (List Pc)->List Pc
 | []=>[]
 | [t]=>t
 | t :: s :: l=>t++qR [44] :: Ag (sF (s :: l))
def kJ (op:Int)(nm md:aH)(num:Int)(yes:Bool)(ks:List (Int × List Pc)):List Pc :=
 if op=1 then [abG (kr num)]
 else if op=2 then [eU (if yes=true then [116,114,117,101] else [102,97,108,115,101])]
 else if op=3 then [eU nm]
 else if op=4 then [eU [114,101,115]]
 else if op=5 then qR [45] :: EP 9 (ks.getD 0 (0,[]))
 else if op=6 then eU [110,111,116] :: Ag (EP 4 (ks.getD 0 (0,[])))
 else if op=21 then eU [105,102] :: (Ag (ks.getD 0 (0,[])).2++Ag [eU [116,104,101,110]]++Ag (ks.getD 1 (0,[])).2++Ag [eU [101,108,115,101]]++Ag (ks.getD 2 (0,[])).2)
 else if op=22 then eU [108,101,116] :: (Ag [eU nm]++Ag [qR [61]]++Ag (ks.getD 0 (0,[])).2++Ag [eU [105,110]]++Ag (ks.getD 1 (0,[])).2)
 else if op=23 then eU [97,115,115,101,114,116] :: (Ag (ks.getD 0 (0,[])).2++Ag [eU [105,110]]++Ag (ks.getD 1 (0,[])).2)
 else if op=24 then (if md=[] then [] else [eU md,qR [46]])++([eU nm,qR [40]]++(sF (ks.map Prod.snd)++[qR [41]]))
 else EP (xV op) (ks.getD 0 (0,[]))++(Ag [qR (vk op)]++Ag (EP (BH op) (ks.getD 1 (0,[]))))
mutual
def PZ.uJ:PZ->List Pc
 | .mk op nm md num yes aA _=>kJ op nm md num yes (J3 aA)
def J3:List PZ->List (Int × List Pc)
 | []=>[]
 | e :: l=>(e.op,e.uJ) :: J3 l
end
theorem PZ.MV (e:PZ):e.uJ=kJ e.op e.name e.module e.num e.yes (J3 e.aA):=by cases e;rw[PZ.uJ];rfl
theorem BJ:∀ l:List PZ,J3 l=l.map λe=>(e.op,e.uJ)
 | []=>rfl
 | e :: l=>by rw[J3,BJ l];rfl
theorem Qb {l:List PZ}{i:Nat}(h:i<l.length):(J3 l).getD i (0,[])=(l[i].op,l[i].uJ):=by
 rw[BJ,Fb,abl,AB h];rfl
theorem PZ.lQ (e:PZ):∀ x∈e.aA,SizeOf.sizeOf x<SizeOf.sizeOf e:=by
 intro x hx
 cases e with
 | mk op name module num yes aA at_ =>
  have:=List.sizeOf_lt_of_mem hx;simp only[PZ.mk.sizeOf_spec,PZ.aA] at this |-;omega
structure Hw (fm:Bool) (e:PZ):Prop where
 op1:1<=e.op
 aix:e.op<=24
 may:Tn fm e.op=true
 names:p9 e.op e.name e.module=true
 values:tY e.op e.num e.yes=true
 count:countB e.op e.aA.length=true
 aA:∀ x∈e.aA,x.right fm=true
theorem PZ.MW (h:e.right fm=true):Hw fm e:=by
 rw[PZ.KW,PK] at h;simp only[qM,uK] at h;exact⟨h.1.1.1.1.1.1,h.1.1.1.1.1.2,h.1.1.1.1.2,h.1.1.1.2,h.1.1.2,h.1.2,xW.1 h.2⟩
inductive El:Int->Nat->Prop where
 | none {op}:1<=op->op<=4->El op 0
 | one {op}:op=5\/op=6->El op 1
 | two {op}:7<=op->op<=20->El op 2
 | iff:El 21 3
 | sZ:El 22 2
 | tq:El 23 2
 | call {z:Nat}:z<=8->El 24 z
theorem Hw.form (h:Hw fm e):El e.op e.aA.length:=by
 have h1:=h.op1;have h2:=h.aix;have hc:=h.count;unfold countB at hc;generalize e.op=op at *
 split at hc
 ·rw[uK] at hc;rw[hc];exact .none h1 (by omega)
 split at hc
 ·rw[uK] at hc;rw[hc];exact .one (by omega)
 split at hc
 ·rw[uK] at hc;rw[hc]
  by_cases q:op=22
  ·subst q;exact .sZ
  by_cases q2:op=23
  ·subst q2;exact .tq
  ·exact .two (by omega) (by omega)
 split at hc
 ·rename_i q;subst q;rw[uK] at hc;rw[hc];exact .iff
 ·rw[uK] at hc
  obtain rfl:op=24:=by omega
  exact .call hc
theorem fJ {l:List Pc}(h:l≠[]):aX (Ag l)=[32]++aX l:=by
 cases l with
 | nil=>exact absurd rfl h
 | cons p l=>simp[Ag,aX]
theorem Ah (p:Pc):aX (Ag [p])=32 :: (p.lead++p.text):=by simp[Ag,aX]
theorem Fv {k:Int × List Pc}(h:k.2≠[]):EP least k≠[]:=by
 unfold EP
 split
 ·simp
 ·exact h
theorem wh {op:Int}{q:List Pc}{t:aH}(h:aX q=t):aX (EP least (op,q))=tC least (op,t):=by
 unfold EP tC
 split
 ·simp[aX,dQ,qR,h]
 ·exact h
theorem Xx {t:List Pc}{l:List (List Pc)}(h:t≠[]):sF (t :: l)≠[]:=by
 cases l with
 | nil=>exact h
 | cons s l=>rw[sF];simp
theorem BK:∀ (es:List PZ),(∀ x∈es,aX x.uJ=x.text/\x.uJ≠[])->aX (sF (es.map PZ.uJ))=bR (es.map PZ.text)
 | [],_=>rfl
 | [e],h=>(h e (by simp)).1
 | e :: f :: l,h=>by
  have ih:=BK (f :: l) λx hx=>h x (xu _ hx)
  have hf:=(h f (by simp)).2;simp only[mE] at ih |-;rw[sF,bR,dQ,aX,fJ (Xx hf),ih,(h e (by simp)).1];simp[qR]
theorem PZ.bytes {fm:Bool}:∀ (n:Nat) (e:PZ),SizeOf.sizeOf e<n->e.right fm=true->aX e.uJ=e.text/\e.uJ≠[]
 | 0,_,h,_=>absurd h (by omega)
 | n+1,e,hs,hr=>by
  have R:=PZ.MW hr
  have ih:∀ x∈e.aA,aX x.uJ=x.text/\x.uJ≠[]:=λx hx=>PZ.bytes n x (by have:=e.lQ x hx;omega) (R.aA x hx)
  have F:=R.form;rw[e.MV,e.qH]
  have hk:∀ i,(h:i<e.aA.length)->(J3 e.aA).getD i (0,[])=(e.aA[i].op,e.aA[i].uJ)/\(je e.aA).getD i (0,[])=(e.aA[i].op,e.aA[i].text)/\aX e.aA[i].uJ=e.aA[i].text/\e.aA[i].uJ≠[]:=λi h=>⟨Qb h,nA h,ih _ (oQ h)⟩
  have hm:(J3 e.aA).map Prod.snd=e.aA.map PZ.uJ/\(je e.aA).map Prod.snd=e.aA.map PZ.text:=by
   rw[BJ,sD];simp
  have hcm:=BK e.aA ih;generalize e.aA=ks at *;generalize hn:ks.length=c at F;generalize e.op=op at *
  cases F with
  | none h1 h2 =>
   have:op=1\/op=2\/op=3\/op=4:=by omega
   rcases this with rfl|rfl|rfl|rfl<;>simp[kJ,pE,aX,abG,eU]
  | one h =>
   obtain⟨a1,a2,a3,a4⟩:=hk 0 (by omega)
   rcases h with rfl|rfl
   ·simp only[kJ,pE]
    simp only[aP,bq,show ¬ (5:Int)=1 by decide,show ¬ (5:Int)=2 by decide,show ¬ (5:Int)=3 by decide,show ¬ (5:Int)=4 by decide,not_false_eq_true];rw[a1,a2,aX,wh a3];simp[qR]
   ·simp only[kJ,pE]
    simp only[aP,bq,show ¬ (6:Int)=1 by decide,show ¬ (6:Int)=2 by decide,show ¬ (6:Int)=3 by decide,show ¬ (6:Int)=4 by decide,show ¬ (6:Int)=5 by decide,not_false_eq_true];rw[a1,a2,aX,fJ (Fv a4),wh a3];simp[eU]
  | two h1 h2 =>
   obtain⟨a1,a2,a3,a4⟩:=hk 0 (by omega);obtain⟨b1,b2,b3,b4⟩:=hk 1 (by omega)
   have e1:∀ k:Int,(k<=6\/21<=k)->¬ op=k:=λk hk q=>by omega
   simp only[kJ,pE]
   rw[aP (e1 1 (by omega)),aP (e1 2 (by omega)),aP (e1 3 (by omega)),aP (e1 4 (by omega)),aP (e1 5 (by omega)),aP (e1 6 (by omega)),aP (e1 21 (by omega)),aP (e1 22 (by omega)),aP (e1 23 (by omega)),aP (e1 24 (by omega)),
    aP (e1 1 (by omega)),aP (e1 2 (by omega)),aP (e1 3 (by omega)),aP (e1 4 (by omega)),aP (e1 5 (by omega)),aP (e1 6 (by omega)),aP (e1 21 (by omega)),aP (e1 22 (by omega)),aP (e1 23 (by omega)),aP (e1 24 (by omega)),a1,a2,b1,b2,dQ,dQ,fJ (by simp),fJ (Fv b4),wh a3,wh b3]
   simp[aX,qR,Ag]
  | iff =>
   obtain⟨a1,a2,a3,a4⟩:=hk 0 (by omega);obtain⟨b1,b2,b3,b4⟩:=hk 1 (by omega);obtain⟨c1,c2,c3,c4⟩:=hk 2 (by omega);simp only[kJ,pE];simp only[aP,bq,show ¬ (21:Int)=1 by decide,show ¬ (21:Int)=2 by decide,show ¬ (21:Int)=3 by decide,show ¬ (21:Int)=4 by decide,show ¬ (21:Int)=5 by decide,show ¬ (21:Int)=6 by decide,not_false_eq_true];rw[a1,a2,b1,b2,c1,c2];simp only[aX,dQ,fJ a4,fJ b4,fJ c4,a3,b3,c3,Ah,eU]
   simp
  | sZ =>
   obtain⟨a1,a2,a3,a4⟩:=hk 0 (by omega);obtain⟨b1,b2,b3,b4⟩:=hk 1 (by omega);simp only[kJ,pE];simp only[aP,bq,show ¬ (22:Int)=1 by decide,show ¬ (22:Int)=2 by decide,show ¬ (22:Int)=3 by decide,show ¬ (22:Int)=4 by decide,show ¬ (22:Int)=5 by decide,show ¬ (22:Int)=6 by decide,show ¬ (22:Int)=21 by decide,not_false_eq_true];rw[a1,a2,b1,b2];simp only[aX,dQ,fJ a4,fJ b4,a3,b3,Ah,eU,qR]
   simp
  | tq =>
   obtain⟨a1,a2,a3,a4⟩:=hk 0 (by omega);obtain⟨b1,b2,b3,b4⟩:=hk 1 (by omega);simp only[kJ,pE];simp only[aP,bq,show ¬ (23:Int)=1 by decide,show ¬ (23:Int)=2 by decide,show ¬ (23:Int)=3 by decide,show ¬ (23:Int)=4 by decide,show ¬ (23:Int)=5 by decide,show ¬ (23:Int)=6 by decide,show ¬ (23:Int)=21 by decide,show ¬ (23:Int)=22 by decide,not_false_eq_true];rw[a1,a2,b1,b2];simp only[aX,dQ,fJ a4,fJ b4,a3,b3,Ah,eU]
   simp
  | call h =>
   simp only[kJ,pE];simp only[aP,bq,show ¬ (24:Int)=1 by decide,show ¬ (24:Int)=2 by decide,show ¬ (24:Int)=3 by decide,show ¬ (24:Int)=4 by decide,show ¬ (24:Int)=5 by decide,show ¬ (24:Int)=6 by decide,show ¬ (24:Int)=21 by decide,show ¬ (24:Int)=22 by decide,show ¬ (24:Int)=23 by decide,not_false_eq_true];rw[hm.1,hm.2];simp only[aX,dQ,hcm,eU,qR]
   constructor
   ·split<;>simp[aX]
   ·simp
mutual
def PZ.fit:PZ->Prop
 | .mk _ nm md num _ aA _=>nm.length<=65536/\md.length<=65536/\num.natAbs<10 ^ 60/\aA.length<=65536/\MX aA
def MX:List PZ->Prop
 | []=>True
 | e :: l=>e.fit/\MX l
end
theorem Qc:∀ {l:List PZ},MX l->∀ e∈l,e.fit
 | x :: l,h,e,hm=>by
  rw[MX] at h
  rcases oo.1 hm with rfl|hm
  ·exact h.1
  ·exact Qc h.2 e hm
theorem PZ.ru (h:e.fit):e.name.length<=65536/\e.module.length<=65536/\e.num.natAbs<10 ^ 60/\e.aA.length<=65536/\∀ x∈e.aA,x.fit:=by
 cases e;rw[PZ.fit] at h;exact⟨h.1,h.2.1,h.2.2.1,h.2.2.2.1,Qc h.2.2.2.2⟩
theorem nD.Xt {P:Nat->Prop}{m k:Value}{x:PZ}(h:nD YA P w m k x):∃ am wn cm ae ce,m=.slice am wn cm/\k=.slice ae x.aA.length ce:=by
 obtain⟨JR,ae,ce,rfl,_,_⟩:=h.form
 obtain⟨ws,hws,_⟩:=(JR:ow _ _ _ _)
 obtain⟨am,cm,rfl⟩:=hws.form;exact⟨am,_,cm,ae,ce,rfl,rfl⟩
def lS (B:Nat)(w:World)(ae:Option Addr)(ks:List PZ):Prop:=0<ks.length->∃ b off,ae=some ⟨b,off,none⟩/\b<B/\b<w.heap.size/\∀ i,(hi:i<ks.length)->∃ am wn cm ak ck,nD YA (λb=>b<B) w (.slice am wn cm) (.slice ak ks[i].aA.length ck) ks[i]/\∀ j u,(YA.cells ks[i] (.slice am wn cm) (.slice ak ks[i].aA.length ck))[j]?=some u->w.cell? ⟨b,off+i * 8+j,none⟩=some u
theorem nD.abH {B:Nat}{mv:Value}{ae:Option Addr}{ce:Nat}(h:nD YA (λb=>b<B) w mv (.slice ae e.aA.length ce) e):lS B w ae e.aA:=by
 obtain⟨_,ae',ce',hv,_,hf⟩:=h.form;simp only[Value.slice.injEq] at hv;obtain⟨rfl,-,rfl⟩:=hv;intro h0;obtain⟨b,off,h1,h2,h3,h4⟩:=hf h0;refine⟨b,off,h1,h2,h3,λi hi=>?_⟩;obtain⟨m,k,h5,h6⟩:=h4 i hi;obtain⟨am,wn,cm,ak,ck,rfl,rfl⟩:=h5.Xt;exact⟨am,wn,cm,ak,ck,h5,h6⟩
def adP (f:FuncId)(lb:Array Value)(p:PZ->Bool)(B:Nat)(w:World)(x:PZ):Prop:=∀ (W:World) (am:Option Addr) (wn cm:Nat) (ak:Option Addr) (ck:Nat),Below w.heap.size w W->nD YA (λb=>b<B) W (.slice am wn cm) (.slice ak x.aA.length ck) x ->
 Calls Tryz.prog f (#[.agg #[.int .i64 x.op,.string ⟨x.name.toArray⟩,.string ⟨x.module.toArray⟩,.bool (decide (x.num<0)),.slice am wn cm,.bool x.yes,.slice ak x.aA.length ck,.int .i64 x.at_]]++lb) W λr w'=>r=.returned (.bool (p x))/\Below W.heap.size W w'
def C8 (p:PZ->Bool):List PZ->Nat->Int
 | [],_=>-1
 | x :: l,k=>if p x=true then k else C8 p l (k+1)
theorem Qd (p:PZ->Bool):∀ (l:List PZ) (k:Nat),decide (0<=C8 p l k)=l.any p
 | [],k=>rfl
 | x :: l,k=>by
  rw[C8,List.any_cons]
  split
  ·rename_i h;rw[h];exact kS (by omega)
  ·rename_i h;rw[wT] at h;rw[h,Qd p l];rfl
theorem Vn {p:PZ->Bool}:∀ {ks:List PZ} {k:Nat} (j:Nat) (h:k<ks.length),(∀ i,i<k->(hi:i<ks.length)->p ks[i]=false)->C8 p ks j=if p ks[k]=true then ((j+k:Nat):Int) else C8 p (ks.drop (k+1)) (j+k+1)
 | x :: l,0,j,h,_=>by simp[C8]
 | x :: l,k+1,j,h,hf=>by
  have h0:=hf 0 (by omega) (by simp)
  have ih:=Vn (p:=p) (ks:=l) (k:=k) (j+1) (by simpa using h) λi hi hl=>by have:=hf (i+1) (by omega) (by simpa using hl);simpa using this
  rw[C8,aP (by simpa using h0),ih];simp only[JG,List.drop_succ_cons];rw[show j+1+k=j+(k+1) by omega]
theorem Vo {p:PZ->Bool}:∀ {ks:List PZ} (j:Nat),(∀ i,(hi:i<ks.length)->p ks[i]=false)->C8 p ks j=-1
 | [],_,_=>rfl
 | x :: l,j,hf=>by
  have h0:=hf 0 (by simp);rw[C8,aP (by simpa using h0)]
  exact Vo (j+1) λi hi=>by have:=hf (i+1) (by simpa using hi);simpa using this
theorem TB (f:FuncId)(lb:Array Value)(p:PZ->Bool)(eg:∀ args w,(callFunc f args).run Tryz.prog w=.ok (.enter f args) w)(B:Nat)(ae:Option Addr)(ce:Nat)(ks:List PZ)(w:World)(hk:lS B w ae ks)(hB:B<=w.heap.size)(hn:ks.length<=1099511627776)(ha:∀ x∈ks,adP f lb p B w x) :
  Calls Tryz.prog 153 #[.slice ae ks.length ce,.func (.func f) #[] lb] w λr w'=>r=.returned (.int .i64 (C8 p ks 0))/\Below w.heap.size w w':=by
 have HK:=ay hk;have HA:=ay ha;clear hk ha;go_enter Tryz.func153,Tryz.ntmps153;go_wp2
 go_loopw [5,8] (λ_ q wr=>∃ k:Nat,k<=ks.length/\q=.int .i64 k/\(∀ i,i<k->(hi:i<ks.length)->p ks[i]=false)/\Below w.heap.size w wr) (λ_ q _=>ks.length - (intOf q).toNat)
 case atStart=>exact⟨0,mD _,rfl,λi hi=>absurd hi (by omega),bY _ _⟩
 case round =>
  obtain⟨k,hkl,rfl,hno,hbl⟩:=hrel;have hw:=hbl.size;have HN:=ay hno;clear hno
  by_cases hlt:k<ks.length
  ·obtain⟨b,off,rfl,Vb,hbw,kK⟩:=HK.out (by omega)
   obtain⟨am,wn,cm,ak,ck,hE,hc⟩:=kK k hlt;have hA:=HA.out _ (oQ hlt) wr am wn cm ak ck hbl (hE.frame (bA.uD hbl (λb hb=>by omega)));have hix:=Vn (p:=p) 0 hlt HN.out
   have hnx:p ks[k]=false->∀ i,i<k+1->(hi:i<ks.length)->p ks[i]=false:=λq i hi hl=>by
    by_cases e:i=k
    ·subst e;exact q
    ·exact HN.out i (by omega) hl
   have y0:=(hbl.cell (p:=⟨b,off+k * 8,none⟩) hbw).trans (hc 0 _ rfl);have y1:=(hbl.cell (p:=⟨b,off+k * 8+1,none⟩) hbw).trans (hc 1 _ rfl);have y2:=(hbl.cell (p:=⟨b,off+k * 8+2,none⟩) hbw).trans (hc 2 _ rfl);have y3:=(hbl.cell (p:=⟨b,off+k * 8+3,none⟩) hbw).trans (hc 3 _ rfl);have y4:=(hbl.cell (p:=⟨b,off+k * 8+4,none⟩) hbw).trans (hc 4 _ rfl);have y5:=(hbl.cell (p:=⟨b,off+k * 8+5,none⟩) hbw).trans (hc 5 _ rfl);have y6:=(hbl.cell (p:=⟨b,off+k * 8+6,none⟩) hbw).trans (hc 6 _ rfl);have y7:=(hbl.cell (p:=⟨b,off+k * 8+7,none⟩) hbw).trans (hc 7 _ rfl);simp only[dX] at y1 y2;have HX:=ay hix;have ER:=ay hnx;clear kK hc hE hix hnx;generalize ks[k]=x at y0 y1 y2 y3 y4 y5 y6 y7 hA HX ER
   have qF:(k:Int)<(ks.length:Int):=by omega
   cases hq:p x with
   | true =>
    rw[hq] at hA;have Lc:Hid (C8 p ks 0=(k:Int)):=ay (by rw[HX.out,bq hq,Nat.zero_add]);have HAA:=ay hA;clear hA hq HX ER;go_wp2_with (go_at_fn f;refine HAA.out.mono ?_;rintro r w2 ⟨rfl,hb2⟩);go_ret;exact⟨AO (by rw[Lc.out]),hbl.trans (hb2.mono hw)⟩
   | false =>
    rw[hq] at hA;have aft:=ay (ER.out hq);have HAA:=ay hA;clear hA hq HX ER;go_wp2_with (go_at_fn f;refine HAA.out.mono ?_;rintro r w2 ⟨rfl,hb2⟩);exact⟨⟨k+1,by omega,by go_num,aft.out,hbl.trans (hb2.mono hw)⟩,by simp[intOf];omega⟩
  ·obtain rfl:k=ks.length:=by omega
   have qF:decide ((ks.length:Int)<(ks.length:Int))=false:=fu (by omega);have Lc:Hid (C8 p ks 0=-1):=ay (Vo 0 λi hi=>HN.out i hi hi);clear HN;go_wp2;go_ret;exact⟨AO (by rw[Lc.out]),hbl⟩
theorem zD (f:FuncId)(lb:Array Value)(p:PZ->Bool)(eg:∀ args w,(callFunc f args).run Tryz.prog w=.ok (.enter f args) w)(B:Nat)(ae:Option Addr)(ce:Nat)(ks:List PZ)(w:World)(hk:lS B w ae ks)(hB:B<=w.heap.size)(hn:ks.length<=1099511627776)(ha:∀ x∈ks,adP f lb p B w x) :
  Calls Tryz.prog 90 #[.slice ae ks.length ce,.func (.func f) #[] lb] w λr w'=>r=.returned (.bool (ks.any p))/\Below w.heap.size w w':=by
 have HI:=ay (TB f lb p eg B ae ce ks w hk hB hn ha);have HY:=ay (Qd p ks 0);clear hk ha hn hB eg;generalize C8 p ks 0=i at *;go_enter Tryz.func90,Tryz.ntmps90;go_wp2_with (go_at_call 153;refine HI.out.mono ?_;rintro r w2 ⟨rfl,hb2⟩);go_ret;exact⟨bF (by rw[<- HY.out]),hb2⟩
def MZ (fm:Bool)(e:PZ):Prop:=∀ (B:Nat) (am:Option Addr) (wn cm:Nat) (ae:Option Addr) (ce:Nat) (w:World),nD YA (λb=>b<B) w (.slice am wn cm) (.slice ae e.aA.length ce) e->B<=w.heap.size->e.aA.length<=1099511627776 ->
  Calls Tryz.prog 122 #[.agg #[.int .i64 e.op,.string ⟨e.name.toArray⟩,.string ⟨e.module.toArray⟩,.bool (decide (e.num<0)),.slice am wn cm,.bool e.yes,.slice ae e.aA.length ce,.int .i64 e.at_],.int .i64 (if fm=true then 0 else 1)] w λr w'=>r=.returned (.bool (e.right fm))/\Below w.heap.size w w'
theorem TD (fm:Bool)(x:PZ)(hx:MZ fm x)(hz:x.aA.length<=1099511627776)(B kb:Nat)(w:World)(hk:w.cell? ⟨kb,0,none⟩=some (.int .i64 (if fm=true then 0 else 1)))(hkl:kb<w.heap.size)(hB:B<=w.heap.size) :
  adP 200 #[.pointer (some ⟨kb,0,none⟩)] (λx=>!x.right fm) B w x:=by
 intro W am wn cm ak ck hW hE;have hs:=hW.size;have hbx:=aB W (.cells (aT x.op ⟨x.name.toArray⟩ ⟨x.module.toArray⟩ (decide (x.num<0)) (.slice am wn cm) x.yes (.slice ak x.aA.length ck) x.at_) 64);have HX:=ay (hx B am wn cm ak ck (W.alloc (.cells (aT x.op ⟨x.name.toArray⟩ ⟨x.module.toArray⟩ (decide (x.num<0)) (.slice am wn cm) x.yes (.slice ak x.aA.length ck) x.at_) 64)) (hE.frame (bA.of hbx)) (by simp;omega) hz)
 have hk1:=((hW.cell (p:=⟨kb,0,none⟩) hkl).trans hk)
 have hk2:=(hbx.cell (p:=⟨kb,0,none⟩) (by show kb<_;omega)).trans hk1;have hN:=aZ W (.cells (aT x.op ⟨x.name.toArray⟩ ⟨x.module.toArray⟩ (decide (x.num<0)) (.slice am wn cm) x.yes (.slice ak x.aA.length ck) x.at_) 64)
 show Calls _ _ #[_,_] _ λr w'=>r=.returned (.bool (!x.right fm))/\Below W.heap.size W w'
 generalize (if fm=true then (0:Int) else 1)=kd at *;generalize x.right fm=rb at *;clear hx hE hk hk1 hz;go_enter Tryz.func200,Tryz.ntmps200
 go_upto_region 1 with fail
 change Code.wp _ _ _ _ (W.alloc (.cells (aT x.op ⟨x.name.toArray⟩ ⟨x.module.toArray⟩ (decide (x.num<0)) (.slice am wn cm) x.yes (.slice ak x.aA.length ck) x.at_) 64));generalize W.alloc _=w0 at hbx hN hk2 HX |-;obtain⟨y0,y1,y2,y3,y4,y5,y6,y7⟩:=aL hN;go_wp2_with (go_at_call 122;refine HX.out.mono ?_;rintro r w1 ⟨rfl,hb1⟩);go_ret;exact⟨rfl,hbx.trans (hb1.mono hbx.size)⟩
theorem TF {op:Int}{n:Nat}(h1:1<=op)(h2:op<=24):(0<=Ej op/\countB op n=decide ((n:Int)=Ej op)/\Ej op<=3)\/(Ej op=-1/\countB op n=decide (n<=8)):=by
 unfold Ej countB
 by_cases h4:op<=4
 ·left;simp only[bq h4];refine⟨by omega,?_,by omega⟩;congr 1;exact propext (by omega)
 by_cases h6:op<=6
 ·left;simp only[aP h4,bq h6];refine⟨by omega,?_,by omega⟩;congr 1;exact propext (by omega)
 by_cases h20:op<=20\/op=22\/op=23
 ·left;simp only[aP h4,aP h6,bq h20];refine⟨by omega,?_,by omega⟩;congr 1;exact propext (by omega)
 by_cases h21:op=21
 ·left;simp only[aP h4,aP h6,aP h20,bq h21];refine⟨by omega,?_,by omega⟩;congr 1;exact propext (by omega)
 ·right;refine⟨?_,?_⟩<;>simp only[aP h4,aP h6,aP h20,aP h21]
theorem Ai (fm:Bool):∀ l:List PZ,jO fm l=!(l.any λx=>!x.right fm)
 | []=>rfl
 | e :: l=>by rw[jO,Ai fm l,List.any_cons];cases e.right fm<;>simp
theorem Qe (fm:Bool)(e:PZ)(hf:e.fit)(IH:∀ x∈e.aA,MZ fm x/\x.aA.length<=1099511627776):MZ fm e:=by
 intro B am wn cm ae ce w h hB hkl;obtain⟨f1,f2,f3,-,-⟩:=PZ.ru hf;have JR:ow (λb=>b<B) w e.num (.slice am wn cm):=h.form.1;have hkz:=h.abH
 have hdef:e.right fm=(decide (1<=e.op) && (decide (e.op<=24) && (Tn fm e.op && (p9 e.op e.name e.module && (tY e.op e.num e.yes && (countB e.op e.aA.length && jO fm e.aA)))))):=by
  rw[e.KW,PK];simp only[Bool.and_assoc]
 have HM:=ay (λW=>adO e.op fm W);have HK:=ay (λW=>abF e.op W)
 have hNA:=λW=>Xw e.op ⟨e.name.toArray⟩ ⟨e.module.toArray⟩ (decide (e.num<0)) am wn cm e.yes ae e.aA.length ce e.at_ W (by show e.name.toArray.size<=_;simp;omega) (by show e.module.toArray.size<=_;simp;omega)
 have hVA:=λW (hW:Below w.heap.size w W)=>TA (λb=>b<B) e.op ⟨e.name.toArray⟩ ⟨e.module.toArray⟩ e.num am wn cm e.yes ae e.aA.length ce e.at_ W (YA.frame JR (bA.of hW)) f3
 have HNA:=ay hNA;have HVA:=ay hVA
 have hCT:=λ(W:World) (kb:Nat) (hW:Below w.heap.size w W) (hk:W.cell? ⟨kb,0,none⟩=some (.int .i64 (if fm=true then 0 else 1))) (hkl':kb<W.heap.size)=>zD 200 #[.pointer (some ⟨kb,0,none⟩)] (λx=>!x.right fm) (enters_of Tryz.func200 (by kernel_rfl) rfl) B ae ce e.aA W (λh0=>by
   obtain⟨b,off,q1,q2,q3,q4⟩:=hkz h0;refine⟨b,off,q1,q2,zI q3 hW.size,λi hi=>?_⟩;obtain⟨NZ,wn',N7,M0,M4,q5,q6⟩:=q4 i hi
   exact⟨NZ,wn',N7,M0,M4,q5.frame (bA.of hW),λj u hu=>(hW.cell (p:=⟨b,off+i * 8+j,none⟩) q3).trans (q6 j u hu)⟩) (by have:=hW.size;omega) hkl λx hx=>TD fm x (IH x hx).1 (IH x hx).2 B kb W hk hkl' (by have:=hW.size;omega)
 have HCT:=ay hCT;rw[Ai] at hdef;have hkc:=TF (op:=e.op) (n:=e.aA.length);clear hNA hVA hCT JR hkz h IH hf f1 f2 f3;have eN:p9 e.op (ByteArray.mk e.name.toArray).data.toList (ByteArray.mk e.module.toArray).data.toList=p9 e.op e.name e.module:=rfl;rw[eN] at HNA;clear eN;generalize p9 e.op e.name e.module=nb at *;generalize tY e.op e.num e.yes=vb at *;generalize Tn fm e.op=mb at *;generalize (if fm=true then (0:Int) else 1)=kd at *;generalize e.right fm=res at *;generalize (e.aA.any λx=>!x.right fm)=an at *;have HD:=ay hdef;have YQ:=ay hkc;clear hdef hkc;generalize decide (e.num<0)=ng at *;generalize e.op=op at *;generalize e.aA.length=nk at *;generalize countB op nk=cb at *;generalize Ej op=kn at *;have hbw:=(aB w (.cells (aT op ⟨e.name.toArray⟩ ⟨e.module.toArray⟩ ng (.slice am wn cm) e.yes (.slice ae nk ce) e.at_) 64)).alloc (by simp) (.cells #[.int .i64 kd] 211);have hN:=(iB (w.alloc (.cells (aT op ⟨e.name.toArray⟩ ⟨e.module.toArray⟩ ng (.slice am wn cm) e.yes (.slice ae nk ce) e.at_) 64)) (.cells #[.int .i64 kd] 211) w.heap.size (by simp)).trans (aZ w (.cells (aT op ⟨e.name.toArray⟩ ⟨e.module.toArray⟩ ng (.slice am wn cm) e.yes (.slice ae nk ce) e.at_) 64));have hK:=aZ (w.alloc (.cells (aT op ⟨e.name.toArray⟩ ⟨e.module.toArray⟩ ng (.slice am wn cm) e.yes (.slice ae nk ce) e.at_) 64)) (.cells #[.int .i64 kd] 211);rw[oU] at hK;go_enter Tryz.func122,Tryz.ntmps122
 go_upto_region 1 with fail
 change Code.wp _ _ _ _ ((w.alloc (.cells (aT op ⟨e.name.toArray⟩ ⟨e.module.toArray⟩ ng (.slice am wn cm) e.yes (.slice ae nk ce) e.at_) 64)).alloc (.cells #[.int .i64 kd] 211));generalize (w.alloc _).alloc _=w2 at hbw hN hK |-;have hl1:=(bU hN).1;have hl2:=(bU hK).1;have hz2:=hbw.size;obtain⟨y0,y1,y2,y3,y4,y5,y6,y7⟩:=aL hN
 have yk:w2.cell? ⟨w.heap.size+1,0,none⟩=some (.int .i64 kd):=by rw[bg hK];rfl
 have fin:∀ W:World,res=false->Below w.heap.size w W->(Ending.returned (.bool false)=Ending.returned (.bool res)/\Below w.heap.size w W):=λ_ h1 h2=>⟨by rw[h1],h2⟩
 have TG:=ay fin;clear fin
 by_cases c1:op<1
 ·have hr:Hid (res=false):=ay (by rw[HD.out,fu (by omega)];rfl)
  clear HD YQ HCT HNA HVA HK HM;go_wp2;go_ret;exact TG.out _ hr.out hbw
 by_cases c2:24<op
 ·have hr:Hid (res=false):=ay (by rw[HD.out,fu (by omega:¬ op<=24)];cases decide (1<=op)<;>rfl)
  clear HD YQ HCT HNA HVA HK HM;go_wp2;go_ret;exact TG.out _ hr.out hbw
 have hD2:res=(mb && (nb && (vb && (cb && !an)))):=by rw[HD.out,kS (by omega),kS (by omega)];rfl
 have HD2:=ay hD2;clear hD2 HD;have hkc:=YQ.out (by omega) (by omega);have Qf:=ay hkc;clear hkc YQ
 cases mb with
 | false =>
  have hr:Hid (res=false):=ay (by rw[HD2.out];rfl);clear HD2 Qf HCT HNA HVA HK;go_wp2_with (go_at_call 196;refine(HM.out _).mono ?_;rintro r w' ⟨rfl,rfl⟩);go_ret;exact TG.out _ hr.out hbw
 | true =>
 cases nb with
 | false =>
  have hr:Hid (res=false):=ay (by rw[HD2.out];rfl);clear HD2 Qf HCT HVA HK;go_wp2_with (first|(go_at_call 196;refine(HM.out _).mono ?_;rintro r w' ⟨rfl,rfl⟩)|(go_at_call 197;refine(HNA.out _).mono ?_;rintro r w3 ⟨rfl,hb3⟩));go_ret;exact TG.out _ hr.out (hbw.trans (hb3.mono hz2))
 | true =>
 cases vb with
 | false =>
  have hr:Hid (res=false):=ay (by rw[HD2.out];rfl);clear HD2 Qf HCT HK;go_wp2_with (first|(go_at_call 196;refine(HM.out _).mono ?_;rintro r w' ⟨rfl,rfl⟩)|(go_at_call 197;refine(HNA.out _).mono ?_;rintro r w3 ⟨rfl,hb3⟩;have rA:=hbw.trans (hb3.mono hz2);obtain⟨z0,z1,z2,z3,z4,z5,z6,z7⟩:=aL ((hb3.block w.heap.size hl1).trans hN))|(go_at_call 198;refine(HVA.out _ rA).mono ?_;rintro r w4 ⟨rfl,hb4⟩));go_ret;exact TG.out _ hr.out (rA.trans (hb4.mono rA.size))
 | true =>
 have HD3:Hid (res=(cb && !an)):=ay (by rw[HD2.out];rfl);clear HD2
 go_upto_region 3 with (first|(go_at_call 196;refine(HM.out _).mono ?_;rintro r w' ⟨rfl,rfl⟩)|(go_at_call 197;refine(HNA.out _).mono ?_;rintro r w3 ⟨rfl,hb3⟩;have rA:=hbw.trans (hb3.mono hz2);obtain⟨z0,z1,z2,z3,z4,z5,z6,z7⟩:=aL ((hb3.block w.heap.size hl1).trans hN))|(go_at_call 198;refine(HVA.out _ rA).mono ?_;rintro r w4 ⟨rfl,hb4⟩))
 have uE:=rA.trans (hb4.mono rA.size);have hz3:=hb3.size;have hN4:=(hb4.block w.heap.size (by omega)).trans ((hb3.block w.heap.size hl1).trans hN);have hK4:=(hb4.block (w.heap.size+1) (by omega)).trans ((hb3.block (w.heap.size+1) hl2).trans hK);have hl4:=(bU hK4).1;clear z0 z1 z2 z3 z4 z5 z6 z7 y0 y1 y2 y3 y4 y5 y6 y7 yk hN hK HNA HVA HM;obtain⟨y0,y1,y2,y3,y4,y5,y6,y7⟩:=aL hN4
 have yk:w4.cell? ⟨w.heap.size+1,0,none⟩=some (.int .i64 kd):=by rw[bg hK4];rfl
 have HC4:=ay (HCT.out w4 (w.heap.size+1) uE yk hl4);clear HCT hN4 hK4
 rcases Qf.out with ⟨k0,k1,k3⟩|⟨k0,k1⟩
 ·by_cases hq:(nk:Int)=kn
  ·have HD4:Hid (res=!an):=ay (by rw[HD3.out,k1,kS hq];rfl)
   have h8:(nk:Int)<=8:=by omega
   have hne:((nk:Int) == kn)=true:=by rw[hq];exact beq_self_eq_true _
   have HQ:=ay hq;clear k1 Qf HD3 hq;go_wp2_with (first|(go_at_call 199;refine(HK.out _).mono ?_;rintro r w' ⟨rfl,rfl⟩)|(go_at_call 90;refine HC4.out.mono ?_;rintro r w5 ⟨rfl,hb5⟩));go_ret;exact⟨bF (by rw[HD4.out]),uE.trans (hb5.mono uE.size)⟩
  ·have hr:Hid (res=false):=ay (by rw[HD3.out,k1,fu hq];rfl)
   have hne:((nk:Int) == kn)=false:=Fa.2 hq
   have hne2:((nk:Int) != kn)=true:=by rw[bne,hne];rfl
   clear k1 Qf HD3 HC4 hq;go_wp2_with (go_at_call 199;refine(HK.out _).mono ?_;rintro r w' ⟨rfl,rfl⟩);go_ret;exact TG.out _ hr.out uE
 ·subst k0
  by_cases hq:nk<=8
  ·have HD4:Hid (res=!an):=ay (by rw[HD3.out,k1,kS hq];rfl)
   have h8:(nk:Int)<=8:=by omega
   clear k1 Qf HD3;go_wp2_with (first|(go_at_call 199;refine(HK.out _).mono ?_;rintro r w' ⟨rfl,rfl⟩)|(go_at_call 90;refine HC4.out.mono ?_;rintro r w5 ⟨rfl,hb5⟩));go_ret;exact⟨bF (by rw[HD4.out]),uE.trans (hb5.mono uE.size)⟩
  ·have hr:Hid (res=false):=ay (by rw[HD3.out,k1,fu hq];rfl)
   have h8:(8:Int)<(nk:Int):=by omega
   clear k1 Qf HD3 HC4;go_wp2_with (go_at_call 199;refine(HK.out _).mono ?_;rintro r w' ⟨rfl,rfl⟩);go_ret;exact TG.out _ hr.out uE
theorem Aj (fm:Bool):∀ (n:Nat) (e:PZ),SizeOf.sizeOf e<n->e.fit->MZ fm e
 | 0,_,h,_=>absurd h (by omega)
 | n+1,e,hs,hf=>Qe fm e hf λx hx=>⟨Aj fm n x (by have:=e.lQ x hx;omega) ((PZ.ru hf).2.2.2.2 x hx),by have:=(PZ.ru ((PZ.ru hf).2.2.2.2 x hx)).2.2.2.1;omega⟩
