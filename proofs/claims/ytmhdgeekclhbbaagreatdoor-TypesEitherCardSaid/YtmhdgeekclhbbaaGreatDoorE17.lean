/- Walks and plain laws, without a condition. -/
import Derived.Test.YtmhdgeekclhbbaaGreatDoorE16
set_option maxHeartbeats 16000000
set_option maxRecDepth 100000
set_option linter.unusedVariables false
set_option linter.unusedSimpArgs false
namespace Go.Proofs.YtmhdgeekclhbbaaGreatDoor
open Go.RowKit Go
variable{f:Fl}{w w':World}{im v:Value}{lb b B ce wn cm cc cp:Nat}{P:Nat->Prop}{l:ML}{ae am ac ap:Option Addr}{d:ZD}
def EA (f:Fl):Int:=match f with
 | none=>0
 | some x=>x.1
def JA (f:Fl):Int:=match f with
 | none=>0
 | some x=>x.2
def bT (f:Fl):Prop:=∀ x,f=some x->x.1≠0
theorem bT.none:bT none:=λ_ h=>by cases h
theorem bT.some {e a:Int}(h:e≠0):bT (some (e,a)):=λx q=>by injection q with q;subst q;exact h
theorem bT.or {g:Fl}(h:bT f)(k:bT g):bT (nG f g):=by cases f<;>assumption
structure Yf where
 md:aH
 pi:Value
 pd:Value
 fs:Value
 db:Nat
def aec (C:Yf)(im:Value)(f:Fl):Array Value:=#[.string ⟨C.md.toArray⟩,C.pi,C.pd,C.fs,im,.pointer (some ⟨C.db,0,none⟩),.int .i64 (EA f),.int .i64 (JA f)]
def nL (C:Yf)(lb:Nat)(im:Value)(f:Fl)(w:World):Prop:=w.heap[lb]?=some (.cells (aec C im f) 109 (0,0))
theorem nL.cells {C:Yf}(h:nL C lb im f w):(w.cell? ⟨lb,0,none⟩=some (.string ⟨C.md.toArray⟩)/\w.cell? ⟨lb,1,none⟩=some C.pi/\w.cell? ⟨lb,2,none⟩=some C.pd/\w.cell? ⟨lb,3,none⟩=some C.fs/\w.cell? ⟨lb,4,none⟩=some im/\w.cell? ⟨lb,5,none⟩=some (.pointer (some ⟨C.db,0,none⟩))/\w.cell? ⟨lb,6,none⟩=some (.int .i64 (EA f))/\w.cell? ⟨lb,7,none⟩=some (.int .i64 (JA f)))/\∀ i,w.frozen? ⟨lb,i,none⟩=false:=by
 refine⟨⟨?_,?_,?_,?_,?_,?_,?_,?_⟩,λi=>by rw[nL] at h;simp[World.frozen?,h]⟩
 all_goals (rw[bg h];rfl)
theorem nL.lt {C:Yf}(h:nL C lb im f w):lb<w.heap.size:=(bU h).1
theorem nL.below {C:Yf}(h:nL C lb im f w)(hb:Below w.heap.size w w'):nL C lb im f w':=(hb.block lb h.lt).trans h
def aR (lb:Nat)(w w':World):Prop:=(∀ B,B<=lb->Below B w w')/\bA (λb=>b≠lb) w w'
theorem aR.refl (lb:Nat)(w:World):aR lb w w:=⟨λB _=>bY B w,bA.refl _ _⟩
theorem aR.trans {lb:Nat}{a b c:World}(h:aR lb a b)(k:aR lb b c):aR lb a c:=⟨λB hB=>(h.1 B hB).trans (k.1 B hB),h.2.trans k.2⟩
theorem aR.of {lb:Nat}{w w':World}(h:Below w.heap.size w w')(hl:lb<w.heap.size):aR lb w w':=⟨λB hB=>h.mono (by omega),bA.of h⟩
theorem aR.set {lb:Nat}(w:World)(i:Nat)(v:Value):aR lb w (w.setCell ⟨lb,i,none⟩ v):=⟨λB hB=>(bY B w).setCell hB v,bA.set v λb hb=>hb⟩
def Aq (C:Yf)(lb:Nat)(im:Value)(f:Fl)(w:World)(r:Ending)(w':World):Prop:=r=.returned (.tuple #[])/\nL C lb im f w'/\aR lb w w'
theorem yX (C:Yf)(lb:Nat)(im:Value)(f:Fl)(e a:Int)(w:World)(h:nL C lb im f w)(hf:bT f) :
  Calls Tryz.prog 50 #[.pointer (some ⟨lb,0,none⟩),.int .i64 e,.int .i64 a] w (Aq C lb im (nG f (some (e,a))) w):=by
 obtain⟨⟨-,-,-,-,-,-,c6,c7⟩,hz⟩:=h.cells;have z6:=hz 6;have z7:=hz 7;have H:=ay h;clear hz h
 cases f with
 | none =>
  simp only[EA,JA] at c6 c7;have h2:nL C lb im (nG none (some (e,a))) ((w.setCell ⟨lb,6,none⟩ (.int .i64 e)).setCell ⟨lb,7,none⟩ (.int .i64 a)):=kG _ lb 7 _ _ _ (kG w lb 6 _ _ _ H.out);have H2:=ay h2;clear h2;go_enter Tryz.func50,Tryz.ntmps50;go_wp2
  go_end0
  exact⟨rfl,H2.out,(aR.set w 6 _).trans (aR.set _ 7 _)⟩
 | some x =>
  have hx:(x.1 == 0)=false:=by
   have:=hf x rfl
   simpa using this
  simp only[EA,JA] at c6 c7;generalize x.1=xe at c6 hx
  have hx':¬ xe=0:=by simpa using hx
  clear hx c7;go_enter Tryz.func50,Tryz.ntmps50;go_wp2
  go_end0
  exact⟨rfl,H.out,aR.refl _ _⟩
def VO:RK aH Unit where
 sz:=2
 cells m _:=[.string ⟨m.toArray⟩,.slice none 0 0]
 inn _ _ _ _:=True
 len _ _:=rfl
 frame _ _:=trivial
 imp _ _:=trivial
theorem nM {u:Value}(h:w.heap[b]?=some (.cells #[u,v] 31 (0,0))):w.cell? ⟨b,0,none⟩=some u/\w.cell? ⟨b,1,none⟩=some v:=⟨by rw[bg h];rfl,by rw[bg h];rfl⟩
theorem Yg (P:Nat->Prop)(af:Option Addr)(cf:Nat)(ms:List aH)(m n:aH)(w:World)(h:RowK VO P w (.slice af ms.length cf) ms)(hl:ms.length<=1000000) :
  Calls Tryz.prog 214 #[.slice af ms.length cf,.string ⟨m.toArray⟩,.string ⟨n.toArray⟩] w λe w'=>e=.returned (.tuple #[.agg #[.string ⟨#[]⟩,.slice none 0 0,.int .i64 0,.slice none 0 0],.bool false])/\Below w.heap.size w w':=by
 obtain⟨ao',cap,hv,_,hf⟩:=h.form;simp only[Value.slice.injEq] at hv;obtain⟨rfl,-,rfl⟩:=hv;have hal:=aB w (.cells #[.string ⟨#[]⟩,.slice none 0 0,.int .i64 0,.slice none 0 0] 53);have hR:=aZ w (.cells #[.string ⟨#[]⟩,.slice none 0 0,.int .i64 0,.slice none 0 0] 53);have HF:=ay hf;clear h hf;go_enter Tryz.func214,Tryz.ntmps214
 go_upto_region 1 with fail
 change Code.wp _ _ _ _ (w.alloc (.cells #[.string ⟨#[]⟩,.slice none 0 0,.int .i64 0,.slice none 0 0] 53))
 have hz:w.heap.size<(w.alloc (.cells #[.string ⟨#[]⟩,.slice none 0 0,.int .i64 0,.slice none 0 0] 53)).heap.size:=by simp
 generalize w.alloc _=w1 at *;have hz1:=hal.size
 have ahy:Hid (∀ W,Below w1.heap.size w1 W->W.heap[w.heap.size]?=some (.cells #[.string ⟨#[]⟩,.slice none 0 0,.int .i64 0,.slice none 0 0] 53 (0,0))/\Below w.heap.size w W):=ay λW hW=>⟨(hW.block _ hz).trans hR,hal.trans (hW.mono hz1)⟩
 clear hR;go_wp2
 go_loopw [9,11,14] (λ_ _ q wr=>∃ k:Nat,k<=ms.length/\q=.int .i64 k/\Below w1.heap.size w1 wr) (λ_ _ q _=>ms.length - (intOf q).toNat)
 case atStart=>exact⟨0,mD _,rfl,bY _ _⟩
 case round =>
  obtain⟨k,hk,rfl,hbl⟩:=hrel;have Fx:=hbl.size
  by_cases hlt:k<ms.length
  ·obtain⟨b,off,rfl,_,hbw,hcell⟩:=HF.out (by omega)
   obtain⟨_,_,hc⟩:=hcell k hlt;have x0:=((hal.trans (hbl.mono hz1)).cell (p:=⟨b,off+k * 2+0,none⟩) hbw).trans (hc 0 _ rfl);have x1:=((hal.trans (hbl.mono hz1)).cell (p:=⟨b,off+k * 2+1,none⟩) hbw).trans (hc 1 _ rfl);rw[qp] at x0
   have qF:(k:Int)<(ms.length:Int):=by omega
   clear hc hcell;generalize ms[k]=y at *;have dD:=aB wr (.cells #[.string ⟨y.toArray⟩,.slice none 0 0] 31);have hN:=aZ wr (.cells #[.string ⟨y.toArray⟩,.slice none 0 0] 31)
   go_upto_region 4 with fail
   change Code.wp _ _ _ _ (wr.alloc (.cells #[.string ⟨y.toArray⟩,.slice none 0 0] 31));clear x0 x1;generalize wr.alloc (.cells #[.string ⟨y.toArray⟩,.slice none 0 0] 31)=w2 at *;have hb2:=hbl.trans (dD.mono Fx);obtain⟨y0,y1⟩:=nM hN
   go_upto_if 21 with fail
   cases hym:y == m with
   | false =>
    clear hym;go_wp2
    go_roundw
    case rel=>exact⟨k+1,by omega,by go_num,hb2⟩
    case measure=>simp[intOf];omega
   | true =>
    clear hym;obtain⟨hRr,mJ⟩:=ahy.out w2 hb2;obtain⟨⟨c0,c1,c2,c3⟩,f0,f1,f2,f3⟩:=sS hRr;go_wp2
    go_loopw [25] (λq wr=>q=.int .i64 0/\wr=w2) (λq _=>0)
    case atStart=>exact⟨rfl,rfl⟩
    case round =>
     obtain⟨rfl,rfl⟩:=hrel;go_wp2;change bodyPost _ _ _ _ _ (xg wr w.heap.size (.string ⟨#[]⟩) (.slice none 0 0) (.int .i64 0) (.slice none 0 0));have hP:=nK hRr (.string ⟨#[]⟩) (.slice none 0 0) (.int .i64 0) (.slice none 0 0);have Rz:=kD mJ (bI _) (.string ⟨#[]⟩) (.slice none 0 0) (.int .i64 0) (.slice none 0 0);generalize xg wr _ _ _ _ _=w4 at *;obtain⟨⟨d0,d1,d2,d3⟩,-⟩:=sS hP;exact o9 (v:=.tuple #[.agg #[.string ⟨#[]⟩,.slice none 0 0,.int .i64 0,.slice none 0 0],.bool false]) (by simp[results,Tryz.results214,go_sem,d0,d1,d2,d3]) rfl ⟨rfl,Rz⟩
  ·obtain rfl:k=ms.length:=by omega
   have qF:decide ((ms.length:Int)<(ms.length:Int))=false:=fu (by omega);obtain⟨hRr,hbw⟩:=ahy.out wr hbl;obtain⟨⟨c0,c1,c2,c3⟩,f0,f1,f2,f3⟩:=sS hRr;go_wp2;change bodyPost _ _ _ _ _ (xg wr w.heap.size (.string ⟨#[]⟩) (.slice none 0 0) (.int .i64 0) (.slice none 0 0));have hP:=nK hRr (.string ⟨#[]⟩) (.slice none 0 0) (.int .i64 0) (.slice none 0 0);have Rz:=kD hbw (bI _) (.string ⟨#[]⟩) (.slice none 0 0) (.int .i64 0) (.slice none 0 0);generalize xg wr _ _ _ _ _=w4 at *;obtain⟨⟨d0,d1,d2,d3⟩,-⟩:=sS hP;exact o9 (v:=.tuple #[.agg #[.string ⟨#[]⟩,.slice none 0 0,.int .i64 0,.slice none 0 0],.bool false]) (by simp[results,Tryz.results214,go_sem,d0,d1,d2,d3]) rfl ⟨rfl,Rz⟩
def afU:Option (List Value)->Option Nat->Prop
 | none,none=>True
 | some vs,some n=>∃ s a c b u,vs=[s,.slice a n c,b,u]
 | _,_=>False
structure ScM (E:SE) (C:Yf) (lb B:Nat) (im:Value) (w:World):Prop where
 map:∃ mv ml,Ap B C.db mv ml w/\ml.length<=1000000/\∀ nm,afU (oW ml nm) (E.arity nm)
 imps:gQ (λb=>b≠lb) w im E.imps
 rise:E.imps.Pairwise (· < ·)
 few:E.imps.length<=500000
 faces:∃ ms:List aH,ms.length<=1000000/\RowK VO (λb=>b≠lb) w C.fs ms
 ext:E.ext=λ_ _=>none
theorem aed {e sz n:Nat}{xs:List Value}(h:w.ownsRow B e sz v n xs)(ha:bA P w w')(hP:∀ b,some b=v.ownBlock->P b):w'.ownsRow B e sz v n xs:=by
 obtain⟨hl,h⟩:=h;refine⟨hl,?_⟩
 rcases h with h|⟨g,cap,cur,rfl,hg,hh,hn⟩
 ·exact .inl h
 ·exact .inr ⟨g,cap,cur,rfl,hg,(ha.2 g (hP g rfl) (bU hh).1).trans hh,hn⟩
theorem Ap.alk {mb:Nat}(h:Ap B mb v l w)(ha:bA P w w')(hm:P mb)(hP:∀ b,some b=v.ownBlock->P b):Ap B mb v l w' :=
 ⟨h.wf,(ha.2 mb hm (bU h.box).1).trans h.box,aed h.own ha hP⟩
theorem ScM.keep {E:SE}{C:Yf}(h:ScM E C lb B im w)(hl:nL C lb im f w)(ha:bA (λb=>b≠lb) w w'):ScM E C lb B im w':=by
 obtain⟨⟨mv,ml,h1,h2,h3⟩,h4,h5,h6,⟨ms,h7,h8⟩,h9⟩:=h;refine⟨⟨mv,ml,h1.alk ha (λq=>?_) (λb hb q=>?_),h2,h3⟩,h4.frame ha,h5,h6,⟨ms,h7,h8.frame ha⟩,h9⟩
 ·have h0:=h1.box
  rw[q,hl] at h0;simp only[Option.some.injEq,Obj.cells.injEq] at h0;exact absurd h0.2.1 (by decide)
 ·subst q
  exact own_ne h1.own hl (by decide) hb
theorem acB {x:aH}{k:Nat}(hw:yV k l){ar:Option Nat}(h:afU (oW l x) ar):∃ (s b u:Value) (a:Option Addr) (n c:Nat) (fd:Bool),(∀ W e w',Dt l x W e w'->e=.returned (.tuple #[.agg #[s,.slice a n c,b,u],.bool fd])/\Below W.heap.size W w')/\(s.oneCell'=true/\b.oneCell'=true/\u.oneCell'=true)/\∀ kn at_,xZ ar kn at_=if fd=true then (if n=kn then none else some (32,at_)) else some (31,at_):=by
 cases hg:oW l x with
 | none =>
  rw[hg] at h
  cases ar with
  | some n=>exact h.elim
  | none =>
   refine⟨.string ⟨#[]⟩,.int .i64 0,.slice none 0 0,none,0,0,false,λW e w' q=>?_,⟨rfl,rfl,rfl⟩,λkn at_=>rfl⟩;unfold Dt at q;rw[hg] at q;exact q
 | some vs =>
  rw[hg] at h
  cases ar with
  | none=>exact h.elim
  | some n =>
   obtain⟨s,a,c,b,u,rfl⟩:=h
   have hone:∀ y∈[s,Value.slice a n c,b,u],y.oneCell'=true:=by
    unfold oW at hg;obtain⟨p,hp,hq⟩:=Option.map_eq_some_iff.1 hg;rw[<- hq];exact hw.one p (List.mem_of_find?_eq_some hp)
   refine⟨s,b,u,a,n,c,true,λW e w' q=>?_,⟨hone s (by simp),hone b (by simp),hone u (by simp)⟩,λkn at_=>rfl⟩;unfold Dt at q;rw[hg] at q;exact q
theorem Jc (w:World)(b k:Nat)(v0 v1 v2 v3:Value)(h:k≠b):(xg w b v0 v1 v2 v3).heap[k]?=w.heap[k]? :=
 (qo _ _ _ _ h).trans ((qo _ _ _ _ h).trans ((qo _ _ _ _ h).trans (qo _ _ _ _ h)))
theorem nN (w:World)(b c i:Nat)(v0 v1 v2 v3:Value)(h:c≠b):((((w.setCell ⟨b,0,none⟩ v0).setCell ⟨b,1,none⟩ v1).setCell ⟨b,2,none⟩ v2).setCell ⟨b,3,none⟩ v3).cell? ⟨c,i,none⟩=w.cell? ⟨c,i,none⟩ :=
 AJ (a:=⟨c,i,none⟩) ((qo _ _ _ _ h).trans ((qo _ _ _ _ h).trans ((qo _ _ _ _ h).trans (qo _ _ _ _ h))))
theorem Yh (E:SE)(C:Yf)(lb B:Nat)(im:Value)(f:Fl)(op:Int)(nm md:aH)(ng ys:Bool)(mv:Value)(ae:Option Addr)(n ce:Nat)(a_:Int)(w:World)(hL:nL C lb im f w)(hM:ScM E C lb B im w)(hf:bT f) :
  Calls Tryz.prog 137 #[.pointer (some ⟨lb,0,none⟩),.agg (aT op ⟨nm.toArray⟩ ⟨md.toArray⟩ ng mv ys (.slice ae n ce) a_)] w (Aq C lb im (nG f (H8 E nm md n a_)) w):=by
 have hal:=aB w (.cells (aT op ⟨nm.toArray⟩ ⟨md.toArray⟩ ng mv ys (.slice ae n ce) a_) 64);have hN:=aZ w (.cells (aT op ⟨nm.toArray⟩ ⟨md.toArray⟩ ng mv ys (.slice ae n ce) a_) 64);have hL1:=hL.below hal;have hM1:=hM.keep hL (bA.of hal);have hk1:=aR.of hal hL.lt;obtain⟨⟨mv',ml,hm1,hm2,hm3⟩,hi1,hi2,hi3,⟨ms,hs1,hs2⟩,hx⟩:=hM1;obtain⟨s,b,u,a,np,c,fd,hget,⟨o1,o2,o3⟩,har⟩:=acB hm1.wf (hm3 nm);have HG:=ay (λW (hW:Below (w.alloc (.cells (aT op ⟨nm.toArray⟩ ⟨md.toArray⟩ ng mv ys (.slice ae n ce) a_) 64)).heap.size (w.alloc (.cells (aT op ⟨nm.toArray⟩ ⟨md.toArray⟩ ng mv ys (.slice ae n ce) a_) 64)) W)=>(QL B C.db mv' ml nm W (hm1.below hW) hm2).mono λe w' q=>hget W e w' q);obtain⟨ai,ci,rfl,-,-⟩:=hi1.slice;have HH:=ay (λW (hW:Below (w.alloc (.cells (aT op ⟨nm.toArray⟩ ⟨md.toArray⟩ ng mv ys (.slice ae n ce) a_) 64)).heap.size (w.alloc (.cells (aT op ⟨nm.toArray⟩ ⟨md.toArray⟩ ng mv ys (.slice ae n ce) a_) 64)) W)=>Fw _ ai ci E.imps ⟨md.toArray⟩ W (hi1.below hW) hi2 (by omega));obtain⟨af,cf,hfs⟩:=hs2.slice;have HF:=ay (λW (hW:Below (w.alloc (.cells (aT op ⟨nm.toArray⟩ ⟨md.toArray⟩ ng mv ys (.slice ae n ce) a_) 64)).heap.size (w.alloc (.cells (aT op ⟨nm.toArray⟩ ⟨md.toArray⟩ ng mv ys (.slice ae n ce) a_) 64)) W)=>Yg _ af cf ms md nm W (by rw[<- hfs];exact hs2.frame (bA.of hW)) hs1);have HFS:=ay hfs
 have hcf:∀ q,H8 E nm md n q=if md=[] then (if fd=true then (if np=n then none else some (32,q)) else some (31,q)) else if md∈E.imps then some (31,q) else some (33,q):=λq=>by
  unfold H8;rw[har,hx]
  rfl
 rw[hcf]
 obtain⟨R,hR⟩:∃ R,R=nG f (if md=[] then (if fd=true then (if np=n then none else some (32,a_)) else some (31,a_)) else if md∈E.imps then some (31,a_) else some (33,a_)):=⟨_,rfl⟩
 rw[<- hR];have VP:=ay (λW (hW:nL C lb (.slice ai E.imps.length ci) f W) (e:Int)=>yX C lb (.slice ai E.imps.length ci) f e a_ W hW hf);have hbb:=hL.lt;clear hcf har hx hget hm1 hm2 hm3 hi1 hi2 hi3 hs1 hs2 hM hL hfs hf;generalize E.imps=L at *;have HR:=ay hR;clear hR;simp only at HH;go_enter Tryz.func137,Tryz.ntmps137
 go_upto_region 1 with fail
 change Code.wp _ _ _ _ (w.alloc (.cells (aT op ⟨nm.toArray⟩ ⟨md.toArray⟩ ng mv ys (.slice ae n ce) a_) 64))
 have hz:w.heap.size<(w.alloc (.cells (aT op ⟨nm.toArray⟩ ⟨md.toArray⟩ ng mv ys (.slice ae n ce) a_) 64)).heap.size:=by simp
 generalize w.alloc _=w1 at *;obtain⟨⟨k0,k1',k2,k3,k4,k5,k6,k7⟩,kz⟩:=hL1.cells;obtain⟨y0,y1,y2,y3,y4,y5,y6,y7⟩:=aL hN
 have s1:=λa m W=>run_store Tryz.prog W a s m o1
 have s2:=λa m W=>run_store Tryz.prog W a b m o2
 have s3:=λa m W=>run_store Tryz.prog W a u m o3
 have hn1:lb≠w1.heap.size:=by omega
 have hn2:w.heap.size≠w1.heap.size:=by omega
 have HL1:=ay hL1;have HN:=ay hN;clear hL1 hN kz
 go_cut [4,5] (λp q wc=>∃ Y:Nat,p=.pointer (some ⟨Y,0,none⟩)/\q=.bool fd/\wc.heap[Y]?=some (.cells #[s,.slice a np c,b,u] 53 (0,0))/\w1.heap.size<=Y/\Below w1.heap.size w1 wc)
 case first =>
  go_region_held3 (λW=>W.cell? ⟨lb,5,none⟩=some (.pointer (some ⟨C.db,0,none⟩))/\W.cell? ⟨w.heap.size,1,none⟩=some (.string ⟨nm.toArray⟩))
   (first|(with_reducible exact p3)|(with_reducible exact iq ((nN w2 w1.heap.size lb 5 _ _ _ _ hn1).trans p3.1) ((nN w2 w1.heap.size w.heap.size 1 _ _ _ _ hn2).trans p3.2))|(go_keep;done))
   (first|(go_at_call 49;refine(HG.out _ ?_).mono ?_;(first|exact(bY _ _).drew|exact((bY _ _).alloc (bI _) _).drew);rintro e w2 ⟨rfl,hb2⟩;have hq2:Below w1.heap.size w1 w2:=(by first|exact(bY _ _).drew.trans hb2|exact((bY _ _).alloc (bI _) _).drew.trans (hb2.mono (by simp)));have p3:=iq (jy hq2 k5) (jy hq2 y1);try (have hT:=(hb2.block w1.heap.size (by simp)).trans (aZ w1 (.cells #[.string ⟨#[]⟩,.slice none 0 0,.int .i64 0,.slice none 0 0] 53));obtain⟨⟨t0,t1,t2,t3⟩,g0,g1,g2,g3⟩:=sS hT)))
  ·clear s1 s2 s3
   go_wp2_with fail
   go_meet
   exact⟨w2.heap.size,rfl,rfl,aZ w2 _,hq2.size,hq2.alloc hq2.size _⟩
  ·clear s1 s2 s3
   go_wp2_with fail
   go_meet
   exact⟨w1.heap.size,rfl,rfl,nK hT s (.slice a np c) b u,bI _,kD hq2 (bI _) s (.slice a np c) b u⟩
 case rest =>
  obtain⟨Y,rfl,rfl,hY,hYw,hqc⟩:=hcut
  obtain⟨w2,rfl⟩:∃ w2:World,w2=wc:=⟨_,rfl⟩
  clear k0 k1' k2 k3 k4 k5 k6 k7 y0 y1 y2 y3 y4 y5 y6 y7;have hL2:=HL1.out.below hqc;have QH:=(hqc.block _ hz).trans HN.out;have hzc:=hqc.size;have hk2:=hk1.trans (aR.of hqc (by omega));obtain⟨⟨k0,k1',k2,k3,k4,k5,k6,k7⟩,kz⟩:=hL2.cells;obtain⟨y0,y1,y2,y3,y4,y5,y6,y7⟩:=aL QH;obtain⟨⟨c0,c1,c2,c3⟩,f0,f1,f2,f3⟩:=sS hY;have HL2:=ay hL2;have HY:=ay hY;have hYl:=(bU hY).1;have HNN:=ay QH;clear hL2 QH hY kz HN
  go_upto_if 18 with fail
  cases hmd:md.isEmpty with
  | true =>
   have HR1:Hid (R=nG f (if fd=true then (if np=n then none else some (32,a_)) else some (31,a_))):=ay (by rw[HR.out,bq (List.isEmpty_iff.1 hmd)]);clear hmd s1 s2 s3
   cases fd with
   | false =>
    have HFx:=ay (VP.out w2 HL2.out 31);go_wp2_with (go_at_call 50;refine HFx.out.mono ?_;rintro e w3 ⟨rfl,hl3,fM⟩)
    go_end0
    exact⟨rfl,by rw[HR1.out];exact hl3,hk2.trans fM⟩
   | true =>
    by_cases hnp:np=n
    ·subst hnp
     go_wp2
     go_end0
     exact⟨rfl,by have q:=HL2.out;rw[HR1.out];simpa [qJ] using q,hk2⟩
    ·have HR2:Hid (R=nG f (some (32,a_))):=ay (by rw[HR1.out,bq rfl,aP hnp])
     have HFx:=ay (VP.out w2 HL2.out 32);go_wp2_with (go_at_call 50;refine HFx.out.mono ?_;rintro e w3 ⟨rfl,hl3,fM⟩)
     go_end0
     exact⟨rfl,by rw[HR2.out];exact hl3,hk2.trans fM⟩
  | false =>
   have hm0:md≠[]:=λq=>by rw[q] at hmd;cases hmd
   have HHx:=ay (λW (hW:Below w2.heap.size w2 W)=>HH.out W (hqc.trans (hW.mono hzc)));have HFx:=ay (λW (hW:Below w2.heap.size w2 W)=>HF.out W (hqc.trans (hW.mono hzc)))
   obtain⟨bb,afV⟩:∃ bb,decide (md∈L)=bb:=⟨_,rfl⟩
   rw[afV] at HHx
   have HR1:Hid (R=nG f (if bb=true then some (31,a_) else some (33,a_))):=ay (by
    rw[HR.out,aP hm0,<- afV]
    by_cases q:md∈L
    ·rw[bq q,bq (kS q)]
    ·rw[aP q,aP (by simpa using q)])
   have HN2:=ay (show w2.heap[w.heap.size]?=some (.cells (aT op ⟨nm.toArray⟩ ⟨md.toArray⟩ ng mv ys (.slice ae n ce) a_) 64 (0,0)) from HNN.out);clear afV hm0 s1 s2 s3 HR HH HF
   go_upto_region 3 with fail
   go_cut [26] (λv wc=>v=.bool (!bb)/\Below w2.heap.size w2 wc)
   case first =>
    go_region_with (go_at_call 54;refine(HHx.out _ (bY _ _).drew).mono ?_;rintro e w3 ⟨rfl,hb3⟩)
    all_goals
     go_wp2_with fail
     go_meet
     exact⟨rfl,(bY _ _).drew.trans hb3⟩
   case rest =>
    obtain⟨rfl,hq3⟩:=hcut
    obtain⟨w3,rfl⟩:∃ w3:World,w3=wc:=⟨_,rfl⟩
    clear k0 k1' k2 k3 k4 k5 k6 k7 y0 y1 y2 y3 y4 y5 y6 y7 c0 c1 c2 c3 f0 f1 f2 f3 HHx;have hL3:=HL2.out.below hq3;have hN3:=(hq3.block _ (by omega)).trans HN2.out;have hY3:=(hq3.block _ hYl).trans HY.out;have hz3:=hq3.size;have fM:=hk2.trans (aR.of hq3 (by omega));obtain⟨⟨k0,k1',k2,k3,k4,k5,k6,k7⟩,kz⟩:=hL3.cells;obtain⟨y0,y1,y2,y3,y4,y5,y6,y7⟩:=aL hN3;obtain⟨⟨c0,c1,c2,c3⟩,f0,f1,f2,f3⟩:=sS hY3;have RA:=ay hL3;clear kz
    cases bb with
    | false =>
     have HFx:=ay (VP.out w3 RA.out 33);have HR2:Hid (R=nG f (some (33,a_))):=ay (by have q:=HR1.out;simpa using q);go_wp2_with (go_at_call 50;refine HFx.out.mono ?_;rintro e w4 ⟨rfl,hl4,hk4⟩)
     go_end0
     exact⟨rfl,by rw[HR2.out];exact hl4,fM.trans hk4⟩
    | true =>
     have HR2:Hid (R=nG f (some (31,a_))):=ay (by have q:=HR1.out;simpa using q);rw[HFS.out] at k3;have HN3:=ay hN3;have HY3:=ay hY3;clear HR1 hN3 hY3;have rA:=hal.trans ((hqc.trans (hq3.mono hzc)).mono hal.size);have aiS:w.heap.size<=Y:=iY hal.size hYw
     have afW:Y<w3.heap.size:=by omega
     go_upto_region 5 with fail
     go_cut [5] (λv wc=>v=.bool false/\nL C lb (.slice ai L.length ci) f wc/\wc.heap[w.heap.size]?=some (.cells (aT op ⟨nm.toArray⟩ ⟨md.toArray⟩ ng mv ys (.slice ae n ce) a_) 64 (0,0))/\Below w.heap.size w wc)
     case first =>
      go_region_with (go_at_call 214;refine(HFx.out _ hq3.drew).mono ?_;rintro e w4 ⟨rfl,hb4⟩;have hY4:=(hb4.block Y afW).trans HY3.out;obtain⟨⟨d0,d1,d2,d3⟩,g0,g1,g2,g3⟩:=sS hY4)
      all_goals
       have Dv:Below w3.heap.size w3 w4:=(bY _ _).drew.trans hb4
       have HE:Hid (nL C lb (.slice ai L.length ci) f (xg w4 Y (.string ⟨#[]⟩) (.slice none 0 0) (.int .i64 0) (.slice none 0 0))/\(xg w4 Y (.string ⟨#[]⟩) (.slice none 0 0) (.int .i64 0) (.slice none 0 0)).heap[w.heap.size]?=some (.cells (aT op ⟨nm.toArray⟩ ⟨md.toArray⟩ ng mv ys (.slice ae n ce) a_) 64 (0,0))/\Below w.heap.size w (xg w4 Y (.string ⟨#[]⟩) (.slice none 0 0) (.int .i64 0) (.slice none 0 0))) :=
        ay ⟨(Jc w4 Y lb _ _ _ _ (by omega)).trans (RA.out.below Dv),(Jc w4 Y w.heap.size _ _ _ _ (by omega)).trans ((Dv.block _ (by omega)).trans HN3.out),kD (rA.trans (Dv.mono rA.size)) aiS _ _ _ _⟩
       clear d0 d1 d2 d3 g0 g1 g2 g3 hY4 k0 k1' k2 k3 k4 k5 k6 k7 y0 y1 y2 y3 y4 y5 y6 y7 c0 c1 c2 c3 f0 f1 f2 f3 hb4 Dv;go_wp2_with fail
       go_meet
       exact⟨rfl,HE.out.1,HE.out.2.1,HE.out.2.2⟩
     case rest =>
      obtain⟨rfl,hl4,hN4,hb4⟩:=hcut
      obtain⟨w4,rfl⟩:∃ w4:World,w4=wc:=⟨_,rfl⟩
      clear k0 k1' k2 k3 k4 k5 k6 k7 y0 y1 y2 y3 y4 y5 y6 y7 c0 c1 c2 c3 f0 f1 f2 f3;obtain⟨y0,y1,y2,y3,y4,y5,y6,y7⟩:=aL hN4;have HFy:=ay (VP.out w4 hl4 31);clear hN4 hl4;go_wp2_with (go_at_call 50;refine HFy.out.mono ?_;rintro e w5 ⟨rfl,hl5,lu⟩)
      go_end0
      exact⟨rfl,by rw[HR2.out];exact hl5,(aR.of hb4 hbb).trans lu⟩
def Ny (x:PZ):Prop:=∀ (E:SE) (C:Yf) (lb B:Nat) (im:Value) (f:Fl) (am:Option Addr) (wn cm:Nat) (ae:Option Addr) (ce:Nat) (ab:Option Addr) (cb:Nat) (bd:List aH) (res:Bool) (w:World),nL C lb im f w->ScM E C lb B im w->bT f ->
 nD YA (λb=>b≠lb) w (.slice am wn cm) (.slice ae x.aA.length ce) x->gQ (λb=>b≠lb) w (.slice ab bd.length cb) bd->bd.Pairwise (· < ·)->bd.length+x.size<=500000 ->
 Calls Tryz.prog 81 #[.pointer (some ⟨lb,0,none⟩),.agg (aT x.op ⟨x.name.toArray⟩ ⟨x.module.toArray⟩ (decide (x.num<0)) (.slice am wn cm) x.yes (.slice ae x.aA.length ce) x.at_),.agg #[.slice ab bd.length cb],.bool res] w (Aq C lb im (nG f (x.fB E bd res)) w)
theorem Nz (w:World)(x:aH):gQ (λ_=>True) (w.alloc (.cells #[.string ⟨x.toArray⟩] 9)) (.slice (some ⟨w.heap.size,0,none⟩) 1 1) [x]:=by
 refine⟨⟨_,1,rfl,bI _,rfl,λ_=>⟨w.heap.size,0,rfl,trivial,by simp,λi hi=>?_⟩⟩,λn c q=>by cases q⟩
 obtain rfl:i=0:=by simpa using hi
 rw[bg (aZ w _)]
 rfl
theorem PZ.xY (e:PZ):e.size=qI e.aA+1:=by cases e;rw[PZ.size];rfl
theorem Cg:∀ {l:List PZ} {k:Nat} (h:k<l.length),l[k].size<=qI l
 | [],_,h=>absurd h (by simp)
 | e :: l,0,_=>by rw[qI];exact Nat.le_add_right _ _
 | e :: l,k+1,h=>by
  rw[qI];have:=Cg (l:=l) (k:=k) (by simpa using h);simp only[JG];omega
theorem Ar:∀ l:List PZ,l.length<=qI l
 | []=>bI _
 | e :: l=>by
  have h1:=Ar l;have h2:=e.xY;rw[dN,qI];omega
theorem sU (E:SE):∀ (op:Int) (nm md:aH) (n:Nat) (a:Int) (bd:List aH) (res:Bool),bT (sI E bd res op nm md n a):=λop nm md n a bd res=>by
 have hA:∀ o,bT (xZ o n a):=λo=>by
  unfold xZ
  split
  ·exact bT.some (by decide)
  ·split
   ·exact bT.none
   ·exact bT.some (by decide)
 unfold sI
 split
 ·exact bT.some (by decide)
 ·split
  ·unfold H8
   split
   ·exact hA _
   ·split
    ·exact hA _
    ·exact bT.some (by decide)
  ·exact bT.none
mutual
theorem PZ.sU (E:SE)(bd:List aH)(res:Bool):∀ e:PZ,bT (e.fB E bd res)
 | .mk op nm md _ _ aA a=>by rw[PZ.fB];exact(Go.Proofs.YtmhdgeekclhbbaaGreatDoor.sU E op nm md aA.length a bd res).or (Dw E op nm bd res aA 0)
theorem Dw (E:SE)(op:Int)(nm:aH)(bd:List aH)(res:Bool):∀ (l:List PZ) (i:Nat),bT (fF E op nm bd res i l)
 | [],i=>by rw[fF];exact bT.none
 | e :: l,i=>by rw[fF];exact(PZ.sU E _ res e).or (Dw E op nm bd res l (i+1))
end
theorem Uu (x:PZ)(IHx:∀ k∈x.aA,Ny k):Ny x:=by
 intro E C lb B im f am wn cm ae ce ab cb bd res w hL hM hf hZ hT hr hn;have hal:=(aB w (.cells (aT x.op ⟨x.name.toArray⟩ ⟨x.module.toArray⟩ (decide (x.num<0)) (.slice am wn cm) x.yes (.slice ae x.aA.length ce) x.at_) 64)).alloc (by simp) (.cells #[.slice ab bd.length cb] 107);have g0:=(iB (w.alloc (.cells (aT x.op ⟨x.name.toArray⟩ ⟨x.module.toArray⟩ (decide (x.num<0)) (.slice am wn cm) x.yes (.slice ae x.aA.length ce) x.at_) 64)) (.cells #[.slice ab bd.length cb] 107) w.heap.size (by simp)).trans (aZ w (.cells (aT x.op ⟨x.name.toArray⟩ ⟨x.module.toArray⟩ (decide (x.num<0)) (.slice am wn cm) x.yes (.slice ae x.aA.length ce) x.at_) 64));have g1:=aZ (w.alloc (.cells (aT x.op ⟨x.name.toArray⟩ ⟨x.module.toArray⟩ (decide (x.num<0)) (.slice am wn cm) x.yes (.slice ae x.aA.length ce) x.at_) 64)) (.cells #[.slice ab bd.length cb] 107);rw[oU] at g1;have hhd:=sU E x.op x.name x.module x.aA.length x.at_ bd res;have hdef:=x.TV E bd res;have hks:=x.xY;have hkl:=Ar x.aA
 have hcap:=λi (hi:i<x.aA.length)=>Cg hi
 obtain⟨_,ae',ce',hv,_,hform⟩:=hZ.form;simp only[Value.slice.injEq] at hv;obtain⟨rfl,-,rfl⟩:=hv;have YO:=hL.lt;have hL1:=hL.below hal;have hM1:=hM.keep hL (bA.of hal);have hT1:=hT.below hal;have HF:=ay hform;have HSZ:=ay hcap;have IH:=ay IHx;have vI:=ay hdef;have HR:=ay hr;have JB:=ay hf;rw[hks] at hn;clear hL hM hT hZ hr hf hform hcap IHx hdef hks
 obtain⟨R,hR⟩:∃ R,R=x.fB E bd res:=⟨_,rfl⟩
 rw[<- hR] at vI |-;clear hR;generalize hop:x.op=op at *;generalize hnm:x.name=nm at *;generalize hmd:x.module=md at *;generalize hat:x.at_=a_ at *;generalize hkk:x.aA=ks at *;clear hop hnm hmd hat hkk;generalize decide (x.num<0)=ng at *;generalize x.yes=ys at *;have HX:=ay (λW (hW:Below w.heap.size w W)=>hW);go_enter Tryz.func81,Tryz.ntmps81
 go_upto_block 0 with fail
 change Code.wp _ _ _ _ ((w.alloc _).alloc (.cells #[.slice ab bd.length cb] 107));generalize (w.alloc _).alloc (.cells #[.slice ab bd.length cb] 107)=w1 at *;have hz1:=hal.size;have hl1:=(bU g1).1;have hk1:=aR.of hal YO;obtain⟨y0,y1,y2,y3,y4,y5,y6,y7⟩:=aL g0;obtain⟨r0,rz⟩:=bP g1;have HL1:=ay hL1;have HM1:=ay hM1;have HT1:=ay hT1;have HG:=ay (iq g0 g1);clear hL1 hM1 hT1 g0 g1 HX
 obtain⟨A,hA⟩:∃ A,A=(decide (op=3) && !decide (nm∈bd)):=⟨_,rfl⟩
 obtain⟨T,hTT⟩:∃ T,T=decide ((op=3/\nm ∉ bd)\/(op=4/\res=false)):=⟨_,rfl⟩
 have HA:=ay hA;have Vd:=ay hTT;clear hA hTT
 obtain⟨f1,hf1⟩:∃ f1,f1=nG f (sI E bd res op nm md ks.length a_):=⟨_,rfl⟩
 have LD:=ay hf1
 have QO:bT f1:=by rw[hf1];exact JB.out.or hhd
 have Yi:=ay QO;clear hf1 QO hhd
 have aj9:lb<w1.heap.size:=by omega
 go_cut [] (λwc=>nL C lb im f1 wc/\aR lb w1 wc)
 case first =>
  go_upto_region 1 with fail
  go_cut [10] (λv wc=>v=.bool A/\Below w1.heap.size w1 wc)
  case first =>
   have HH:=ay (Fw _ ab cb bd ⟨nm.toArray⟩ w1 HT1.out HR.out (by omega));simp only at HH
   obtain⟨m,hm⟩:∃ m,m=decide (nm∈bd):=⟨_,rfl⟩
   rw[<- hm] at HH HA;clear hm
   by_cases h3:op=3
   ·have h3I:((op:Int) == 3)=true:=by simp[h3]
    have HA1:Hid (A=!m):=ay (by rw[HA.out,kS h3];rfl);clear h3 HA;go_wp2_with (go_at_call 54;refine HH.out.mono ?_;rintro e w2 ⟨rfl,hb2⟩)
    go_meet
    exact⟨by rw[HA1.out],hb2⟩
   ·have h3I:((op:Int) == 3)=false:=by simp[h3]
    have HA1:Hid (A=false):=ay (by rw[HA.out,fu h3];rfl);clear h3 HA HH;go_wp2
    go_meet
    exact⟨by rw[HA1.out],bY _ _⟩
  case rest =>
   obtain⟨rfl,hb2⟩:=hcut
   obtain⟨w2,rfl⟩:∃ w2:World,w2=wc:=⟨_,rfl⟩
   clear y0 y1 y2 y3 y4 y5 y6 y7 r0 rz;have hz2:=hb2.size;have g0:=(hb2.block _ (by omega)).trans HG.out.1;have g1:=(hb2.block _ hl1).trans HG.out.2;have HG2:=ay (iq g0 g1);obtain⟨y0,y1,y2,y3,y4,y5,y6,y7⟩:=aL g0;clear g0 g1
   go_upto_if 10 with fail
   go_cut [10] (λv wc=>v=.bool T/\w2=wc)
   case first =>
    cases A with
    | true =>
     have HT1:Hid (T=true):=ay (by
      have h1:=HA.out;rw[Vd.out];simp only[Bool.true_eq,qM,uK,Bool.not_eq_true',decide_eq_false_iff_not] at h1
      exact kS (.inl h1))
     go_wp2
     go_meet
     exact⟨by rw[HT1.out],rfl⟩
    | false =>
     have HT1:Hid (T=(decide (op=4) && !res)):=ay (by
      have h1:=HA.out;rw[Vd.out]
      have h2:¬ (op=3/\nm ∉ bd):=λq=>by rw[kS q.1,fu q.2] at h1;cases h1
      by_cases h4:op=4
      ·cases res<;>simp[h4,h2]
      ·simp[h4,h2])
     clear Vd HA
     by_cases h4:op=4
     ·have h4I:((op:Int) == 4)=true:=by simp[h4]
      have HT2:Hid (T=!res):=ay (by rw[HT1.out,kS h4];rfl);clear h4 HT1;go_wp2
      go_meet
      exact⟨by rw[HT2.out],rfl⟩
     ·have h4I:((op:Int) == 4)=false:=by simp[h4]
      have HT2:Hid (T=false):=ay (by rw[HT1.out,fu h4];rfl);clear h4 HT1;go_wp2
      go_meet
      exact⟨by rw[HT2.out],rfl⟩
   case rest =>
    obtain⟨rfl,rfl⟩:=hcut;have hL2:=HL1.out.below hb2;have hM2:=HM1.out.keep HL1.out (bA.of hb2);have HL2:=ay hL2;have TJ:=ay hM2;clear hL2 hM2
    go_upto_if 10 with fail
    cases T with
    | true =>
     have HE:Hid (f1=nG f (some (31,a_))):=ay (by
      rw[LD.out,sI,bq (V7 Vd.out.symm)])
     have VP:=ay (yX C lb im f 31 a_ w2 HL2.out JB.out);clear Vd HA LD;go_wp2_with (go_at_call 50;refine VP.out.mono ?_;rintro e w3 ⟨rfl,hl3,fM⟩)
     go_meet
     exact⟨by rw[HE.out];exact hl3,(aR.of hb2 (by omega)).trans fM⟩
    | false =>
     have hnT:=of_decide_eq_false Vd.out.symm
     by_cases h24:op=24
     ·have HE:Hid (f1=nG f (H8 E nm md ks.length a_)):=ay (by
       rw[LD.out,sI,aP hnT,bq h24])
      subst h24;have HCA:Hid (Calls _ _ _ w2 _):=ay (Yh E C lb B im f 24 nm md ng ys (.slice am wn cm) ae ks.length ce a_ w2 HL2.out TJ.out JB.out);unfold aT at HCA;clear Vd HA LD hnT;go_wp2_with (go_at_call 137;refine HCA.out.mono ?_;rintro e w3 ⟨rfl,hl3,fM⟩)
      go_meet
      exact⟨by rw[HE.out];exact hl3,(aR.of hb2 (by omega)).trans fM⟩
     ·have akb:((op:Int) == 24)=false:=by simp[h24]
      have HE:Hid (f1=f):=ay (by
       rw[LD.out,sI,aP hnT,aP h24,qJ])
      clear Vd HA LD hnT h24;go_wp2
      go_meet
      exact⟨by rw[HE.out];exact HL2.out,aR.of hb2 (by omega)⟩
 case rest =>
  obtain⟨hl2,hk2⟩:=hcut
  obtain⟨w2,rfl⟩:∃ w2:World,w2=wc:=⟨_,rfl⟩
  clear y0 y1 y2 y3 y4 y5 y6 y7 r0 rz HA Vd A T;have hz2:=hk2.2.1;have hM2:=HM1.out.keep HL1.out hk2.2;have Rv:=HT1.out.frame hk2.2;have g0:=(hk2.2.2 w.heap.size (by omega) (by omega)).trans HG.out.1;have g1:=(hk2.2.2 (w.heap.size+1) (by omega) hl1).trans HG.out.2;have aiT:bA (λb=>b≠lb) w w2:=hk1.2.trans hk2.2;have aiU:=hk1.trans hk2;obtain⟨y0,y1,y2,y3,y4,y5,y6,y7⟩:=aL g0;have TJ:=ay hM2;have HT2:=ay Rv;have HG2:=ay (iq g0 g1);have HL2:=ay hl2
  have akc:w.heap.size+1<w2.heap.size:=by omega
  clear hM2 Rv g0 g1 hl2 HM1 HT1 HL1 HG hk1;go_wp2
  go_loopw [8,9,42] (λ_ _ q wr=>∃ k:Nat,k<=ks.length/\q=.int .i64 k/\nL C lb im (nG f1 (fF E op nm bd res 0 (ks.take k))) wr/\aR lb w2 wr) (λ_ _ q _=>ks.length - (intOf q).toNat)
  case atStart=>exact⟨0,mD _,rfl,by rw[List.take_zero,fF,qJ];exact HL2.out,aR.refl _ _⟩
  case round =>
   obtain⟨k,hk,rfl,hlr,hkr⟩:=hrel;clear y0 y1 y2 y3 y4 y5 y6 y7;have Fx:=hkr.2.1;have Fy:=ay hlr;clear hlr
   by_cases hlt:k<ks.length
   ·obtain⟨b,off,rfl,hPb,hbw,kK⟩:=HF.out (by omega)
    obtain⟨m,kv,hE,hc⟩:=kK k hlt;have har:bA (λb=>b≠lb) w wr:=aiT.trans hkr.2;obtain⟨oK,oL,oM,oZ,o8,rfl,rfl⟩:=hE.Xt;have hE':=hE.frame har
    have iU:∀ (j:Nat) (u:Value),w.cell? ⟨b,off+k * 8+j,none⟩=some u->wr.cell? ⟨b,off+k * 8+j,none⟩=some u:=λj u h=>(AJ (a:=⟨b,off+k * 8+j,none⟩) (har.2 b hPb hbw)).trans h
    have x0:=iU 0 _ (hc 0 _ rfl);have x1:=iU 1 _ (hc 1 _ rfl);have x2:=iU 2 _ (hc 2 _ rfl);have x3:=iU 3 _ (hc 3 _ rfl);have x4:=iU 4 _ (hc 4 _ rfl);have x5:=iU 5 _ (hc 5 _ rfl);have x6:=iU 6 _ (hc 6 _ rfl);have x7:=iU 7 _ (hc 7 _ rfl);rw[qp] at x0;simp only[dX] at x1 x2;have hIH:=IH.out _ (oQ hlt);have hsz:=HSZ.out k hlt;have hsn:=Nb E op nm bd res hlt;have tZ:=ay hsn;have HE:=ay hE';have HIH:=ay hIH;clear kK hE hE' hc iU hIH hsn;generalize ks[k]=x at *
    obtain⟨fk,JV⟩:∃ fk,fk=nG f1 (fF E op nm bd res 0 (ks.take k)):=⟨_,rfl⟩
    have NA:bT fk:=by rw[JV];exact Yi.out.or (Dw E op nm bd res _ _)
    have ER:Hid (nG f1 (fF E op nm bd res 0 (ks.take (k+1)))=nG fk (x.fB E (Qm op nm bd k) res)):=ay (by rw[tZ.out,JV,vB]);rw[<- JV] at Fy;have hMr:=TJ.out.keep HL2.out hkr.2
    have HK:Hid (∀ (W:World) (ab':Option Addr) (cb':Nat) (bd':List aH),nL C lb im fk W->bA (λb=>b≠lb) wr W->gQ (λb=>b≠lb) W (.slice ab' bd'.length cb') bd'->bd'.Pairwise (· < ·)->bd'.length+x.size<=500000->Calls Tryz.prog 81 #[.pointer (some ⟨lb,0,none⟩),.agg #[.int .i64 x.op,.string ⟨x.name.toArray⟩,.string ⟨x.module.toArray⟩,.bool (decide (x.num<0)),.slice oK oL oM,.bool x.yes,.slice oZ x.aA.length o8,.int .i64 x.at_],.agg #[.slice ab' bd'.length cb'],.bool res] W (Aq C lb im (nG fk (x.fB E bd' res)) W)) :=
     ay λW ab' cb' bd' h1 h2 h3 h4 h5=>HIH.out E C lb B im fk oK oL oM oZ o8 ab' cb' bd' res W h1 (hMr.keep Fy.out h2) NA (HE.out.frame h2) h3 h4 h5
    have hTr:=HT2.out.frame hkr.2;have gr0:=(hkr.2.2 w.heap.size (by omega) (by omega)).trans HG2.out.1;have gr1:=(hkr.2.2 (w.heap.size+1) (by omega) (by omega)).trans HG2.out.2;have fV:=aB wr (.cells (aT x.op ⟨x.name.toArray⟩ ⟨x.module.toArray⟩ (decide (x.num<0)) (.slice oK oL oM) x.yes (.slice oZ x.aA.length o8) x.at_) 64);have gk:=aZ wr (.cells (aT x.op ⟨x.name.toArray⟩ ⟨x.module.toArray⟩ (decide (x.num<0)) (.slice oK oL oM) x.yes (.slice oZ x.aA.length o8) x.at_) 64)
    have qF:(k:Int)<(ks.length:Int):=by omega
    have HTr:=ay hTr;have QS:=ay (iq gr0 gr1);have Yj:lb<wr.heap.size:=Fy.out.lt;clear JV NA tZ HE HIH hMr hTr gr0 gr1 har
    go_upto_region 9 with fail
    change Code.wp _ _ _ _ (wr.alloc (.cells (aT x.op ⟨x.name.toArray⟩ ⟨x.module.toArray⟩ (decide (x.num<0)) (.slice oK oL oM) x.yes (.slice oZ x.aA.length o8) x.at_) 64));clear x0 x1 x2 x3 x4 x5 x6 x7
    have afX:wr.heap.size<(wr.alloc (.cells (aT x.op ⟨x.name.toArray⟩ ⟨x.module.toArray⟩ (decide (x.num<0)) (.slice oK oL oM) x.yes (.slice oZ x.aA.length o8) x.at_) 64)).heap.size:=by simp
    generalize wr.alloc (.cells (aT x.op ⟨x.name.toArray⟩ ⟨x.module.toArray⟩ (decide (x.num<0)) (.slice oK oL oM) x.yes (.slice oZ x.aA.length o8) x.at_) 64)=w3 at *;have hz3:=fV.size;have hL3:=Fy.out.below fV;have g0:=(fV.block _ (by omega)).trans QS.out.1;have g1:=(fV.block _ (by omega)).trans QS.out.2;have fM:=aR.of fV Yj;have RA:=ay hL3;have HT3:=ay (HTr.out.below fV);obtain⟨y0,y1,y2,y3,y4,y5,y6,y7⟩:=aL g0;obtain⟨q0,qz⟩:=bP g1;obtain⟨v0,v1,v2,v3,v4,v5,v6,v7⟩:=aL gk;have HGK:=ay gk;clear hL3 g0 g1 gk QS Fy HTr
    obtain⟨bb,ahz⟩:∃ bb,decide (op=22/\k=1)=bb:=⟨_,rfl⟩
    have HBB:=ay ahz;clear ahz
    go_cut [53] (λv wc=>v=.bool bb/\w3=wc)
    case first =>
     by_cases h22:op=22
     ·have hh:((op:Int) == 22)=true:=by simp[h22]
      by_cases hk1:k=1
      ·have hbt:Hid (bb=true):=ay (by rw[<- HBB.out];exact kS ⟨h22,hk1⟩)
       subst hk1;clear h22;go_wp2
       go_meet
       exact⟨by rw[hbt.out],rfl⟩
      ·have hbt:Hid (bb=false):=ay (by rw[<- HBB.out];exact fu (λq=>hk1 q.2))
       have hk2:((k:Int) == 1)=false:=by simp;omega
       clear h22;go_wp2
       go_meet
       exact⟨by rw[hbt.out],rfl⟩
     ·have hh:((op:Int) == 22)=false:=by simp[h22]
      have hbt:Hid (bb=false):=ay (by rw[<- HBB.out];exact fu (λq=>h22 q.1));clear h22;go_wp2
      go_meet
      exact⟨by rw[hbt.out],rfl⟩
    case rest =>
     obtain⟨rfl,rfl⟩:=hcut;have HKP:=ay (λ(W:World) (hW:aR lb w3 W)=>(show aR lb w2 W from hkr.trans (fM.trans hW)))
     cases bb with
     | true =>
      have hin:Qm op nm bd k=gB (bd++[nm]):=by rw[Qm,bq (V7 HBB.out)]
      rw[hin] at ER;have hsl:=vg (bd++[nm]);rw[bQ,List.length_singleton] at hsl;have HW:=ay (Jb (λ_=>True) ab cb (.slice (some ⟨w3.heap.size,0,none⟩) 1 1) bd [nm] (w3.alloc (.cells #[.string ⟨nm.toArray⟩] 9)).drew (((HT3.out.below (aB w3 _)).below (bY _ _).drew).imp λ_ _ _=>trivial) ((Nz w3 nm).below (bY _ _).drew) (by omega) (by simp));have hb4:Below w3.heap.size w3 (w3.alloc (.cells #[.string ⟨nm.toArray⟩] 9)).drew:=(aB w3 _).drew;have hsr:=xU (bd++[nm]);have HSR:=ay hsr;clear hin hsr HBB;generalize gB (bd++[nm])=S at *
      have hn0:w.heap.size<w3.heap.size:=by omega
      have hn1:w.heap.size+1<w3.heap.size:=by omega
      have hne1:wr.heap.size≠lb:=by omega
      have hne2:w.heap.size+1≠lb:=by omega
      have QT:w.heap.size≠lb:=by omega
      have HS:Hid (∀ W,bA (λb=>b≠lb) w3 W->((W.cell? ⟨wr.heap.size,0,none⟩=some (.int .i64 x.op)/\W.cell? ⟨wr.heap.size,1,none⟩=some (.string ⟨x.name.toArray⟩)/\W.cell? ⟨wr.heap.size,2,none⟩=some (.string ⟨x.module.toArray⟩)/\W.cell? ⟨wr.heap.size,3,none⟩=some (.bool (decide (x.num<0)))/\W.cell? ⟨wr.heap.size,4,none⟩=some (.slice oK oL oM)/\W.cell? ⟨wr.heap.size,5,none⟩=some (.bool x.yes)/\W.cell? ⟨wr.heap.size,6,none⟩=some (.slice oZ x.aA.length o8)/\W.cell? ⟨wr.heap.size,7,none⟩=some (.int .i64 x.at_))/\W.cell? ⟨w.heap.size+1,0,none⟩=some (.slice ab bd.length cb)/\W.cell? ⟨w.heap.size,1,none⟩=some (.string ⟨nm.toArray⟩))):=ay λW hW=>⟨aL ((hW.2 wr.heap.size hne1 afX).trans HGK.out),(AJ (a:=⟨w.heap.size+1,0,none⟩) (hW.2 _ hne2 hn1)).trans q0,(AJ (a:=⟨w.heap.size,1,none⟩) (hW.2 _ QT hn0)).trans y1⟩
      go_upto_region 10 with fail
      go_region_held3 (λW=>(W.cell? ⟨wr.heap.size,0,none⟩=some (.int .i64 x.op)/\W.cell? ⟨wr.heap.size,1,none⟩=some (.string ⟨x.name.toArray⟩)/\W.cell? ⟨wr.heap.size,2,none⟩=some (.string ⟨x.module.toArray⟩)/\W.cell? ⟨wr.heap.size,3,none⟩=some (.bool (decide (x.num<0)))/\W.cell? ⟨wr.heap.size,4,none⟩=some (.slice oK oL oM)/\W.cell? ⟨wr.heap.size,5,none⟩=some (.bool x.yes)/\W.cell? ⟨wr.heap.size,6,none⟩=some (.slice oZ x.aA.length o8)/\W.cell? ⟨wr.heap.size,7,none⟩=some (.int .i64 x.at_))/\W.cell? ⟨w.heap.size+1,0,none⟩=some (.slice ab bd.length cb)/\W.cell? ⟨w.heap.size,1,none⟩=some (.string ⟨nm.toArray⟩))
       (first|(with_reducible exact p3)|(go_keep;done))
       (first
        | (go_at_call 55;refine HW.out.mono ?_;rintro e w5 ⟨a5,c5,rfl,ht5,hb5⟩;have acC:=hb4.trans (hb5.mono (by simp));have HEX:=HK.out w5 a5 c5 S (RA.out.below acC) ((bA.of fV).trans (bA.of acC)) (ht5.imp λq hq _=>by have:=hb4.size;omega) HSR.out (by omega);have p3:=HS.out w5 (bA.of acC))
        | (go_at_call 81;refine HEX.mono ?_;rintro e w6 ⟨rfl,hl6,qY⟩;have p3:=HS.out w6 ((bA.of acC).trans qY.2)))
      all_goals
       clear p3 v0 v1 v2 v3 v4 v5 v6 v7 y0 y1 y2 y3 y4 y5 y6 y7 q0 HS HK;go_wp2_with fail
       go_roundw
       case rel=>exact⟨k+1,by omega,by go_num,by rw[ER.out];exact hl6,HKP.out _ ((aR.of acC (by omega)).trans qY)⟩
       case measure=>simp[intOf];omega
     | false =>
      have hin:Qm op nm bd k=bd:=by rw[Qm,aP (of_decide_eq_false HBB.out)]
      rw[hin] at ER;have HEX:=ay (HK.out w3 ab cb bd RA.out (bA.of fV) HT3.out HR.out (by omega));clear hin HBB HK;go_wp2_with (go_at_call 81;refine HEX.out.mono ?_;rintro e w4 ⟨rfl,hl4,hk4⟩)
      go_roundw
      case rel=>exact⟨k+1,by omega,by go_num,by rw[ER.out];exact hl4,HKP.out _ hk4⟩
      case measure=>simp[intOf];omega
   ·obtain rfl:k=ks.length:=by omega
    have qF:decide ((ks.length:Int)<(ks.length:Int))=false:=fu (by omega);go_wp2
    go_end0
    refine⟨rfl,?_,aiU.trans hkr⟩;rw[vI.out];have:=Fy.out;rw[Fe,LD.out,vB] at this;exact this
mutual
theorem Dx:∀ x:PZ,Ny x
 | .mk op nm md num yes aA a=>Uu _ (Jd aA)
theorem Jd:∀ l:List PZ,∀ k∈l,Ny k
 | [],k,h=>by cases h
 | e :: l,k,h=>by
  rcases oo.1 h with q|q
  ·rw[q];exact Dx e
  ·exact Jd l k q
end
theorem qj (E:SE)(bd:List aH)(res:Bool):∀ l:List PZ,bT (dB E bd res l)
 | []=>bT.none
 | e :: l=>(PZ.sU E bd res e).or (qj E bd res l)
theorem EB (E:SE)(C:Yf)(lb B:Nat)(im:Value)(f:Fl)(al:Option Addr)(cl:Nat)(ks:List PZ)(ab:Option Addr)(cb:Nat)(bd:List aH)(res:Bool)(w:World)(hL:nL C lb im f w)(hM:ScM E C lb B im w)(hf:bT f)
  (hK:RowK (ZK YA) (λb=>b≠lb) w (.slice al ks.length cl) ks) (hT:gQ (λb=>b≠lb) w (.slice ab bd.length cb) bd) (hr:bd.Pairwise (· < ·)) (hn:∀ e∈ks,bd.length+e.size<=500000) (hkl:ks.length<=1000000) :
  Calls Tryz.prog 80 #[.pointer (some ⟨lb,0,none⟩),.slice al ks.length cl,.agg #[.slice ab bd.length cb],.bool res] w (Aq C lb im (nG f (dB E bd res ks)) w):=by
 have hal:=aB w (.cells #[.slice ab bd.length cb] 107);have g1:=aZ w (.cells #[.slice ab bd.length cb] 107);obtain⟨ae',ce',hv,_,hform⟩:=hK.form;simp only[Value.slice.injEq] at hv;obtain⟨rfl,-,rfl⟩:=hv;have YO:=hL.lt;have hL1:=hL.below hal;have hM1:=hM.keep hL (bA.of hal);have hT1:=hT.below hal;have HF:=ay hform;have HSZ:=ay hn;have JB:=ay hf;have HR:=ay hr;clear hL hM hT hr hf hform hn hK
 obtain⟨R,hR⟩:∃ R,R=nG f (dB E bd res ks):=⟨_,rfl⟩
 rw[<- hR];have vI:=ay hR;clear hR;go_enter Tryz.func80,Tryz.ntmps80
 go_upto_region 1 with fail
 change Code.wp _ _ _ _ (w.alloc (.cells #[.slice ab bd.length cb] 107));generalize w.alloc (.cells #[.slice ab bd.length cb] 107)=w1 at *;have hz1:=hal.size;have hl1:=(bU g1).1;have hk1:=aR.of hal YO;have HL1:=ay hL1;have HM1:=ay hM1;have HT1:=ay hT1;have HG1:=ay g1;have aiV:bA (λb=>b≠lb) w w1:=bA.of hal;clear hL1 hM1 hT1 g1;go_wp2
 go_loopw [9,12] (λ_ q wr=>∃ k:Nat,k<=ks.length/\q=.int .i64 k/\nL C lb im (nG f (dB E bd res (ks.take k))) wr/\aR lb w1 wr) (λ_ q _=>ks.length - (intOf q).toNat)
 case atStart=>exact⟨0,mD _,rfl,by rw[List.take_zero,dB,qJ];exact HL1.out,aR.refl _ _⟩
 case round =>
  obtain⟨k,hk,rfl,hlr,hkr⟩:=hrel;have Fx:=hkr.2.1;have Fy:=ay hlr;clear hlr
  by_cases hlt:k<ks.length
  ·obtain⟨b,off,rfl,hPb,hbw,kK⟩:=HF.out (by omega)
   obtain⟨⟨m,kv⟩,hE,hc⟩:=kK k hlt;have har:bA (λb=>b≠lb) w wr:=aiV.trans hkr.2;obtain⟨oK,oL,oM,oZ,o8,rfl,rfl⟩:=nD.Xt hE;have hE':=nD.frame har hE
   have iU:∀ (j:Nat) (u:Value),w.cell? ⟨b,off+k * 8+j,none⟩=some u->wr.cell? ⟨b,off+k * 8+j,none⟩=some u:=λj u h=>(AJ (a:=⟨b,off+k * 8+j,none⟩) (har.2 b hPb hbw)).trans h
   have x0:=iU 0 _ (hc 0 _ rfl);have x1:=iU 1 _ (hc 1 _ rfl);have x2:=iU 2 _ (hc 2 _ rfl);have x3:=iU 3 _ (hc 3 _ rfl);have x4:=iU 4 _ (hc 4 _ rfl);have x5:=iU 5 _ (hc 5 _ rfl);have x6:=iU 6 _ (hc 6 _ rfl);have x7:=iU 7 _ (hc 7 _ rfl);rw[qp] at x0;simp only[dX] at x1 x2;have hsz:=HSZ.out _ (oQ hlt);have tZ:=ay (J6 E bd res hlt);have HE:=ay hE';clear kK hE hE' hc iU;generalize ks[k]=x at *
   obtain⟨fk,JV⟩:∃ fk,fk=nG f (dB E bd res (ks.take k)):=⟨_,rfl⟩
   have NA:bT fk:=by rw[JV];exact JB.out.or (qj E bd res _)
   have ER:Hid (nG f (dB E bd res (ks.take (k+1)))=nG fk (x.fB E bd res)):=ay (by rw[tZ.out,JV,vB]);rw[<- JV] at Fy;have hMr:=HM1.out.keep HL1.out hkr.2
   have HK:Hid (∀ (W:World),nL C lb im fk W->bA (λb=>b≠lb) wr W->gQ (λb=>b≠lb) W (.slice ab bd.length cb) bd->Calls Tryz.prog 81 #[.pointer (some ⟨lb,0,none⟩),.agg #[.int .i64 x.op,.string ⟨x.name.toArray⟩,.string ⟨x.module.toArray⟩,.bool (decide (x.num<0)),.slice oK oL oM,.bool x.yes,.slice oZ x.aA.length o8,.int .i64 x.at_],.agg #[.slice ab bd.length cb],.bool res] W (Aq C lb im (nG fk (x.fB E bd res)) W)) :=
    ay λW h1 h2 h3=>Dx x E C lb B im fk oK oL oM oZ o8 ab cb bd res W h1 (hMr.keep Fy.out h2) NA (nD.frame h2 HE.out) h3 HR.out hsz
   have hTr:=HT1.out.frame hkr.2;have gr1:=(hkr.2.2 w.heap.size (by omega) hl1).trans HG1.out;have fV:=aB wr (.cells (aT x.op ⟨x.name.toArray⟩ ⟨x.module.toArray⟩ (decide (x.num<0)) (.slice oK oL oM) x.yes (.slice oZ x.aA.length o8) x.at_) 64);have gk:=aZ wr (.cells (aT x.op ⟨x.name.toArray⟩ ⟨x.module.toArray⟩ (decide (x.num<0)) (.slice oK oL oM) x.yes (.slice oZ x.aA.length o8) x.at_) 64)
   have qF:(k:Int)<(ks.length:Int):=by omega
   have Yj:lb<wr.heap.size:=Fy.out.lt;have HEX:=ay (HK.out (wr.alloc (.cells (aT x.op ⟨x.name.toArray⟩ ⟨x.module.toArray⟩ (decide (x.num<0)) (.slice oK oL oM) x.yes (.slice oZ x.aA.length o8) x.at_) 64)) (Fy.out.below fV) (bA.of fV) (hTr.below fV));have g1:=(fV.block _ (by omega)).trans gr1;have hkF:=hkr.trans (aR.of fV Yj);clear JV NA tZ HE hMr hTr gr1 har HK
   go_upto_region 4 with fail
   change Code.wp _ _ _ _ (wr.alloc (.cells (aT x.op ⟨x.name.toArray⟩ ⟨x.module.toArray⟩ (decide (x.num<0)) (.slice oK oL oM) x.yes (.slice oZ x.aA.length o8) x.at_) 64));clear x0 x1 x2 x3 x4 x5 x6 x7;generalize wr.alloc (.cells (aT x.op ⟨x.name.toArray⟩ ⟨x.module.toArray⟩ (decide (x.num<0)) (.slice oK oL oM) x.yes (.slice oZ x.aA.length o8) x.at_) 64)=w3 at *;obtain⟨q0,qz⟩:=bP g1;obtain⟨v0,v1,v2,v3,v4,v5,v6,v7⟩:=aL gk;clear g1 gk Fy;go_wp2_with (go_at_call 81;refine HEX.out.mono ?_;rintro e w4 ⟨rfl,hl4,hk4⟩)
   go_roundw
   case rel=>exact⟨k+1,by omega,by go_num,by rw[ER.out];exact hl4,hkF.trans hk4⟩
   case measure=>simp[intOf];omega
  ·obtain rfl:k=ks.length:=by omega
   have qF:decide ((ks.length:Int)<(ks.length:Int))=false:=fu (by omega);go_wp2
   go_end0
   refine⟨rfl,?_,hk1.trans hkr⟩;rw[vI.out];have:=Fy.out;rw[Fe] at this;exact this
def iG (d:ZD)(ap:Option Addr)(cp:Nat)(ac:Option Addr)(cc:Nat)(am:Option Addr)(wn cm:Nat)(ae:Option Addr)(ce:Nat):Array Value:=#[.bool d.pub,.string ⟨d.res.name.toArray⟩,.slice ap d.params.length cp,.int .i64 d.res.base,.slice ac d.res.aC.length cc,.int .i64 d.body.op,.string ⟨d.body.name.toArray⟩,.string ⟨d.body.module.toArray⟩,.bool (decide (d.body.num<0)),.slice am wn cm,.bool d.body.yes,.slice ae d.body.aA.length ce,.int .i64 d.body.at_,.int .i64 d.res.at_,.int .i64 d.res.bare]
theorem aY (h:w.heap[b]?=some (.cells (iG d ap cp ac cc am wn cm ae ce) 66 (0,0))) :
  w.cell? ⟨b,0,none⟩=some (.bool d.pub)/\w.cell? ⟨b,1,none⟩=some (.string ⟨d.res.name.toArray⟩)/\w.cell? ⟨b,2,none⟩=some (.slice ap d.params.length cp)/\w.cell? ⟨b,3,none⟩=some (.int .i64 d.res.base)/\w.cell? ⟨b,4,none⟩=some (.slice ac d.res.aC.length cc)/\w.cell? ⟨b,5,none⟩=some (.int .i64 d.body.op)/\w.cell? ⟨b,6,none⟩=some (.string ⟨d.body.name.toArray⟩)/\w.cell? ⟨b,7,none⟩=some (.string ⟨d.body.module.toArray⟩)/\w.cell? ⟨b,8,none⟩=some (.bool (decide (d.body.num<0)))/\w.cell? ⟨b,9,none⟩=some (.slice am wn cm)/\w.cell? ⟨b,10,none⟩=some (.bool d.body.yes)/\w.cell? ⟨b,11,none⟩=some (.slice ae d.body.aA.length ce)/\w.cell? ⟨b,12,none⟩=some (.int .i64 d.body.at_)/\w.cell? ⟨b,13,none⟩=some (.int .i64 d.res.at_)/\w.cell? ⟨b,14,none⟩=some (.int .i64 d.res.bare):=by
 refine⟨?_,?_,?_,?_,?_,?_,?_,?_,?_,?_,?_,?_,?_,?_,?_⟩<;>(rw[bg h];rfl)
structure EW (d:ZD) (B:Nat) (ap:Option Addr) (cp:Nat) (ac:Option Addr) (cc:Nat) (am:Option Addr) (wn cm:Nat) (ae:Option Addr) (ce:Nat) (w:World):Prop where
 mG:Er B w ap d.params
 cl:lS B w ac d.res.aC
 body:nD YA (λk=>k<B) w (.slice am wn cm) (.slice ae d.body.aA.length ce) d.body
 hB:B<=w.heap.size
theorem EW.uD {d:ZD}{B:Nat}{ap:Option Addr}{cp:Nat}{ac:Option Addr}{cc:Nat}{am:Option Addr}{wn cm:Nat}{ae:Option Addr}{ce:Nat}{w W:World}(h:EW d B ap cp ac cc am wn cm ae ce w)(hW:Below B w W):EW d B ap cp ac cc am wn cm ae ce W:=⟨h.mG.uD hW,h.cl.uD hW,h.body.frame (bA.uD hW λb hb=>hb),iY h.hB hW.size⟩
theorem EW.below {W:World}(h:EW d B ap cp ac cc am wn cm ae ce w)(hW:Below w.heap.size w W):EW d B ap cp ac cc am wn cm ae ce W:=h.uD (hW.mono h.hB)
theorem Yk (d:ZD)(hf:d.fit)(B:Nat)(ap:Option Addr)(cp:Nat)(ac:Option Addr)(cc:Nat)(am:Option Addr)(wn cm:Nat)(ae:Option Addr)(ce:Nat)(w:World)(h:EW d B ap cp ac cc am wn cm ae ce w) :
  Calls Tryz.prog 130 #[.agg #[.bool d.pub,.string ⟨d.res.name.toArray⟩,.slice ap d.params.length cp,.int .i64 d.res.base,.slice ac d.res.aC.length cc,.int .i64 d.body.op,.string ⟨d.body.name.toArray⟩,.string ⟨d.body.module.toArray⟩,.bool (decide (d.body.num<0)),.slice am wn cm,.bool d.body.yes,.slice ae d.body.aA.length ce,.int .i64 d.body.at_,.int .i64 d.res.at_,.int .i64 d.res.bare]] w λr w'=>r=.returned (.bool d.sound)/\Below w.heap.size w w':=by
 obtain⟨f1,f2,f3,f4⟩:=hf;have hal:=aB w (.cells (iG d ap cp ac cc am wn cm ae ce) 66);have hN:=aZ w (.cells (iG d ap cp ac cc am wn cm ae ce) 66);have HP:=ay (λV=>nC ⟨d.res.name.toArray⟩ V (by have:=f3.1;show d.res.name.toArray.size<=_;simp;omega));have HF:=ay (λV (hV:Below w.heap.size w V)=>J5 208 #[] (λx=>!x.right) (enters_of Tryz.func208 (by kernel_rfl) rfl) B ap cp d.params V (h.below hV).mG (h.below hV).hB (by omega) λx hx=>TU x (f2 x hx) B V (h.below hV).hB);have HC:=ay (λV (hV:Below w.heap.size w V)=>Ep d.res.base B ac cc d.res.aC V (h.below hV).cl (h.below hV).hB (by have:=f3.2.1;omega) f3.2.2);have HR:=ay (λV (hV:Below w.heap.size w V)=>Aj false _ d.body (Nat.lt_succ_self _) f4 B am wn cm ae ce V (h.below hV).body (h.below hV).hB (by have:=(PZ.ru f4).2.2.2.1;omega));have eN:(ByteArray.mk d.res.name.toArray).data.toList=d.res.name:=rfl;rw[eN] at HP;rw[ZD.sound];have hpl:d.params.length<=1000000:=f1;clear h f1 f2 f3 f4 eN;generalize bZ d.res.name=pl at *;generalize (d.params.any λf=>!f.right)=an at *;generalize lU d.res.base d.res.aC=cl at *;generalize d.body.right false=rb at *
 obtain⟨res,hres⟩:∃ b:Bool,b=(pl && (decide (d.params.length<=8) && (!an && (cl && rb)))):=⟨_,rfl⟩
 rw[<- hres];have qV:=ay hres;clear hres;go_enter Tryz.func130,Tryz.ntmps130
 go_upto_region 2 with fail
 change Code.wp _ _ _ _ (w.alloc (.cells (iG d ap cp ac cc am wn cm ae ce) 66));generalize w.alloc _=w0 at hal hN |-;have hl0:=(bU hN).1;have HN:=ay (λV (hV:Below w0.heap.size w0 V)=>aY ((hV.block _ hl0).trans hN));obtain⟨y0,y1,y2,y3,y4,y5,y6,y7,y8,y9,um,uo,uq,-⟩:=HN.out w0 (bY _ _);clear hN
 cases pl with
 | false =>
  have hr:Hid (res=false):=ay (by rw[qV.out];rfl);clear HF HC HR qV;go_wp2_with (go_at_call 42;refine(HP.out _).mono ?_;rintro r w1 ⟨rfl,hb1⟩);go_ret;exact⟨bF hr.out.symm,hal.trans (hb1.mono hal.size)⟩
 | true =>
  by_cases h8:d.params.length<=8
  ·have h8I:(d.params.length:Int)<=8:=by omega
   cases an with
   | true =>
    have hr:Hid (res=false):=ay (by rw[qV.out,kS h8];rfl);clear HC HR qV h8;go_wp2_with (first|(go_at_call 42;refine(HP.out _).mono ?_;rintro r w1 ⟨rfl,hb1⟩;have pV:=hal.trans (hb1.mono hal.size);obtain⟨z0,z1,z2,z3,z4,-⟩:=HN.out w1 hb1)|(go_at_call 209;refine(HF.out _ pV).mono ?_;rintro r w2 ⟨rfl,hb2⟩));go_ret;exact⟨bF hr.out.symm,pV.trans (hb2.mono pV.size)⟩
   | false =>
    cases cl with
    | false =>
     have hr:Hid (res=false):=ay (by rw[qV.out,kS h8];rfl);clear HR qV h8;go_wp2_with (first|(go_at_call 42;refine(HP.out _).mono ?_;rintro r w1 ⟨rfl,hb1⟩;have pV:=hal.trans (hb1.mono hal.size);obtain⟨z0,z1,z2,z3,z4,-⟩:=HN.out w1 hb1)|(go_at_call 209;refine(HF.out _ pV).mono ?_;rintro r w2 ⟨rfl,hb2⟩;have mJ:=pV.trans (hb2.mono pV.size);have EU:=hb1.trans (hb2.mono hb1.size);obtain⟨v0,v1,v2,v3,v4,-⟩:=HN.out w2 EU)|(go_at_call 70;refine(HC.out _ mJ).mono ?_;rintro r w3 ⟨rfl,hb3⟩));go_ret;exact⟨bF hr.out.symm,mJ.trans (hb3.mono mJ.size)⟩
    | true =>
     have hr:Hid (res=rb):=ay (by rw[qV.out,kS h8];rfl);clear qV h8;go_wp2_with (first|(go_at_call 42;refine(HP.out _).mono ?_;rintro r w1 ⟨rfl,hb1⟩;have pV:=hal.trans (hb1.mono hal.size);obtain⟨z0,z1,z2,z3,z4,-⟩:=HN.out w1 hb1)|(go_at_call 209;refine(HF.out _ pV).mono ?_;rintro r w2 ⟨rfl,hb2⟩;have mJ:=pV.trans (hb2.mono pV.size);have EU:=hb1.trans (hb2.mono hb1.size);obtain⟨v0,v1,v2,v3,v4,-⟩:=HN.out w2 EU)|(go_at_call 70;refine(HC.out _ mJ).mono ?_;rintro r w3 ⟨rfl,hb3⟩;have rA:=mJ.trans (hb3.mono mJ.size);have xC:=EU.trans (hb3.mono EU.size);obtain⟨u0,u1,u2,u3,u4,u5,u6,u7,u8,u9,u10,u11,u12,-⟩:=HN.out w3 xC)|(go_at_call 122;refine(HR.out _ rA).mono ?_;rintro r w4 ⟨rfl,hb4⟩));go_ret;exact⟨bF hr.out.symm,rA.trans (hb4.mono rA.size)⟩
  ·have h8I:(8:Int)<(d.params.length:Int):=by omega
   have hr:Hid (res=false):=ay (by rw[qV.out,fu h8];rfl);clear h8 HF HC HR qV;go_wp2_with (go_at_call 42;refine(HP.out _).mono ?_;rintro r w1 ⟨rfl,hb1⟩;have pV:=hal.trans (hb1.mono hal.size);obtain⟨z0,z1,z2,z3,z4,-⟩:=HN.out w1 hb1);go_ret;exact⟨bF hr.out.symm,pV⟩
theorem aR.low {w5 w7:World}(h:aR lb w w5)(hb:Below w.heap.size w5 w7)(hl:lb<w.heap.size):aR lb w w7 :=
 ⟨λB hB=>(h.1 B hB).trans (hb.mono (by omega)),⟨iY h.2.1 hb.size,λb hb1 hb2=>(hb.block b hb2).trans (h.2.2 b hb1 hb2)⟩⟩
theorem Je (E:SE):∀ (l:List ZF) (s:List aH × Fl),(mI E s l).1.length<=s.1.length+l.length
 | [],s=>bI _
 | f :: l,s=>by
  have h1:=Je E l (gB (s.1++[f.name]),nG (nG s.2 (if f.name∈s.1 then some (30,f.at_) else none)) (dB E (gB (s.1++[f.name])) false f.aC));have h2:=vg (s.1++[f.name]);rw[bQ,List.length_singleton] at h2;rw[mI,dN];simp only at h1;omega
theorem yY (E:SE):∀ (l:List ZF) (s:List aH × Fl),bT s.2->bT (mI E s l).2
 | [],s,h=>h
 | f :: l,s,h=>yY E l _ ((h.or (by split;exact bT.some (by decide);exact bT.none)).or (qj E _ _ _))
structure ZD.uw (d:ZD):Prop where
 mG:d.params.length<=1000
 pcl:∀ f∈d.params,f.aC.length<=1000/\∀ e∈f.aC,e.size<=400000
 cl:d.res.aC.length<=1000/\∀ e∈d.res.aC,e.size<=400000
 body:d.body.size<=400000
theorem acD (E:SE)(C:Yf)(lb B:Nat)(im:Value)(f:Fl)(d:ZD)(ap:Option Addr)(cp:Nat)(ac:Option Addr)(cc:Nat)(am:Option Addr)(wn cm:Nat)(ae:Option Addr)(ce:Nat)(w:World)(hL:nL C lb im f w)(hM:ScM E C lb B im w)(hf:bT f)(hfit:d.uw)
  (hP:RowK ZFK (λb=>b≠lb) w (.slice ap d.params.length cp) d.params) (hC:RowK (ZK YA) (λb=>b≠lb) w (.slice ac d.res.aC.length cc) d.res.aC) (hE:nD YA (λb=>b≠lb) w (.slice am wn cm) (.slice ae d.body.aA.length ce) d.body) :
  Calls Tryz.prog 52 #[.pointer (some ⟨lb,0,none⟩),.agg (iG d ap cp ac cc am wn cm ae ce)] w (Aq C lb im (BN E f d) w):=by
 have hal:=(aB w (.cells (iG d ap cp ac cc am wn cm ae ce) 66)).alloc (by simp) (.cells #[.slice none 0 0] 107);have g0:=(iB (w.alloc (.cells (iG d ap cp ac cc am wn cm ae ce) 66)) (.cells #[.slice none 0 0] 107) w.heap.size (by simp)).trans (aZ w (.cells (iG d ap cp ac cc am wn cm ae ce) 66));have g1:=aZ (w.alloc (.cells (iG d ap cp ac cc am wn cm ae ce) 66)) (.cells #[.slice none 0 0] 107);rw[oU] at g1;obtain⟨ae',ce',hv,_,hform⟩:=hP.form;simp only[Value.slice.injEq] at hv;obtain⟨rfl,-,rfl⟩:=hv;have YO:=hL.lt;have hL1:=hL.below hal;have HF:=ay hform;have HL0:=ay hL;have HM0:=ay hM;have JB:=ay hf;have Dy:=ay hfit;have HC0:=ay hC;have HE0:=ay hE;have hpn:=hfit.mG;clear hL hM hf hform hP hC hE hfit
 obtain⟨R,hR⟩:∃ R,R=BN E f d:=⟨_,rfl⟩
 rw[<- hR];have vI:=ay hR;clear hR;go_enter Tryz.func52,Tryz.ntmps52
 go_upto_region 2 with fail
 change Code.wp _ _ _ _ ((w.alloc (.cells (iG d ap cp ac cc am wn cm ae ce) 66)).alloc (.cells #[.slice none 0 0] 107));generalize (w.alloc (.cells (iG d ap cp ac cc am wn cm ae ce) 66)).alloc (.cells #[.slice none 0 0] 107)=w1 at *;have hz1:=hal.size;have hl1:=(bU g1).1;have hk1:=aR.of hal YO;obtain⟨y0,y1,y2,y3,y4,y5,y6,y7,y8,y9,um,uo,uq,y13,VQ⟩:=aY g0;have HL1:=ay hL1;have HG:=ay (iq g0 g1);clear hL1 g0 g1;generalize hps:d.params=ps at *;go_wp2;clear y0 y1 y2 y3 y4 y5 y6 y7 y8 y9 um uo uq y13 VQ
 go_loopw [6,10] (λ_ q wr=>∃ (k:Nat) (ab:Option Addr) (cb:Nat) (bd:List aH) (fk:Fl),k<=ps.length/\q=.int .i64 k/\mI E ([],f) (ps.take k)=(bd,fk)/\nL C lb im fk wr/\wr.heap[w.heap.size]?=some (.cells (iG d ap cp ac cc am wn cm ae ce) 66 (0,0))/\wr.heap[w.heap.size+1]?=some (.cells #[.slice ab bd.length cb] 107 (0,0))/\gQ (λb=>b≠lb/\b≠w.heap.size+1) wr (.slice ab bd.length cb) bd/\bd.Pairwise (· < ·)/\aR lb w wr) (λ_ q _=>ps.length - (intOf q).toNat)
 case atStart=>exact⟨0,none,0,[],f,mD _,rfl,rfl,HL1.out,HG.out.1,HG.out.2,gQ.nil _ _,List.Pairwise.nil,hk1⟩
 case round =>
  obtain⟨k,ab,cb,bd,fk,hk,rfl,hsc,hlr,gd,gv,htr,hrr,hkr⟩:=hrel;have Fx:=hkr.2.1;have Fy:=ay hlr;have HSC:=ay hsc;have hbl:=Je E (ps.take k) ([],f);rw[hsc,qX] at hbl;have NA:=yY E (ps.take k) ([],f) JB.out;rw[hsc] at NA;have HFK:=ay NA
  have hbd:bd.length<=1000:=by simp only[iF] at hbl;omega
  have hdl:=(bU gd).1;have hvl:=(bU gv).1;have hMr:=HM0.out.keep HL0.out hkr.2;have HMR:=ay hMr;have HGD:=ay gd;have HGV:=ay gv;have Tt:=ay htr;have HRR:=ay hrr;clear hlr hsc hbl NA hMr gd gv htr hrr
  by_cases hlt:k<ps.length
  ·obtain⟨b,off,rfl,hPb,hbw,kK⟩:=HF.out (by omega)
   obtain⟨cv,hcl,hc⟩:=kK k hlt;obtain⟨a2,c2,rfl⟩:=RowK.slice hcl
   have iU:∀ (j:Nat) (u:Value),w.cell? ⟨b,off+k * 5+j,none⟩=some u->wr.cell? ⟨b,off+k * 5+j,none⟩=some u:=λj u h=>(AJ (a:=⟨b,off+k * 5+j,none⟩) (hkr.2.2 b hPb hbw)).trans h
   have x0:=iU 0 _ (hc 0 _ rfl);have x1:=iU 1 _ (hc 1 _ rfl);have x2:=iU 2 _ (hc 2 _ rfl);have x3:=iU 3 _ (hc 3 _ rfl);have x4:=iU 4 _ (hc 4 _ rfl);rw[qp] at x0;simp only[dX] at x0;have hsn:=Qn E ([],f) hlt;rw[HSC.out] at hsn;have hpf:=Dy.out.pcl _ (by rw[hps];exact oQ hlt);have tZ:=ay hsn;have HPF:=ay hpf;have KY:=ay hcl;clear kK hcl hc iU hsn hpf;generalize ps[k]=p at *;have fV:=aB wr (.cells #[.string ⟨p.name.toArray⟩,.int .i64 p.base,.slice a2 p.aC.length c2,.int .i64 p.at_,.int .i64 p.bare] 68);have gk:=aZ wr (.cells #[.string ⟨p.name.toArray⟩,.int .i64 p.base,.slice a2 p.aC.length c2,.int .i64 p.at_,.int .i64 p.bare] 68)
   have qF:(k:Int)<(ps.length:Int):=by omega
   have Yj:lb<wr.heap.size:=Fy.out.lt
   go_upto_region 5 with fail
   change Code.wp _ _ _ _ (wr.alloc (.cells #[.string ⟨p.name.toArray⟩,.int .i64 p.base,.slice a2 p.aC.length c2,.int .i64 p.at_,.int .i64 p.bare] 68));clear x0 x1 x2 x3 x4
   have afX:wr.heap.size<(wr.alloc (.cells #[.string ⟨p.name.toArray⟩,.int .i64 p.base,.slice a2 p.aC.length c2,.int .i64 p.at_,.int .i64 p.bare] 68)).heap.size:=by simp
   generalize wr.alloc (.cells #[.string ⟨p.name.toArray⟩,.int .i64 p.base,.slice a2 p.aC.length c2,.int .i64 p.at_,.int .i64 p.bare] 68)=w3 at *;have hz3:=fV.size;have hL3:=Fy.out.below fV;have gd3:=(fV.block _ hdl).trans HGD.out;have gv3:=(fV.block _ hvl).trans HGV.out;obtain⟨p0,p1,p2,p3,p4⟩:=dL gk;obtain⟨q0,qz⟩:=bP gv3;have RA:=ay hL3;have ahA:=ay gd3;have afY:=ay gv3;have HGK:=ay gk;have Zz:=Tt.out.below fV;have HT3:=ay Zz;have HH:=ay (Fw _ ab cb bd ⟨p.name.toArray⟩ w3 Zz HRR.out (by omega));simp only at HH
   obtain⟨m,hm⟩:∃ m,m=decide (p.name∈bd):=⟨_,rfl⟩
   rw[<- hm] at HH;have yB:=ay hm
   obtain⟨f1,hf1⟩:∃ f1,f1=nG fk (if p.name∈bd then some (30,p.at_) else none):=⟨_,rfl⟩
   have LD:=ay hf1;clear hm hf1 hL3 gd3 gv3 gk Zz;clear p0 p1 p2 p3 p4 q0 qz;obtain⟨p0,p1,p2,p3,p4⟩:=dL HGK.out;obtain⟨q0,-⟩:=bP afY.out
   go_upto_if 17 with (go_at_call 54;refine HH.out.mono ?_;rintro e w4 ⟨rfl,hb4⟩)
   clear p0 p1 p2 p3 p4 q0;have D7:=hb4.size;have ahB:=ay ((hb4.block _ (by omega)).trans ahA.out);have ahC:=ay ((hb4.block _ (by omega)).trans afY.out);have afZ:=ay ((hb4.block _ afX).trans HGK.out);have HL4:=ay (RA.out.below hb4);have HT4:=ay (HT3.out.below hb4);have hk4:aR lb w w4:=hkr.trans (aR.of (fV.trans (hb4.mono hz3)) Yj);obtain⟨p0,p1,p2,p3,p4⟩:=dL afZ.out
   have hne1:w.heap.size≠lb:=by omega
   have hne2:w.heap.size+1≠lb:=by omega
   have QT:wr.heap.size≠lb:=by omega
   have ahD:wr.heap.size≠w.heap.size+1:=by omega
   clear ahA afY HGK RA HT3 HH HGD HGV Tt Fy
   go_cut [] (λwc=>nL C lb im f1 wc/\aR lb w4 wc)
   case first =>
    cases m with
    | true =>
     have HE:Hid (f1=nG fk (some (30,p.at_))):=ay (by rw[LD.out,bq (V7 yB.out.symm)]);have VP:=ay (yX C lb im fk 30 p.at_ w4 HL4.out HFK.out);clear yB LD;go_wp2_with (go_at_call 50;refine VP.out.mono ?_;rintro e w5 ⟨rfl,hl5,lu⟩)
     go_meet
     exact⟨by rw[HE.out];exact hl5,lu⟩
    | false =>
     have HE:Hid (f1=fk):=ay (by rw[LD.out,aP (of_decide_eq_false yB.out.symm),qJ]);clear yB LD;go_wp2
     go_meet
     exact⟨by rw[HE.out];exact HL4.out,aR.refl _ _⟩
   case rest =>
    obtain⟨hl5,lu⟩:=hcut
    obtain⟨w5,rfl⟩:∃ w5:World,w5=wc:=⟨_,rfl⟩
    clear p0 p1 p2 p3 p4;have U8:=lu.2.1;have gd5:=(lu.2.2 _ hne1 (by omega)).trans ahB.out;have gv5:=(lu.2.2 _ hne2 (by omega)).trans ahC.out;have gk5:=(lu.2.2 _ QT (by omega)).trans afZ.out;have hT5:=HT4.out.frame (⟨lu.2.1,λb hb hl=>lu.2.2 b hb.1 hl⟩:bA (λb=>b≠lb/\b≠w.heap.size+1) w4 w5);have OP:=hk4.trans lu;have hb6:Below w5.heap.size w5 (w5.alloc (.cells #[.string ⟨p.name.toArray⟩] 9)):=aB w5 _;have hsl:=vg (bd++[p.name]);rw[bQ,List.length_singleton] at hsl;have HW:=ay (Jb (λ_=>True) ab cb (.slice (some ⟨w5.heap.size,0,none⟩) 1 1) bd [p.name] (w5.alloc (.cells #[.string ⟨p.name.toArray⟩] 9)) ((hT5.below (aB w5 _)).imp λ_ _ _=>trivial) (Nz w5 p.name) (by omega) (by simp))
    have hstep:mI E ([],f) (ps.take (k+1))=(gB (bd++[p.name]),nG f1 (dB E (gB (bd++[p.name])) false p.aC)):=by rw[tZ.out,LD.out];rfl
    have ahE:=ay hstep;have HSR:=ay (xU (bd++[p.name]))
    have QO:bT f1:=by rw[LD.out];exact HFK.out.or (by split;exact bT.some (by decide);exact bT.none)
    have Yi:=ay QO;have Yl:=ay hl5;have acE:=ay gd5;have ahF:=ay gv5;have ahG:=ay gk5;obtain⟨p0,p1,p2,p3,p4⟩:=dL gk5;obtain⟨q0,qz⟩:=bP gv5;have akd:lb<w5.heap.size:=hl5.lt;clear hstep QO hl5 gd5 gv5 gk5 ahB ahC afZ HL4 HT4 hT5 tZ LD yB;generalize gB (bd++[p.name])=S at *
    go_upto_region 8 with (go_at_call 55;refine HW.out.mono ?_;rintro e w6 ⟨a6,c6,rfl,ht6,aiW⟩;have uF:=hb6.trans (aiW.mono (by simp));have gv6:=(uF.block _ (by omega)).trans ahF.out;have hfz:=(bP gv6).2;have hc0:=(bP gv6).1)
    have hz6:=uF.size;have gv7:=kG w6 (w.heap.size+1) 0 _ _ (.slice a6 S.length c6) gv6;have hL7:nL C lb im f1 (w6.setCell ⟨w.heap.size+1,0,none⟩ (.slice a6 S.length c6)):=(qo _ _ _ _ (Ne.symm hne2)).trans (Yl.out.below uF);have gd7:=(qo w6 ⟨w.heap.size+1,0,none⟩ w.heap.size (.slice a6 S.length c6) (by show w.heap.size≠w.heap.size+1;omega)).trans ((uF.block _ (by omega)).trans acE.out);have gk7:=(qo w6 ⟨w.heap.size+1,0,none⟩ wr.heap.size (.slice a6 S.length c6) (by show wr.heap.size≠w.heap.size+1;omega)).trans ((uF.block _ (by omega)).trans ahG.out);have Nl:Below w.heap.size w5 (w6.setCell ⟨w.heap.size+1,0,none⟩ (.slice a6 S.length c6)):=(uF.mono (by omega)).setCell (by show w.heap.size<=w.heap.size+1;omega) _;have aee:aR lb w (w6.setCell ⟨w.heap.size+1,0,none⟩ (.slice a6 S.length c6)):=OP.low Nl YO
    have hT7:gQ (λb=>b≠lb/\b≠w.heap.size+1) (w6.setCell ⟨w.heap.size+1,0,none⟩ (.slice a6 S.length c6)) (.slice a6 S.length c6) S:=(ht6.frame (bA.set _ λb hb=>by have:=hb6.size;show b≠w.heap.size+1;omega)).imp λb hb _=>by have:=hb6.size;exact⟨by omega,by omega⟩
    have HCA:=ay (EB E C lb B im f1 a2 c2 p.aC a6 c6 S false _ hL7 (HM0.out.keep HL0.out aee.2) Yi.out (RowK.frame KY.out aee.2) (hT7.imp λb hb _=>hb.1) HSR.out (λe he=>by have:=HPF.out.2 e he;omega) (by have:=HPF.out.1;omega));clear p0 p1 p2 p3 p4 q0 qz hfz hc0;generalize w6.setCell _ _=w7 at *;obtain⟨p0,p1,p2,p3,p4⟩:=dL gk7;obtain⟨q0,-⟩:=bP gv7;have hz7:=aee.2.1;have aiX:=ay gd7;have aiY:=ay gv7;have HT7:=ay hT7;have hd7:=(bU gd7).1;have hv7:=(bU gv7).1;clear gk7 gd7 gv7 hT7 hL7 gv6 Yl acE ahF ahG HW ht6;go_wp2_with (go_at_call 80;refine HCA.out.mono ?_;rintro e w8 ⟨rfl,hl8,EJ⟩)
    go_roundw
    case rel=>exact⟨k+1,a6,c6,S,nG f1 (dB E S false p.aC),by omega,by go_num,ahE.out,hl8,(EJ.2.2 _ hne1 hd7).trans aiX.out,(EJ.2.2 _ hne2 hv7).trans aiY.out,HT7.out.frame ⟨EJ.2.1,λb hb hl=>EJ.2.2 b hb.1 hl⟩,HSR.out,aee.trans EJ⟩
    case measure=>simp[intOf];omega
  ·obtain rfl:k=ps.length:=by omega
   have qF:decide ((ps.length:Int)<(ps.length:Int))=false:=fu (by omega);have hsc2:=HSC.out;rw[Fe,<- hps] at hsc2
   have hne1:w.heap.size≠lb:=by omega
   have hne2:w.heap.size+1≠lb:=by omega
   have HCA:=ay (EB E C lb B im fk ac cc d.res.aC ab cb bd true wr Fy.out HMR.out HFK.out (RowK.frame HC0.out hkr.2) (Tt.out.imp λb hb _=>hb.1) HRR.out (λe he=>by have:=Dy.out.cl.2 e he;omega) (by have:=Dy.out.cl.1;omega));have ahH:bT (nG fk (dB E bd true d.res.aC)):=HFK.out.or (qj E _ _ _);have HF2:=ay ahH;have HD2:Hid (R=nG (nG fk (dB E bd true d.res.aC)) (d.body.fB E bd false)):=ay (by rw[vI.out,BN,hsc2]);obtain⟨y0,y1,y2,y3,y4,y5,y6,y7,y8,y9,um,uo,uq,y13,VQ⟩:=aY HGD.out;obtain⟨q0,-⟩:=bP HGV.out;clear hsc2 ahH HSC
   go_upto_region 11 with (go_at_call 80;refine HCA.out.mono ?_;rintro e w8 ⟨rfl,hl8,EJ⟩)
   clear y0 y1 y2 y3 y4 y5 y6 y7 y8 y9 um uo uq y13 VQ q0;have gd8:=(EJ.2.2 _ hne1 hdl).trans HGD.out;have gv8:=(EJ.2.2 _ hne2 hvl).trans HGV.out;obtain⟨y0,y1,y2,y3,y4,y5,y6,y7,y8,y9,um,uo,uq,y13,VQ⟩:=aY gd8;obtain⟨q0,-⟩:=bP gv8;have HEX:=ay (Dx d.body E C lb B im (nG fk (dB E bd true d.res.aC)) am wn cm ae ce ab cb bd false w8 hl8 (HMR.out.keep Fy.out EJ.2) HF2.out (nD.frame (hkr.trans EJ).2 HE0.out) ((Tt.out.frame ⟨EJ.2.1,λb hb hl=>EJ.2.2 b hb.1 hl⟩).imp λb hb _=>hb.1) HRR.out (by have:=Dy.out.body;omega));unfold aT at HEX;rw[<- HD2.out] at HEX;clear gd8 gv8 hl8 HCA;go_wp2_with (go_at_call 81;refine HEX.out.mono ?_;rintro e w9 ⟨rfl,hl9,Zx⟩)
   go_end0
   exact⟨rfl,hl9,(hkr.trans EJ).trans Zx⟩
