/- Walks and plain laws: ScopeInv, ScopeW10, ScopeFit, DoneW, FormW, ListW. -/
import Derived.Test.YtknicmmigbhpcaaGreatDoorB33
set_option maxHeartbeats 16000000
set_option maxRecDepth 100000
set_option linter.unusedVariables false
set_option linter.unusedSimpArgs false
namespace Go.Proofs.YtknicmmigbhpcaaGreatDoor
open Go.RowKit Go
theorem yB (l:List ZD)(d:ZD)(nm:List UInt8):nE (l++[d]) nm=(nE l nm).or (if d.res.name=nm then some d.params.length else none):=by
 unfold nE;rw[List.find?_append]
 cases l.find? fun d=>decide (d.res.name=nm) with
 | some x=>rfl
 | none =>
  rw[Option.none_or,List.find?_cons,List.find?_nil]
  by_cases h:d.res.name=nm
  ·rw[decide_eq_true h,if_pos h];rfl
  ·rw[decide_eq_false h,if_neg h];rfl
theorem I8 {l:List ZD}{nm:List UInt8}(h:nm ∉ l.map (fun d=>d.res.name)):nE l nm=none:=by
 unfold nE;rw[List.find?_eq_none.2 fun d hd=>by simpa using fun q=>h (by rw[← q];exact List.mem_map_of_mem hd)]
 rfl
theorem I9 {l:List ZD}{nm:List UInt8}(h:nm∈l.map (fun d=>d.res.name)):(nE l nm).isSome=true:=by
 obtain⟨d,hd,rfl⟩:=List.mem_map.1 h;unfold nE;rw[Option.isSome_map,List.find?_isSome];exact⟨d,hd,by simp⟩
structure uf (ml:ML) (l:List ZD):Prop where
 ar:∀ nm,abt (su ml nm) (nE l nm)
 has:∀ nm,rF ml nm=decide (nm∈l.map fun d=>d.res.name)
theorem uf.nil:uf [] []:=⟨fun _=>trivial,fun _=>rfl⟩
theorem uf.same {ml:ML}{l:List ZD}{d:ZD}(h:uf ml l)(hd:rF ml d.res.name=true):uf ml (l++[d]):=by
 have hm:d.res.name∈l.map fun d=>d.res.name:=by
  have:=h.has d.res.name;rw[hd] at this;exact of_decide_eq_true this.symm
 refine⟨fun nm=>?_,fun nm=>?_⟩
 ·rw[yB]
  by_cases q:d.res.name=nm
  ·have:=I9 hm
   rw[← q];obtain⟨n,hn⟩:=Option.isSome_iff_exists.1 this;rw[hn,Option.some_or,← hn];exact h.ar _
  ·rw[if_neg q,Option.or_none]
   exact h.ar nm
 ·rw[h.has,List.map_append]
  apply decide_eq_decide.2
  rw[List.mem_append]
  constructor
  ·exact .inl
  ·rintro(q|q)
   ·exact q
   ·obtain rfl:nm=d.res.name:=by simpa using q
    exact hm
theorem uf.ins {ml:ML}{l:List ZD}{d:ZD}(h:uf ml l)(hd:rF ml d.res.name=false)(s b u:Value)(a:Option Addr)(c:Nat):uf (EJ ml d.res.name [s,.slice a d.params.length c,b,u]) (l++[d]):=by
 have hm:d.res.name ∉ l.map fun d=>d.res.name:=by
  have:=h.has d.res.name;rw[hd] at this;exact of_decide_eq_false this.symm
 have hg:∀ nm,su (EJ ml d.res.name [s,.slice a d.params.length c,b,u]) nm=if nm=d.res.name then some [s,.slice a d.params.length c,b,u] else su ml nm:=WS _ hd
 refine⟨fun nm=>?_,fun nm=>?_⟩
 ·rw[hg,yB]
  by_cases q:nm=d.res.name
  ·subst q
   rw[if_pos rfl,if_pos rfl,I8 hm,Option.none_or];exact⟨s,a,c,b,u,rfl⟩
  ·rw[if_neg q,if_neg (fun e=>q e.symm),Option.or_none]
   exact h.ar nm
 ·rw[← DZ,hg,List.map_append]
  by_cases q:nm=d.res.name
  ·subst q
   rw[if_pos rfl];exact(decide_eq_true (List.mem_append_right _ (by simp))).symm
  ·rw[if_neg q,DZ,h.has]
   apply decide_eq_decide.2
   rw[List.mem_append]
   constructor
   ·exact .inl
   ·rintro(e|e)
    ·exact e
    ·exact absurd (by simpa using e) q
structure ZP.uZ (p:ZP):Prop where
 fit:p.fit
 text:p.text.length≤1099511627776
 few:p.defs.length≤1000
 defs:∀ d∈p.defs,d.uZ
end Go.Proofs.YtknicmmigbhpcaaGreatDoor

namespace Go.Proofs.YtknicmmigbhpcaaGreatDoor
theorem Ed {α β:Type}(f:α→List β)(K:Nat):∀ l:List α,(∀ x∈l,(f x).length≤K)→(l.flatMap f).length≤l.length * K
 | [],_=>by simp
 | x :: l,h=>by
  rw[List.flatMap_cons,bN,eG,Nat.succ_mul];have h1:=h x List.mem_cons_self
  have h2:=Ed f K l fun y hy=>h y (List.mem_cons_of_mem _ hy)
  omega
theorem wD (K:Nat):∀ l:List (List UInt8),(∀ x∈l,x.length≤K)→(bg l).length≤l.length * (K+2)
 | [],_=>by simp[bg]
 | [x],h=>by
  have:=h x List.mem_cons_self;simp only[bg,eG,List.length_nil];omega
 | x :: y :: l,h=>by
  have h1:=h x List.mem_cons_self
  have h2:=wD K (y :: l) fun z hz=>h z (List.mem_cons_of_mem _ hz)
  rw[bg,bN,bN,eG (a:=x),Nat.succ_mul];simp only[eG,List.length_nil] at h2 ⊢;omega
theorem Ta (b:Int):(qD b).length≤4:=by unfold qD;split<;>simp
theorem Al (K:Nat):∀ l:List PZ,(∀ e∈l,e.text.length≤K)→(fF l).length≤l.length * (K+3)
 | [],_=>by simp[fF]
 | e :: l,h=>by
  have h1:=h e List.mem_cons_self
  have h2:=Al K l fun z hz=>h z (List.mem_cons_of_mem _ hz)
  rw[fF,eG,Nat.succ_mul];simp only[bN,eG,List.length_nil];omega
theorem wE (b:Int)(l:List PZ)(hl:l.length≤1)(h:∀ e∈l,e.text.length≤750000000):(gG b l).length≤750000007:=by
 have h1:=Ta b;have h2:=Al _ l h;have h3:l.length * (750000000+3)≤1 * (750000000+3):=Nat.mul_le_mul_right _ hl;rw[gG,bN];omega
def LA (e:PZ):Prop:=e.fit∧e.size≤2500
theorem LA.text {e:PZ}(h:LA e):e.text.length≤750000000:=by
 have h1:=PZ.Da e h.1;have h2:=h.2;omega
structure ZF.mid (f:ZF):Prop where
 name:f.name.length≤65536
 few:f.clause.length≤1
 all:∀ e∈f.clause,LA e
structure ZD.mid (d:ZD):Prop where
 jR:∀ f∈d.params,f.mid
 few:d.params.length≤8
 res:d.res.mid
 body:LA d.body
structure ZP.mid (p:ZP):Prop where
 imps:∀ m∈p.imports,m.1.length≤65536
 Rp:p.imports.length≤16
 defs:∀ d∈p.defs,d.mid
 Ic:p.defs.length≤64
theorem ZF.mid.text {f:ZF}(h:f.mid):f.text.length≤750065545:=by
 have h1:=wE f.base f.clause h.few fun e he=>(h.all e he).text
 have h2:=h.name;rw[ZF.text];simp only[bN,eG,List.length_nil];omega
theorem ZD.mid.text {d:ZD}(h:d.mid):d.text.length≤7700000000:=by
 have h1:=wE d.res.base d.res.clause h.res.few fun e he=>(h.res.all e he).text
 have h2:=h.res.name;have h3:=h.body.text
 have h4:=wD 750065545 (d.params.map ZF.text) fun x hx=>by
  obtain⟨f,hf,rfl⟩:=List.mem_map.1 hx;exact(h.jR f hf).text
 have h5:(d.params.map ZF.text).length * (750065545+2)≤8 * (750065545+2):=Nat.mul_le_mul_right _ (by rw[List.length_map];exact h.few)
 have h6:(if d.pub=true then [112,117,98,32] else []:List UInt8).length≤4:=by split<;>simp
 rw[ZD.text];simp only[bN,eG,List.length_nil];omega
theorem ZP.mid.text {p:ZP}(h:p.mid):p.text.length≤1099511627776:=by
 have h1:=Ed Y7 65545 p.imports fun m hm=>by
  have:=h.imps m hm;rw[Y7];simp only[bN,eG,List.length_nil];omega
 have h2:=Ed ZD.text 7700000000 p.defs fun d hd=>(h.defs d hd).text
 have h3:p.imports.length * 65545≤16 * 65545:=Nat.mul_le_mul_right _ h.Rp;have h4:p.defs.length * 7700000000≤64 * 7700000000:=Nat.mul_le_mul_right _ h.Ic;rw[ZP.text,bN];omega
theorem ZF.mid.fit {f:ZF}(h:f.mid):f.fit:=⟨h.name,by have:=h.few;omega,fun e he=>(h.all e he).1⟩
theorem ZD.mid.fit {d:ZD}(h:d.mid):d.fit:=⟨by have:=h.few;omega,fun f hf=>(h.jR f hf).fit,h.res.fit,h.body.1⟩
theorem ZD.mid.uZ {d:ZD}(h:d.mid):d.uZ :=
 ⟨by have:=h.few;omega,fun f hf=>⟨by have:=(h.jR f hf).few;omega,fun e he=>by have:=((h.jR f hf).all e he).2;omega⟩,⟨by have:=h.res.few;omega,fun e he=>by have:=(h.res.all e he).2;omega⟩,by have:=h.body.2;omega⟩
theorem ZP.mid.uZ {p:ZP}(h:p.mid):p.uZ :=
 ⟨⟨by have:=h.Rp;omega,h.imps,by have:=h.Ic;omega,fun d hd=>(h.defs d hd).fit⟩,h.text,by have:=h.Ic;omega,fun d hd=>(h.defs d hd).uZ⟩
theorem FF.small.mid {M:Nat}{f:FF}(h:f.small M)(hM:M≤65536)(ha:f.all fun e=>LA e.z):f.z.mid :=
 ⟨Nat.le_trans h.name hM,by show (f.clause.map PE.z).length≤1;rw[List.length_map];exact h.clause,fun e he=>by obtain⟨x,hx,rfl⟩:=List.mem_map.1 he;exact ha x hx⟩
theorem PP.small.mid {M:Nat}{p:PP}(h:p.small M)(hM:M≤65536)(ha:p.all fun e=>LA e.z):p.z.mid:=by
 refine⟨fun m hm=>?_,by show (p.imports.map _).length≤16;rw[List.length_map];exact h.Rp,fun d hd=>?_,by show (p.defs.map _).length≤64;rw[List.length_map];exact h.Ic⟩
 ·obtain⟨x,hx,rfl⟩:=List.mem_map.1 hm
  exact Nat.le_trans (h.imports x hx) hM
 ·obtain⟨x,hx,rfl⟩:=List.mem_map.1 hd
  have h1:=h.defs x hx;have h2:=ha x hx;refine⟨fun f hf=>?_,by show (x.params.map _).length≤8;rw[List.length_map];exact h1.few,h1.res.mid hM h2.2.1,h2.2.2⟩;obtain⟨y,hy,rfl⟩:=List.mem_map.1 hf;exact(h1.params y hy).mid hM (h2.1 y hy)
theorem lH.mid {S:List UInt8}{toks:List Tok}{nodes:List Nd}{p:jP}(F:lH S toks nodes p)(hs:S.length≤1200):(p.pp toks).z.mid :=
 F.Dt.mid (by omega) (PP.IE F.fits F.few F.few fun e h1 h2 _=>by
  have h3:=F.nd;have h4:=F.count
  exact⟨PE.WC (by omega) e h1 (by omega),by rw[PE.Oo];omega⟩)
end Go.Proofs.YtknicmmigbhpcaaGreatDoor

namespace Go.Proofs.YtknicmmigbhpcaaGreatDoor
open Go.RowKit Go
def Ki (w w':World):Prop:=∀ (k:Nat) (cs:Array Value) (fr:Nat × Nat),w.heap[k]?=some (.cells cs 3 fr)→w'.heap[k]?=some (.cells cs 3 fr)
theorem Ki.trans {a b c:World}(h:Ki a b)(k:Ki b c):Ki a c:=fun n cs fr q=>k n cs fr (h n cs fr q)
theorem Ki.below {w w':World}(h:Below w.heap.size w w'):Ki w w':=fun k _cs _fr q=>(h.block k (bG q).1).trans q
theorem Ki.set {w:World}{b:Nat}{cs:Array Value}{T:TypeId}{fr:Nat × Nat}(hb:w.heap[b]?=some (.cells cs T fr))(hT:T≠3)(j:Nat)(u:Value):Ki w (w.setCell ⟨b,j,none⟩ u):=fun k ds fr' q=>by
 rw[heap_setCell_other _ _ _ _ (by
  show k≠b;rintro rfl;rw[hb] at q;simp only[Option.some.injEq,Obj.cells.injEq] at q
  exact hT q.2.1)]
 exact q
theorem dI.ki {w w':World}{v:Value}{ks:List Int}(h:dI w v ks)(hk:Ki w w'):dI w' v ks:=by
 obtain⟨ao,cap,hv,hc,hf⟩:=h;refine⟨ao,cap,hv,hc,fun h0=>?_⟩;obtain⟨b,off,cs,fr,ha,hb,hj⟩:=hf h0;exact⟨b,off,cs,fr,ha,hk b cs fr hb,hj⟩
theorem Xh {w w':World}{B e sz n:Nat}{v:Value}{xs:List Value}(h:w.ownsRow B e sz v n xs)(hs:∀ q,v.ownBlock=some q→w'.heap[q]?=w.heap[q]?):w'.ownsRow B e sz v n xs:=by
 refine⟨h.1,?_⟩
 rcases h.2 with hn|⟨g,cap,cur,hv,hg,hh,hr⟩
 ·exact .inl hn
 ·exact .inr ⟨g,cap,cur,hv,hg,(hs g (by rw[hv];rfl)).trans hh,hr⟩
def pQ (w:World)(v:Value)(toks:List Tok)(nodes:List Nd):Prop :=
 ∃ (tv nv:Value) (l:List (Nd × Value)) (C D:Nat),v=.agg #[tv,nv]∧w.ownsRow C 136 4 tv toks.length (toks.flatMap bY)∧l.map Prod.fst=nodes∧w.ownsRow D 134 3 nv nodes.length (l.flatMap uo)∧∀ p∈l,dI w p.2 p.1.kids
theorem pQ.set {w:World}{v:Value}{toks:List Tok}{nodes:List Nd}(h:pQ w v toks nodes){b:Nat}{cs:Array Value}{T:TypeId}{fr:Nat × Nat}(hb:w.heap[b]?=some (.cells cs T fr))(h1:T≠136)(h2:T≠134)(h3:T≠3)(j:Nat)(u:Value):pQ (w.setCell ⟨b,j,none⟩ u) v toks nodes:=by
 obtain⟨tv,nv,l,C,D,e,p1,p2,p3,p4⟩:=h;exact⟨tv,nv,l,C,D,e,iG (a:=⟨b,j,none⟩) p1 (own_ne p1 hb h1) u,p2,iG (a:=⟨b,j,none⟩) p3 (own_ne p3 hb h2) u,fun p hp=>(p4 p hp).ki (Ki.set hb h3 j u)⟩
theorem pQ.later {w w':World}{v:Value}{toks:List Tok}{nodes:List Nd}(h:pQ w v toks nodes)(hb:Below w.heap.size w w'):pQ w' v toks nodes:=by
 obtain⟨tv,nv,l,C,D,e,p1,p2,p3,p4⟩:=h;exact⟨tv,nv,l,C,D,e,own_below p1 hb,p2,own_below p3 hb,fun p hp=>(p4 p hp).ki (Ki.below hb)⟩
theorem pQ.at {w:World}{v:Value}{toks:List Tok}{nodes:List Nd}(h:pQ w v toks nodes):aN w.heap.size w v toks nodes:=by
 obtain⟨tv,nv,l,C,D,e,p1,p2,p3,p4⟩:=h
 have hll:l.length=nodes.length:=by rw[← p2,List.length_map]
 refine⟨tv,nv,l,e,Sl.eZ p1,p2,?_,fun p hp=>?_⟩
 ·rw[Rec,hll]
  exact Sl.eZ p3
 ·obtain⟨ai,ci,hvi,hci,hfi⟩:=p4 p hp
  refine⟨ai,ci,hvi,hci,by simp,fun hp0=>?_⟩;obtain⟨bi,oi,cs,fr,e1,e2,e3⟩:=hfi hp0;refine⟨bi,oi,e1,(bG e2).1,fun jj hjj=>?_⟩;rw[Lib.cell_of_heap e2,e3 jj (by simpa using hjj)]
  simp
def Xi (toks:List Tok)(nodes:List Nd)(w:World)(e:Ending)(w':World):Prop :=
 ∃ v,e=.returned v∧pQ w' v toks nodes∧Below w.heap.size w w'
def adi (C:Nat)(w:World)(nv:Value)(nodes:List Nd):Prop :=
 ∃ l:List (Nd × Value),l.map Prod.fst=nodes∧w.ownsRow C 134 3 nv nodes.length (l.flatMap uo)∧∀ p∈l,dI w p.2 p.1.kids
theorem Xj (R:List Nat)(B bb:Nat)(tv:Value)(toks:List Tok)(nodes:List Nd)(used:Nat)(w:World)(hb:BW R B bb tv used nodes w)(ht:Rec B w tv 4 bY toks)(h0:0<toks.length)(hn:toks.length≤1000000)(hm:nodes.length≤1000000)(hkl:∀ n∈nodes,n.kids.length≤1000000) :
  Calls Tryz.prog 102 #[.pointer (some ⟨bb,0,none⟩)] w (Xi toks nodes w):=by
 have HC:=ah (fun W (h:Rec B W tv 4 bY toks)=>BZ B tv toks W h h0 (by omega));obtain⟨h1,nv,l,h2,h3,h4,h5⟩:=hb;have hlt:=(bG h2).1
 obtain⟨ao,cap,rfl,_⟩:∃ ao cap,nv=.slice ao nodes.length cap∧True:=by
  rcases h4.2 with ⟨hv,hn0⟩|⟨g,cap,cur,hv,_⟩
  ·exact⟨none,0,by rw[hv,hn0],trivial⟩
  ·exact⟨_,cap,hv,trivial⟩
 have HT:=ah ht;obtain⟨at_,ct,rfl,_,_⟩:=ht.form (fun _=>rfl)
 have c0:w.cell? ⟨bb,0,none⟩=some (.slice at_ toks.length ct):=by rw[Lib.cell_of_heap h2];rfl
 have hal:=aj w (.cells #[.slice none 0 0,.slice none 0 0] 89);have d0:=cell_later hal c0
 have hBw:B≤w.heap.size:=by omega
 have H4:=ah h4;have H5:=ah h5;clear h4 h5 ht c0;go_enter Tryz.func102,Tryz.ntmps102;go_wp2_with (go_at_call 163;refine(HC.out _ ?c1).mono ?_)
 case c1=>exact HT.out.below (hal.mono hBw)
 rintro e w1 ⟨v',rfl,hown,hb1⟩;obtain⟨g,c5,rfl,hg1,hg2⟩:=hown.form h0;have G0:=(hb1.block w.heap.size (by simp)).trans (heap_alloc_new w (.cells #[.slice none 0 0,.slice none 0 0] 89));have Gb:=(hb1.block bb (by simp;omega)).trans ((Lib.alloc_old w _ bb hlt).trans h2)
 go_upto_region 2 with (fail)
 have hz1:=hb1.size;rw[World.size_alloc] at hz1;have Hr:Below w.heap.size w w1:=hal.trans (hb1.mono (by simp));have T1:=heap_alloc_new w1 (.cells #[.slice (some ⟨g,0,none⟩) toks.length c5,.slice none 0 0] 89);have hb2:=aj w1 (.cells #[.slice (some ⟨g,0,none⟩) toks.length c5,.slice none 0 0] 89);have Gb2:=(Lib.alloc_old w1 (.cells #[.slice (some ⟨g,0,none⟩) toks.length c5,.slice none 0 0] 89) bb (bG Gb).1).trans Gb;generalize w1.alloc _=w2 at T1 hb2 Gb2 ⊢
 have b1:w2.cell? ⟨bb,1,none⟩=some (.slice ao nodes.length cap):=by rw[Lib.cell_of_heap Gb2];rfl
 obtain⟨j0,hj,hy0,hy1,hy2⟩:=info_parts Tryz.JI
 have hll:l.length=nodes.length:=by rw[← h3,List.length_map]
 have hrec:Rec w.heap.size w (.slice ao nodes.length cap) 3 uo l:=by
  have:=Sl.eZ H4.out;rw[Rec,hll];exact this
 obtain⟨Tv,cap',hv,_,hnf⟩:=hrec.abV (fun p=>JJ p) hll;simp only[Value.slice.injEq] at hv;obtain⟨rfl,-,rfl⟩:=hv;have HNF:=ah hnf;have HLL:=ah hll;have H3:=ah h3;clear hnf hrec hll h3;go_wp2;clear b1 d0
 go_loopw [19] (fun q wr=>∃ (j:Nat) (nv2:Value),j≤nodes.length∧q=.int .i64 j∧aQ (fun b=>b<w1.heap.size) w2 wr∧wr.heap[w1.heap.size]?=some (.cells #[.slice (some ⟨g,0,none⟩) toks.length c5,nv2] 89 (0,0))∧adi (w1.heap.size+1) wr nv2 (nodes.take j)∧Ki w2 wr∧Below w.heap.size w wr) (fun q _=>nodes.length - (intOf q).toNat)
 case atStart=>exact⟨0,.slice none 0 0,Nat.zero_le _,rfl,aQ.refl _ _,T1,⟨[],rfl,World.ownsRow_nil _ _ _ _,fun p hp=>by cases hp⟩,fun _ _ _ q=>q,Hr.trans (hb2.mono Hr.size)⟩
 case round =>
  obtain⟨j,nv2,hjn,rfl,fB,hT,hrow,hki,hbl⟩:=hrel;have uL:=fB.1;have hz2:=hb2.size
  by_cases hlt:j<nodes.length
  ·have hjl:j<l.length:=by have:=HLL.out;omega
   obtain⟨b,off,rfl,YT,hcell⟩:=HNF.out (by omega);have hW2:Below w.heap.size w w2:=Hr.trans (hb2.mono Hr.size)
   have hcl:=fun (jj:Nat) (u:Value) (hu:(uo l[j])[jj]?=some u)=>(World.cell?_of_block (a:=⟨b,off+j * 3+jj,none⟩) ((fB.2 b (by have:=Hr.size;show b<w1.heap.size;omega) (by have:=Hr.size;omega)).trans (hW2.block b YT))).trans (hcell j jj u hjl hu)
   have hx0:=hcl 0 _ rfl;have hx1:=hcl 1 _ rfl;have hx2:=hcl 2 _ rfl;have hiw:dI wr l[j].2 l[j].1.kids:=((H5.out l[j] (List.getElem_mem hjl)).1.ki (Ki.below hW2)).ki hki
   have Tc:nodes[j]=l[j].1:=by have:=H3.out;subst this;simp
   have hkj:=hkl nodes[j] (List.getElem_mem hlt)
   have hsn:nodes.take (j+1)=nodes.take j++[l[j].1]:=by rw[List.take_succ_eq_append_getElem hlt,Tc]
   rw[Tc] at hkj;generalize l[j]=pr at hx0 hx1 hx2 hiw hkj hsn;obtain⟨⟨kind,tok,ks⟩,kv⟩:=pr;simp only[Nat.add_zero] at hx0 hx1 hx2 hiw hkj hsn;have HS:=ah hsn;have HIW:=ah hiw;obtain⟨ak,ck,rfl⟩:=hiw.slice
   have Hf:(j:Int)<(nodes.length:Int):=by omega
   clear hcell hcl Tc hsn hiw;go_wp2_with (go_at_call 164;refine(BF _ ks _ (HIW.out.ki (Ki.below (aj wr _))) (by omega)).mono ?_);rintro e w4 ⟨v5,rfl,hkR,hb4⟩;have hk5:=(hkR [] (fun r hr=>by cases hr)).1;obtain⟨a5,c6,rfl⟩:=hk5.slice;have N4:=(hb4.block wr.heap.size (by simp)).trans (heap_alloc_new wr (.cells #[.int .i64 kind,.int .i64 tok,.slice ak ks.length ck] 134))
   have n2:w4.cell? ⟨wr.heap.size,2,none⟩=some (.slice ak ks.length ck):=by rw[Lib.cell_of_heap N4];rfl
   have nz:∀ jj,w4.frozen? ⟨wr.heap.size,jj,none⟩=false:=by intro jj;simp[World.frozen?,N4]
   clear hkR hx0 hx1 hx2
   go_upto_region 6 with (fail)
   obtain⟨l2,hl2,hown2,hk2⟩:=hrow
   have hlj:(nodes.take j).length=j:=by rw[List.length_take];omega
   rw[hlj] at hown2
   obtain⟨a2,c2,rfl,_⟩:∃ a2 c2,nv2=.slice a2 j c2∧True:=by
    rcases hown2.2 with ⟨hv,hn0⟩|⟨g,cap,cur,hv,_⟩
    ·exact⟨none,0,by rw[hv,hn0],trivial⟩
    ·exact⟨_,cap,hv,trivial⟩
   have hne2:some wr.heap.size≠(Value.slice a2 j c2).ownBlock:=fun q=>by have:=(hown2.lt _ q.symm).2;omega
   have hlt1:w1.heap.size<wr.heap.size:=(bG hT).1;have zH:Below wr.heap.size wr w4:=(aj wr _).trans (hb4.mono (by simp));have N5:=heap_setCell_same w4 wr.heap.size 2 _ _ (.slice a5 ks.length c6) N4;have T5:(w4.setCell ⟨wr.heap.size,2,none⟩ (.slice a5 ks.length c6)).heap[w1.heap.size]?=_:=(heap_setCell_other _ _ _ _ (by show w1.heap.size≠wr.heap.size;omega)).trans ((zH.block _ hlt1).trans hT);have hown5:=iG (a:=⟨wr.heap.size,2,none⟩) (own_below hown2 zH) hne2 (.slice a5 ks.length c6);have hks:=Ki.set N4 (by decide) 2 (.slice a5 ks.length c6);have adj:=(hki.trans (Ki.below zH)).trans hks;have Q0:=(Ki.below zH).trans hks;have adk:=hk5.ki hks;have aas:aQ (fun b=>b<w1.heap.size) w2 (w4.setCell ⟨wr.heap.size,2,none⟩ (.slice a5 ks.length c6)):=(fB.trans (aQ.of zH)).trans (aQ.set _ fun b hb=>by show b≠wr.heap.size;omega);have hb5:=(hbl.trans (zH.mono hbl.size)).setCell (p:=⟨wr.heap.size,2,none⟩) hbl.size (.slice a5 ks.length c6)
   have hs5:w4.heap.size≤(w4.setCell ⟨wr.heap.size,2,none⟩ (.slice a5 ks.length c6)).heap.size:=by simp
   have hs4:=zH.size;clear hown2 hne2 N4 n2 nz hb4 zH hk5 hks;generalize w4.setCell _ _=w5 at N5 T5 hown5 adj Q0 adk aas hs5 hb5 ⊢
   have t1:w5.cell? ⟨w1.heap.size,1,none⟩=some (.slice a2 j c2):=by rw[Lib.cell_of_heap T5];rfl
   have m0:w5.cell? ⟨wr.heap.size,0,none⟩=some (.int .i64 kind):=by rw[Lib.cell_of_heap N5];rfl
   have m1:w5.cell? ⟨wr.heap.size,1,none⟩=some (.int .i64 tok):=by rw[Lib.cell_of_heap N5];rfl
   have m2:w5.cell? ⟨wr.heap.size,2,none⟩=some (.slice a5 ks.length c6):=by rw[Lib.cell_of_heap N5];rfl
   go_wp2_with (at_builtin;refine wpList_append_own _ rfl _ _ 87 rfl (w1.heap.size+1) 134 j0 (.agg #[.int .i64 0,.int .i64 0,.slice none 0 0]) 3 40 Tryz.underlying87 hj hy0 hy1 hy2 rfl (by decide) _ _ _ rfl (hown5.alloc _) ⟨w5.heap.size,0,none⟩ 1 1 [.int .i64 kind,.int .i64 tok,.slice a5 ks.length c6] rfl rfl ?e1 ?e2 ?e3 ?e4 ?e5 ?_)
   case e1 =>
    intro j' u hj';exact World.news_of_block (cs:=#[.int .i64 kind,.int .i64 tok,.slice a5 ks.length c6]) (t:=134) (fr:=(0,0)) (heap_alloc_new w5 _) j' u (by simpa using hj')
   case e2=>simp[Value.oneCell']
   case e3=>unfold maxLen;omega
   case e4=>omega
   case e5=>simp;omega
   intro v' w6 hown6 kU _;obtain⟨gv,cv,rfl,_,_⟩:=hown6.form (by omega);have JL:=(bG T5).1;have T6:=gL (hown5.alloc _) kU ((Lib.alloc_old w5 (.cells #[.int .i64 kind,.int .i64 tok,.slice a5 ks.length c6] 134) w1.heap.size JL).trans T5) (by decide)
   have k6:Ki w5 w6:=fun k cs fr q=>gL (hown5.alloc _) kU ((Lib.alloc_old w5 (.cells #[.int .i64 kind,.int .i64 tok,.slice a5 ks.length c6] 134) k (bG q).1).trans q) (by decide)
   have a6:aQ (fun b=>b<w1.heap.size) w2 w6:=(aas.trans (aQ.of (aj w5 _))).trans (aQ.grown kU fun b hb q=>by have:=(hown5.lt b q.symm).1;omega)
   have s1:w6.cell? ⟨w1.heap.size,1,none⟩=some (.slice a2 j c2):=by rw[Lib.cell_of_heap T6];rfl
   have sz:∀ jj,w6.frozen? ⟨w1.heap.size,jj,none⟩=false:=by intro jj;simp[World.frozen?,T6]
   have hs7:Ki w6 (w6.setCell ⟨w1.heap.size,1,none⟩ (.slice (some ⟨gv,0,none⟩) (j+1) cv)):=Ki.set T6 (by decide) 1 _;have T7:=heap_setCell_same w6 w1.heap.size 1 _ _ (.slice (some ⟨gv,0,none⟩) (j+1) cv) T6;have a7:=a6.trans (aQ.set (a:=⟨w1.heap.size,1,none⟩) (.slice (some ⟨gv,0,none⟩) (j+1) cv) fun b hb=>by show b≠w1.heap.size;omega);have o7:=iG (a:=⟨w1.heap.size,1,none⟩) hown6 (fun q=>by have:=(hown6.lt _ q.symm).1;simp at this;omega) (.slice (some ⟨gv,0,none⟩) (j+1) cv)
   have aeK:(nodes.take (j+1)).length=j+1:=by rw[List.length_take];omega
   have R7:adi (w1.heap.size+1) (w6.setCell ⟨w1.heap.size,1,none⟩ (.slice (some ⟨gv,0,none⟩) (j+1) cv)) (.slice (some ⟨gv,0,none⟩) (j+1) cv) (nodes.take (j+1)):=by
    refine⟨l2++[(⟨kind,tok,ks⟩,.slice a5 ks.length c6)],by rw[List.map_append,hl2,HS.out];rfl,?_,fun p hp=>?_⟩
    ·rw[aeK,List.flatMap_append]
     exact o7
    ·rcases List.mem_append.1 hp with hp|hp
     ·exact(((hk2 p hp).ki Q0).ki k6).ki hs7
     ·rw[List.mem_singleton] at hp
      subst hp;exact(adk.ki k6).ki hs7
   have aeL:=((adj.trans k6).trans hs7)
   have aeM:=Hr.size;have rZ:=((hb5.alloc hb5.size (.cells #[.int .i64 kind,.int .i64 tok,.slice a5 ks.length c6] 134)).grown kU (by have:=hb5.size;simp;omega) (fun q hq=>by have:=(hown5.lt q hq).1;omega)).setCell (p:=⟨w1.heap.size,1,none⟩) aeM (.slice (some ⟨gv,0,none⟩) (j+1) cv);clear kU hown6 hown5 t1 m0 m1 m2 o7 hk2 hl2;go_wp2
   go_roundw
   case rel=>exact⟨j+1,_,by omega,by go_num,a7,T7,R7,aeL,rZ⟩
   case measure=>simp[intOf];omega
  ·obtain rfl:j=nodes.length:=by omega
   rw[List.take_length] at hrow;obtain⟨l2,hl2,hown2,hk2⟩:=hrow
   obtain⟨a2,c2,rfl,_⟩:∃ a2 c2,nv2=.slice a2 nodes.length c2∧True:=by
    rcases hown2.2 with ⟨hv,hn0⟩|⟨g,cap,cur,hv,_⟩
    ·exact⟨none,0,by rw[hv,hn0],trivial⟩
    ·exact⟨_,cap,hv,trivial⟩
   have hl1:=(bG G0).1;have Z:=(fB.2 w.heap.size hl1 (by omega)).trans ((hb2.block w.heap.size hl1).trans G0)
   have s0:wr.cell? ⟨w1.heap.size,0,none⟩=some (.slice (some ⟨g,0,none⟩) toks.length c5):=by rw[Lib.cell_of_heap hT];rfl
   have s1:wr.cell? ⟨w1.heap.size,1,none⟩=some (.slice a2 nodes.length c2):=by rw[Lib.cell_of_heap hT];rfl
   have q0:wr.cell? ⟨w.heap.size,0,none⟩=some (.slice none 0 0):=by rw[Lib.cell_of_heap Z];rfl
   have q1:wr.cell? ⟨w.heap.size,1,none⟩=some (.slice none 0 0):=by rw[Lib.cell_of_heap Z];rfl
   have qz:∀ jj,wr.frozen? ⟨w.heap.size,jj,none⟩=false:=by intro jj;simp[World.frozen?,Z]
   have Hf:decide ((nodes.length:Int)<(nodes.length:Int))=false:=decide_eq_false (by omega)
   have afN:l2.length=nodes.length:=by rw[← hl2,List.length_map]
   have k1:Ki wr (wr.setCell ⟨w.heap.size,0,none⟩ (.slice (some ⟨g,0,none⟩) toks.length c5)):=Ki.set Z (by decide) 0 _;have Z1:=heap_setCell_same wr w.heap.size 0 _ _ (.slice (some ⟨g,0,none⟩) toks.length c5) Z;have k2:=Ki.set Z1 (by decide) 1 (.slice a2 nodes.length c2);have hgl:=hown.lt g rfl;simp only[World.size_alloc] at hgl
   have hP3:((wr.setCell ⟨w.heap.size,0,none⟩ (.slice (some ⟨g,0,none⟩) toks.length c5)).setCell ⟨w.heap.size,1,none⟩ (.slice a2 nodes.length c2)).ownsRow _ 136 4 (.slice (some ⟨g,0,none⟩) toks.length c5) toks.length (toks.flatMap bY):=Xh hown fun q hq=>by
    obtain rfl:g=q:=by simpa [Value.ownBlock] using hq
    rw[heap_setCell_other _ _ _ _ (by show g≠w.heap.size;omega),heap_setCell_other _ _ _ _ (by show g≠w.heap.size;omega)];exact(fB.2 g hgl.2 (by omega)).trans (hb2.block g hgl.2)
   have hn1:=iG (a:=⟨w.heap.size,0,none⟩) hown2 (fun q=>by have:=(hown2.lt _ q.symm).1;simp at this;omega) (.slice (some ⟨g,0,none⟩) toks.length c5);have PN:=iG (a:=⟨w.heap.size,1,none⟩) hn1 (fun q=>by have:=(hn1.lt _ q.symm).1;simp at this;omega) (.slice a2 nodes.length c2);have Az:=(hbl.setCell (p:=⟨w.heap.size,0,none⟩) (Nat.le_refl _) (.slice (some ⟨g,0,none⟩) toks.length c5)).setCell (p:=⟨w.heap.size,1,none⟩) (Nat.le_refl _) (.slice a2 nodes.length c2);go_wp2;refine bodyPost_ret (v:=.agg #[.slice (some ⟨g,0,none⟩) toks.length c5,.slice a2 nodes.length c2]) (by simp[results,Tryz.results102,go_sem,q0,q1]) rfl ⟨_,rfl,⟨_,_,l2,_,_,rfl,hP3,hl2,PN,fun p hp=>((hk2 p hp).ki k1).ki k2⟩,Az⟩
def Ja (r:YL)(w:World)(e:Ending)(w':World):Prop :=
 Below w.heap.size w w'∧match r with
 | .bad c a=>e=.returned (.tuple #[.agg #[.slice none 0 0,.slice none 0 0],.agg #[.int .i64 c,.int .i64 a]])
 | .good toks nodes=>∃ at_ ct an cn,e=.returned (.tuple #[.agg #[.slice at_ toks.length ct,.slice an nodes.length cn],.agg #[.int .i64 0,.int .i64 0]])∧pQ w' (.agg #[.slice at_ toks.length ct,.slice an nodes.length cn]) toks nodes
theorem fU {w:World}{b:Nat}{x y:Value}(h:w.heap[b]?=some (.cells #[x,y] 75 (0,0))):w.cell? ⟨b,0,none⟩=some x∧w.cell? ⟨b,1,none⟩=some y∧∀ j,w.frozen? ⟨b,j,none⟩=false:=by
 refine⟨?_,?_,fun j=>?_⟩
 ·rw[Lib.cell_of_heap h];rfl
 ·rw[Lib.cell_of_heap h];rfl
 ·simp[World.frozen?,h]
theorem mQ {w:World}{b:Nat}{x y:Value}(h:w.heap[b]?=some (.cells #[x,y] 89 (0,0))):w.cell? ⟨b,0,none⟩=some x∧w.cell? ⟨b,1,none⟩=some y∧∀ j,w.frozen? ⟨b,j,none⟩=false:=by
 refine⟨?_,?_,fun j=>?_⟩
 ·rw[Lib.cell_of_heap h];rfl
 ·rw[Lib.cell_of_heap h];rfl
 ·simp[World.frozen?,h]
theorem LB (s:ByteArray)(d:Nat)(fv:Value)(w:World)(hd1:1≤d)(hd2:d≤200)(hs:s.size≤1099511627776)(c a:Nat)(hl:bO s.data.toList=.error (c,a))(hc:c≠0) :
  Calls Tryz.prog 63 #[.string s,.int .i64 d,fv] w (Ja (.bad c a) w):=by
 have HL:Hid (∀ W,Calls Tryz.prog 74 #[.string s] W fun e w'=>e=.returned (.tuple #[.slice none 0 0,.agg #[.int .i64 c,.int .i64 a]])∧Below W.heap.size W w'):=ah fun W=>(GY s W hs).mono fun e w' h=>by
  unfold Ph at h;rw[hl] at h;exact⟨h.2,h.1⟩
 have hc0:((c:Int) == 0)=false:=by simp;omega
 have hal:=(aj w (.cells #[.slice none 0 0,.slice none 0 0] 89)).alloc (by simp) (.cells #[.int .i64 0,.int .i64 0] 75);have e1:=(Lib.alloc_old (w.alloc (.cells #[.slice none 0 0,.slice none 0 0] 89)) (.cells #[.int .i64 0,.int .i64 0] 75) w.heap.size (by simp)).trans (heap_alloc_new w (.cells #[.slice none 0 0,.slice none 0 0] 89));have e2:=heap_alloc_new (w.alloc (.cells #[.slice none 0 0,.slice none 0 0] 89)) (.cells #[.int .i64 0,.int .i64 0] 75);rw[World.size_alloc] at e2
 have adl:¬ ((d:Int)<1):=by omega
 have adn:¬ ((200:Int)<(d:Int)):=by omega
 clear hl;go_enter Tryz.func63,Tryz.ntmps63
 go_upto_region 5 with (go_at_call 74;refine(HL.out _).mono ?_;rintro e w3 ⟨rfl,hb3⟩;have hz3:=hb3.size)
 rw[World.size_alloc,World.size_alloc] at hz3;have G6:=(Lib.alloc_old w3 (.cells #[.int .i64 c,.int .i64 a] 75) w.heap.size (by omega)).trans ((hb3.block w.heap.size (by simp;omega)).trans e1);have G7:=(Lib.alloc_old w3 (.cells #[.int .i64 c,.int .i64 a] 75) (w.heap.size+1) (by omega)).trans ((hb3.block (w.heap.size+1) (by simp)).trans e2);have hb4:=(hal.trans (hb3.mono (by simp;omega))).alloc (by omega) (.cells #[.int .i64 c,.int .i64 a] 75);have N9:=heap_alloc_new w3 (.cells #[.int .i64 c,.int .i64 a] 75);clear hb3 e1 e2 hal HL;generalize hx:w3.heap.size=xb at N9 ⊢;generalize w3.alloc _=w4 at G6 G7 hb4 N9 ⊢;obtain⟨q0,q1,qz⟩:=mQ G6;obtain⟨p0,p1,pz⟩:=fU G7;obtain⟨f0,f1,fz⟩:=fU N9
 go_region
 go_wp2;refine bodyPost_ret (v:=.tuple #[.agg #[.slice none 0 0,.slice none 0 0],.agg #[.int .i64 c,.int .i64 a]]) (by simp[results,Tryz.results63,go_sem,q0,q1,p0,p1]) rfl ⟨?_,rfl⟩;exact((((hb4.setCell (by simp) _).setCell (by simp) _).setCell (by simp) _).setCell (by simp) _).drew
def ZH (E:aT)(one:aB→Option (Int × aB))(res:List Int × aB)(w0:World)(kv nv:Value)(wr:World):Prop :=
 ∃ (r m:Nat) (kids:List Int) (s:aB) (R:List Nat),nv=.int .i64 (m:Nat)∧m+r=9∧kids.length+2 * r≤16∧aR E.toks one r kids s=some res ∧
  wr.ownsRow w0.heap.size 3 1 kv kids.length (kids.map (Value.int .i64))∧(∀ b,kv.ownBlock=some b→b∈R)∧(∀ r∈E.R,r∈R)∧(kids=[]→kv=.slice none 0 0)∧PR E R s wr∧Kp E.B w0 wr∧s.clause=false
theorem OM (E:aT)(hE:E.ok)(one:aB→Option (Int × aB))(st:aB)(res:List Int × aB)(w:World)(h:jh E.toks one st=some res)(hp:PW E st w)(hn:res.2.nodes.length+1≤1099511627776)
  (hcl:st.clause=false) (hext:∀ s k,one s=some k→bZ s k.2)
  (hone:∀ (R:List Nat) (s:aB) (k:Int × aB) (w':World),s.clause=false→one s=some k→PR E R s w'→Kp E.B w w'→k.2.nodes.length+1≤1099511627776 →
   Calls Tryz.prog 170 #[.pointer (some ⟨E.pb,0,none⟩)] w' (dx { E with R:=R } k w')) :
  Calls Tryz.prog 169 #[.pointer (some ⟨E.pb,0,none⟩),.func (.func 170) #[.pointer (some ⟨E.pb,0,none⟩)] #[]] w (Ux E res w):=by
 have rX:=hE.2.2;obtain⟨i0,hi,hz0,hz1,hz2⟩:=info_parts Tryz.kS;unfold jh at h
 by_cases hx:aS E.toks st [[41]]=true
 ·rw[if_pos hx] at h
  injection h with h;subst h
  have HX:=ah (dn E hE ⟨#[41]⟩ st true hx);clear hx hone hext;go_enter Tryz.func169,Tryz.ntmps169;go_wp2_with (go_at_call 165;refine(HX.out w hp).mono ?_);rintro e w1 ⟨rfl,hp1,hk1⟩;go_wp2;go_ret;exact⟨_,rfl,⟨none,0,rfl,Nat.le_refl _,fun q=>absurd q (by simp)⟩,fun _=>rfl,hp1,hk1⟩
 ·rw[if_neg hx] at h
  have HX:=ah (dn E hE ⟨#[41]⟩ st false (eq_false_of_ne_true hx));have H0:=ah h;have BD:=ah hone;have EA:=ah hext;have HN:=ah hn;have HE:=ah hE;clear hx hone hext h hn;go_enter Tryz.func169,Tryz.ntmps169;go_wp2_with (go_at_call 165;refine(HX.out w hp).mono ?_);rintro e w1 ⟨rfl,hp1,hk1⟩;go_wp2
  go_loopw [5,6] (fun kv nv wr=>ZH E one res w kv nv wr) (fun _ nv _=>10 - (intOf nv).toNat)
  case atStart=>exact⟨8,1,[],st,E.R,rfl,rfl,by simp,H0.out,World.ownsRow_nil _ _ _ _,fun _ q=>by simp[Value.ownBlock] at q,fun _ q=>q,fun _=>rfl,hp1,hk1,hcl⟩
  case round =>
   obtain⟨r,m,kids,s,R,rfl,hm,hkl,hl,hown,hR,hER,hnil,hps,hks,hsc⟩:=hrel;obtain⟨ao,cap,rfl⟩:=mJ hown;have uP:=ah hnil;clear hnil;have hBw:E.B≤w.heap.size:=hp.dM
   by_cases hf:s.fE=0
   ·have HO:=ah (jr { E with R:=R } s hf)
    cases r with
    | zero =>
     obtain rfl:m=9:=by omega
     rw[aR,if_pos hf] at hl
     injection hl with hl
     have HF:=ah (fun w hp=>kC { E with R:=R } HE.out 15 s w hp);have HL:=ah hl;clear hl hf;go_wp2_with (go_at_call 101;refine(HO.out _ hps).mono ?_);rintro e w2 ⟨rfl,hp2,hk2⟩;go_wp2_with (go_at_call 166;refine(HF.out _ hp2).mono ?_);rintro e w3 ⟨rfl,hp3,hk3⟩;have hown3:=gy (gy hown hk2) hk3;go_wp2;go_ret;exact kD hown3 hER hp3 ((hks.trans hk2).trans hk3) HL.out uP.out
    | succ r =>
     rw[aR,if_neg (by simp[hf])] at hl;obtain⟨k,h1,hl⟩:=bH hl;have d8:decide (8<(m:Int))=false:=decide_eq_false (by omega);have d8':decide (8<m)=false:=decide_eq_false (by omega)
     have hnk:k.2.nodes.length+1≤1099511627776:=by
      split at hl
      ·exact aC ((aJ _ _).trans (kL _ one EA.out _ _ _ _ hl)) HN.out
      ·injection hl with hl;rw[← hl] at HN;exact HN.out
     have HCK:Hid (k.2.clause=false):=ah (by rw[(EA.out s k h1).2.2.1];exact hsc);have HK:=ah (fun w' hp hk=>BD.out R s k w' hsc h1 hp hk hnk);have HL:=ah hl;clear hl h1 hf;go_wp2_with (go_at_call 101;refine(HO.out _ hps).mono ?_);rintro e w2 ⟨rfl,hp2,hk2⟩;go_wp2_with (go_at_call 170;refine(HK.out _ hp2 (hks.trans hk2)).mono ?_);rintro e w3 ⟨rfl,hp3,hk3⟩;have MR:PR E R k.2 w3:=hp3;clear hp3;have hown3:=gy (gy hown hk2) hk3;have vH:PR E R k.2 (w3.alloc (.cells #[.int .i64 k.1] 3)):=PW.later MR (aj w3 _);have hnw:=heap_alloc_new w3 (.cells #[.int .i64 k.1] 3);have qZ:Kp E.B w (w3.alloc (.cells #[.int .i64 k.1] 3)):=((hks.trans hk2).trans hk3).trans (Kp.of (aj w3 _) MR.dM);have kT:=hown3.alloc (.cells #[.int .i64 k.1] 3);have aaO:w.heap.size≤w3.heap.size:=((hks.trans hk2).trans hk3).size;go_wp2_with (at_builtin;refine wpList_append_lies _ rfl _ _ 51 rfl w.heap.size 3 i0 (.int .i64 0) 1 8 Tryz.underlying51 hi hz0 hz1 hz2 rfl (by decide) _ _ _ rfl kT ⟨w3.heap.size,0,none⟩ 1 1 [.int .i64 k.1] rfl rfl ?c1 ?c2 ?c3 ?c4 ?c5 ?c6 _ rfl ?_)
     case c1=>exact World.news_of_block (cs:=#[.int .i64 k.1]) (t:=3) (fr:=(0,0)) hnw
     case c2=>simp[Value.oneCell']
     case c3=>omega
     case c4=>unfold maxLen;omega
     case c5=>omega
     case c6=>simp;omega
     intro g cap4 w4 wU vJ Uy Q6;obtain⟨R4,hR4,hg4,nA⟩:=vH.append kT hBw hR vJ Uy (by simp) Q6;have hk4:=qZ.grown kT (Nat.le_refl _) hBw vJ
     have q8:w4.ownsRow w.heap.size 3 1 (.slice (some ⟨g,0,none⟩) (kids.length+1) cap4) (kids.length+1) ((kids++[k.1]).map (Value.int .i64)):=by rw[List.map_append];exact wU
     have Hq:∀ r∈E.R,r∈R4:=fun r hr=>hR4 r (hER r hr)
     clear vH hnw qZ kT vJ Uy Q6 hown3 wU hk2 hk3 hp2 MR hown hps hks HO HK HX H0 BD aaO hR4
     by_cases GZ:k.2.fE=0
     ·have Uz:=ah (jr { E with R:=R4 } k.2 GZ)
      by_cases hx4:aS E.toks k.2 [[44]]=true
      ·have hl:=HL.out
       rw[if_pos ⟨GZ,hx4⟩] at hl;have YF:=ah (dn { E with R:=R4 } HE.out ⟨#[44]⟩ k.2 true hx4);have HLF:=ah (fun w hp=>bA { E with R:=R4 } k.2 w hp HE.out.1 HE.out.2.1 hnk);have HL2:=ah hl;clear hl HL GZ hx4;go_wp2_with (go_at_call 101;refine(Uz.out _ nA).mono ?_);rintro e w5 ⟨rfl,qY,hk5⟩;go_wp2_with (go_at_call 165;refine(YF.out _ qY).mono ?_);rintro e w6 ⟨rfl,BL,yG⟩;obtain⟨d0,_,_,_,_,_⟩:=BL.cells;go_wp2_with (go_at_call 167;refine(HLF.out _ BL).mono ?_);rintro e w7 ⟨rfl,Ew,AQ⟩;clear d0;have MS:PR E R4 (ay E.toks k.2).2 w7:=Ew;clear Ew;have JV:=gy (gy (gy q8 hk5) yG) AQ;have MU:=((hk4.trans hk5).trans yG).trans AQ;have vH:PR E R4 (ay E.toks k.2).2 (w7.alloc (.cells #[.int .i64 (ay E.toks k.2).1] 3)):=PW.later MS (aj w7 _);have hnw:=heap_alloc_new w7 (.cells #[.int .i64 (ay E.toks k.2).1] 3);have qZ:Kp E.B w (w7.alloc (.cells #[.int .i64 (ay E.toks k.2).1] 3)):=MU.trans (Kp.of (aj w7 _) MS.dM);have kT:=JV.alloc (.cells #[.int .i64 (ay E.toks k.2).1] 3);have ab5:w.heap.size≤w7.heap.size:=MU.size
       have hv4:∀ b,(Value.slice (some ⟨g,0,none⟩) (kids.length+1) cap4).ownBlock=some b→b∈R4:=fun b hb=>by
        simp only[Value.ownBlock,Option.some.injEq] at hb;subst hb;exact hg4
       go_wp2_with (at_builtin;refine wpList_append_lies _ rfl _ _ 51 rfl w.heap.size 3 i0 (.int .i64 0) 1 8 Tryz.underlying51 hi hz0 hz1 hz2 rfl (by decide) _ _ _ rfl kT ⟨w7.heap.size,0,none⟩ 1 1 [.int .i64 (ay E.toks k.2).1] rfl rfl ?c1 ?c2 ?c3 ?c4 ?c5 ?c6 _ rfl ?_)
       case c1=>exact World.news_of_block (cs:=#[.int .i64 (ay E.toks k.2).1]) (t:=3) (fr:=(0,0)) hnw
       case c2=>simp[Value.oneCell']
       case c3=>omega
       case c4=>unfold maxLen;omega
       case c5=>omega
       case c6=>simp;omega
       intro g8 MV w8 sV lU BN vK;obtain⟨R8,JW,hg8,QW⟩:=vH.append kT hBw hv4 lU BN (by simp) vK;have Us:=qZ.grown kT (Nat.le_refl _) hBw lU
       have MW:w8.ownsRow w.heap.size 3 1 (.slice (some ⟨g8,0,none⟩) (kids.length+1+1) MV) (kids++[k.1,(ay E.toks k.2).1]).length ((kids++[k.1,(ay E.toks k.2).1]).map (Value.int .i64)):=by
        rw[List.map_append,bN];exact sV
       have hv8:∀ b,(Value.slice (some ⟨g8,0,none⟩) (kids.length+1+1) MV).ownBlock=some b→b∈R8:=fun b hb=>by
        simp only[Value.ownBlock,Option.some.injEq] at hb;subst hb;exact hg8
       have aaP:∀ r∈E.R,r∈R8:=fun r hr=>JW r (Hq r hr)
       clear vH hnw qZ kT lU BN vK JV sV MU q8 hk4 hk5 yG AQ nA qY BL MS Uz YF HLF JW hv4 Hq hg4;go_wp2
       go_roundw
       case rel=>exact⟨r,m+1,_,_,R8,by go_num,by omega,by simp;omega,HL2.out,MW,hv8,aaP,(fun q=>by simp at q),QW,Us,by rw[(aJ E.toks k.2).2.2.1];exact HCK.out⟩
       case measure=>simp[intOf];omega
      ·have hl:=HL.out
       rw[if_neg (fun q=>hx4 q.2)] at hl
       injection hl with hl
       have YF:=ah (dn { E with R:=R4 } HE.out ⟨#[44]⟩ k.2 false (eq_false_of_ne_true hx4));have HL2:=ah hl;clear hl HL GZ hx4;go_wp2_with (go_at_call 101;refine(Uz.out _ nA).mono ?_);rintro e w5 ⟨rfl,qY,hk5⟩;go_wp2_with (go_at_call 165;refine(YF.out _ qY).mono ?_);rintro e w6 ⟨rfl,BL,yG⟩;have hown6:=gy (gy q8 hk5) yG;go_wp2;go_ret;exact kD hown6 Hq BL ((hk4.trans hk5).trans yG) HL2.out (fun q=>by simp at q)
     ·have hl:=HL.out
      rw[if_neg (fun q=>GZ q.1)] at hl
      injection hl with hl
      have Uz:=ah (rP { E with R:=R4 } k.2 GZ);have HL2:=ah hl;clear hl HL GZ;go_wp2_with (go_at_call 101;refine(Uz.out _ nA).mono ?_);rintro e w5 ⟨rfl,qY,hk5⟩;have hown5:=gy q8 hk5;go_wp2;go_ret;exact kD hown5 Hq qY (hk4.trans hk5) HL2.out (fun q=>by simp at q)
   ·have HO:=ah (rP { E with R:=R } s hf)
    have hl':(kids,s)=res:=by
     cases r with
     | zero=>rw[aR,if_neg hf] at hl;injection hl
     | succ r=>rw[aR,if_pos hf] at hl;injection hl
    have HL:=ah hl';clear hl hl' hf;go_wp2_with (go_at_call 101;refine(HO.out _ hps).mono ?_);rintro e w2 ⟨rfl,hp2,hk2⟩;have hown2:=gy hown hk2;go_wp2;go_ret;exact kD hown2 hER hp2 (hks.trans hk2) HL.out uP.out
end Go.Proofs.YtknicmmigbhpcaaGreatDoor
