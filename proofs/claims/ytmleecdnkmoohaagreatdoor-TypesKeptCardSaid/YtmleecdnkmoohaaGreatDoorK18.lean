/- Walks and plain laws, without a condition. -/
import Derived.Test.YtmleecdnkmoohaaGreatDoorK17
set_option maxHeartbeats 16000000
set_option maxRecDepth 100000
set_option linter.unusedVariables false
set_option linter.unusedSimpArgs false
namespace Go.Proofs.YtmleecdnkmoohaaGreatDoor
variable{k:Nat}{l:List PZ}{b:Int}{d:ZD}{p:ZP}{f:Fl}{E:SE}{own:aH}
def jv (g:dM)(res want:Int):Fl->List (Int × rY)->Fl
 | f,[]=>f
 | f,k :: l=>jv g res want (lg (k.2 g res f).2 k.1 (k.2 g res f).1 want) l
def uY (g:dM)(res:Int)(f:Fl)(a b:Int × rY):Int × Fl:=((a.2 g res f).1,lg (b.2 g res (a.2 g res f).2).2 b.1 (b.2 g res (a.2 g res f).2).1 (a.2 g res f).1)
def Cm (ks:List (Int × rY))(i:Nat):Int × rY:=ks.getD i (0,λ_ _ f=>(0,f))
def agS (op:Int)(ks:List (Int × rY))(g:dM)(res:Int)(f:Fl):Int × Fl:=if op=21 then uY g res f (Cm ks 1) (Cm ks 2) else (Cm ks 1).2 g res f
abbrev dS:=aH->Option (List Int × Int)
def lD (g:dM)(res:Int):Fl->List (Int × rY)->List Int->Fl
 | f,k :: l,b :: bs=>lD g res (lg (k.2 g res f).2 k.1 (k.2 g res f).1 b) l bs
 | f,_,_=>f
def sV (dG:dS)(nm md:aH)(ks:List (Int × rY))(g:dM)(res:Int):Int × Fl:=match (if md=[] then dG nm else none) with
 | none=>(0,some (10,0))
 | some x=>if x.1.length=ks.length then (x.2,lD g res none ks x.1) else (0,some (10,0))
def LU (dG:dS)(op:Int)(nm md:aH)(ks:List (Int × rY))(g:dM)(res:Int):Int × Fl :=
 if op=1 then (1,none) else if op=2 then (2,none) else if op=3 then Am g nm else if op=4 then (res,none)
 else if op=5\/(7<=op/\op<=11) then (1,jv g res 1 none ks)
 else if 14<=op/\op<=17 then (2,jv g res 1 none ks)
 else if op=12\/op=13 then (2,(uY g res none (Cm ks 0) (Cm ks 1)).2)
 else if op=6\/(18<=op/\op<=20) then (2,jv g res 2 none ks)
 else if op=24 then sV dG nm md ks g res
 else if op=22 then (Cm ks 1).2 (zu g nm ((Cm ks 0).2 g res none).1) res ((Cm ks 0).2 g res none).2
 else agS op ks g res (lg ((Cm ks 0).2 g res none).2 (Cm ks 0).1 ((Cm ks 0).2 g res none).1 2)
def aa3 (dG:dS)(op:Int)(nm md:aH)(ks:List (Int × rY)):rY:=λg res f=>match f with
 | some x=>(0,some x)
 | none=>LU dG op nm md ks g res
mutual
def PZ.ty (dG:dS):PZ->rY
 | .mk op nm md _ _ aB _=>aa3 dG op nm md (aa4 dG aB)
def aa4 (dG:dS):List PZ->List (Int × rY)
 | []=>[]
 | e :: l=>(e.at_,e.ty dG) :: aa4 dG l
end
theorem um (dG:dS):∀ l:List PZ,aa4 dG l=l.map λe=>(e.at_,e.ty dG)
 | []=>rfl
 | e :: l=>by rw[aa4,um dG l];rfl
theorem PZ.aa5 (dG:dS)(e:PZ):e.ty dG=aa3 dG e.op e.name e.module (e.aB.map λe=>(e.at_,e.ty dG)):=by cases e;rw[PZ.ty,um];rfl
theorem J5 (g:dM)(res want:Int)(k:Int × rY):∀ (l:List (Int × rY)) (f:Fl),jv g res want f (l++[k])=lg (k.2 g res (jv g res want f l)).2 k.1 (k.2 g res (jv g res want f l)).1 want
 | [],f=>rfl
 | x :: l,f=>J5 g res want k l _
theorem GR (dG:dS)(g:dM)(res want:Int)(f:Fl)(h:k<l.length) :
  jv g res want f ((l.take (k+1)).map λe=>(e.at_,e.ty dG))=lg (l[k].ty dG g res (jv g res want f ((l.take k).map λe=>(e.at_,e.ty dG)))).2 l[k].at_ (l[k].ty dG g res (jv g res want f ((l.take k).map λe=>(e.at_,e.ty dG)))).1 want:=by
 rw[zF h,xZ,lN,List.map_nil,J5]
theorem Dk (g:dM)(res:Int)(k:Int × rY)(b:Int):∀ (l:List (Int × rY)) (bs:List Int) (f:Fl),l.length=bs.length->lD g res f (l++[k]) (bs++[b])=lg (k.2 g res (lD g res f l bs)).2 k.1 (k.2 g res (lD g res f l bs)).1 b
 | [],[],f,_=>rfl
 | x :: l,c :: bs,f,h=>Dk g res k b l bs _ (by simpa using h)
 | [],_ :: _,_,h=>by simp at h
 | _ :: _,[],_,h=>by simp at h
theorem OY (dG:dS)(g:dM)(res:Int)(f:Fl){bs:List Int}(h:k<l.length)(hb:bs.length=l.length) :
  lD g res f ((l.take (k+1)).map λe=>(e.at_,e.ty dG)) (bs.take (k+1))=lg (l[k].ty dG g res (lD g res f ((l.take k).map λe=>(e.at_,e.ty dG)) (bs.take k))).2 l[k].at_ (l[k].ty dG g res (lD g res f ((l.take k).map λe=>(e.at_,e.ty dG)) (bs.take k))).1 (bs[k]'(by omega)):=by
 rw[zF h,zF (show k<bs.length by omega),xZ,lN,List.map_nil,Dk];rw[oC,pK,pK,hb]
def GU (dG:dS)(g:dM)(res:Int)(f:Fl)(l:List PZ):Fl:=jv g res 2 f (l.map λe=>(e.at_,e.ty dG))
def fM (dG:dS)(s:dM × Fl):List ZF->dM × Fl
 | []=>s
 | f :: l=>fM dG (zu s.1 f.name f.base,GU dG (zu s.1 f.name f.base) 0 s.2 f.aC) l
theorem Dl (dG:dS)(f:ZF):∀ (l:List ZF) (s:dM × Fl),fM dG s (l++[f])=(zu (fM dG s l).1 f.name f.base,GU dG (zu (fM dG s l).1 f.name f.base) 0 (fM dG s l).2 f.aC)
 | [],s=>rfl
 | x :: l,s=>Dl dG f l _
theorem OZ (dG:dS)(s:dM × Fl){l:List ZF}(h:k<l.length):fM dG s (l.take (k+1))=(zu (fM dG s (l.take k)).1 l[k].name l[k].base,GU dG (zu (fM dG s (l.take k)).1 l[k].name l[k].base) 0 (fM dG s (l.take k)).2 l[k].aC):=by
 rw[zF h,Dl]
def xq (dG:dS)(f:Fl)(d:ZD):Fl :=
 lg (d.body.ty dG (fM dG (λ_=>none,f) d.params).1 0 (GU dG (fM dG (λ_=>none,f) d.params).1 d.res.base (fM dG (λ_=>none,f) d.params).2 d.res.aC)).2 d.body.at_
  (d.body.ty dG (fM dG (λ_=>none,f) d.params).1 0 (GU dG (fM dG (λ_=>none,f) d.params).1 d.res.base (fM dG (λ_=>none,f) d.params).2 d.res.aC)).1 d.res.base
def kE (dG:dS)(f:Fl):List ZD->Fl
 | []=>f
 | d :: l=>kE dG (xq dG f d) l
theorem Dm (dG:dS)(d:ZD):∀ (l:List ZD) (f:Fl),kE dG f (l++[d])=xq dG (kE dG f l) d
 | [],f=>rfl
 | x :: l,f=>Dm dG d l _
theorem O1 (dG:dS)(f:Fl){l:List ZD}(h:k<l.length):kE dG f (l.take (k+1))=xq dG (kE dG f (l.take k)) l[k]:=by
 rw[zF h,Dm]
def aS (l:List ZD):dS:=λnm=>(l.find? λd=>decide (d.res.name=nm)).map λd=>(d.params.map ZF.base,d.res.base)
def ZP.types (p:ZP)(own:aH):Fl:=match p.check own [] with
 | some x=>some x
 | none=>kE (aS p.defs) none p.defs
def ZF.er (f:ZF):ZF:={ f with aC:=[] }
def ZD.er (d:ZD):ZD:={ d with params:=d.params.map ZF.er,res:=d.res.er }
def ZP.er (p:ZP):ZP:=⟨p.aD,p.defs.map ZD.er⟩
theorem Dn (h:iL b l=true):iL b []=true:=by
 unfold iL at h |-;rw[uw] at h;rw[h.1]
 rfl
theorem ZD.aa6 (h:d.sound=true):d.er.sound=true:=by
 unfold ZD.sound at h |-;simp only[uw,Bool.not_eq_true',List.any_eq_false,AZ] at h |-;obtain⟨h1,h2,h3,h4,h5⟩:=h;refine⟨h1,by show (d.params.map ZF.er).length<=8;rw[oC];exact h2,λf hf=>?_,Dn h4,h5⟩;obtain⟨g,hg,rfl⟩:=List.mem_map.1 hf;have:=h3 g hg;simp only[Bool.not_eq_false] at this |-;unfold ZF.right at this |-;rw[uw] at this |-;exact⟨this.1,Dn this.2⟩
theorem aa7 (h:p.right=true):p.er.right=true:=by
 unfold ZP.right at h |-;simp only[uw,List.all_eq_true] at h |-;refine⟨h.1,by show decide ((p.defs.map ZD.er).length<=64)=true;rw[oC];exact h.2.1,h.2.2.1,λd hd=>?_⟩;obtain⟨c,hc,rfl⟩:=List.mem_map.1 hd;exact ZD.aa6 (h.2.2.2 c hc)
theorem J6 (E:SE):∀ (l:List ZF) (s t:List aH × Fl),t.1=s.1->(s.2=none->t.2=none)->(gM E t (l.map ZF.er)).1=(gM E s l).1/\((gM E s l).2=none->(gM E t (l.map ZF.er)).2=none)
 | [],s,t,h1,h2=>⟨h1,h2⟩
 | f :: l,s,t,h1,h2=>by
  rw[lN,gM,gM];refine J6 E l _ _ (by simp only[h1];rfl) (λh=>?_);simp only[lu] at h |-;refine⟨⟨h2 h.1.1,?_⟩,rfl⟩;rw[h1];exact h.1.2
theorem GV (h:sJ E f d=none):f=none:=by
 have hp:∀ (l:List ZF) (s:List aH × Fl),(gM E s l).2=none->s.2=none:=λl=>by
  induction l with
  | nil=>exact λs h=>h
  | cons x l ih =>
   intro s h;rw[gM] at h;have:=ih _ h;simp only[lu] at this;exact this.1.1
 unfold sJ at h;rw[lu,lu] at h;exact hp _ _ h.1.1
theorem aa8 (h:sJ E none d=none):sJ E none d.er=none:=by
 unfold sJ at h |-;rw[lu,lu] at h |-;obtain⟨h1,h2⟩:=J6 E d.params ([],none) ([],none) rfl id;show ((gM E ([],none) (d.params.map ZF.er)).2=none/\cK E (gM E ([],none) (d.params.map ZF.er)).1 true []=none)/\d.body.gY E (gM E ([],none) (d.params.map ZF.er)).1 false=none;rw[h1];exact⟨⟨h2 h.1.1,rfl⟩,h.2⟩
theorem J7 {E:SE}:∀ (l:List ZD),kZ E none l=none->kZ E none (l.map ZD.er)=none
 | [],h=>h
 | d :: l,h=>by
  have hd:sJ E none d=none:=by
   have hq:∀ (k:List ZD) (f:Fl),kZ E f k=none->f=none:=λk=>by
    induction k with
    | nil=>exact λf h=>h
    | cons x k ih=>exact λf h=>GV (ih _ h)
   exact hq l _ h
  rw[lN,kZ,aa8 hd];rw[kZ,hd] at h;exact J7 l h
theorem GX:∀ (l:List ZD) (f:Fl) (seen:List aH),gV f seen (l.map ZD.er)=gV f seen l
 | [],_,_=>rfl
 | d :: l,f,seen=>by rw[lN,gV,gV,GX l];rfl
theorem Dp {E:SE}:∀ (l:List ZD) (f:Fl),kZ E f l=none->f=none
 | [],_,h=>h
 | _ :: l,_,h=>GV (Dp l _ h)
theorem LV (nm:aH):∀ l:List ZD,(l.map ZD.er).find? (λd=>decide (d.res.name=nm))=(l.find? λd=>decide (d.res.name=nm)).map ZD.er
 | []=>rfl
 | d :: l=>by
  by_cases h:d.res.name=nm
  ·rw[lN,List.find?_cons_of_pos (by exact jV h),List.find?_cons_of_pos (by exact jV h)]
   rfl
  ·rw[lN,List.find?_cons_of_neg (by show ¬ decide (d.res.name=nm)=true;rw[dX h];decide),List.find?_cons_of_neg (by show ¬ decide (d.res.name=nm)=true;rw[dX h];decide)]
   exact LV nm l
theorem aa9 (l:List ZD):gU (l.map ZD.er)=gU l:=by
 funext nm
 unfold gU;rw[LV,Option.map_map]
 congr 1
 funext d
 exact oC _
theorem aeR (l:List ZD):aS (l.map ZD.er)=aS l:=by
 funext nm
 unfold aS;rw[LV,Option.map_map]
 congr 1
 funext d
 show ((d.params.map ZF.er).map ZF.base,d.res.base)=_;rw[List.map_map]
 rfl
theorem abh (h:p.check own []=none):p.er.check own []=none:=by
 unfold ZP.check at h |-
 split at h
 ·rename_i hq
  rw[uw] at hq;rw[bR (by rw[uw];exact⟨aa7 hq.1,hq.2⟩)];unfold ZP.gY at h |-;have h0:=Dp _ _ h
  have he:∀ face ext,p.er.se own face ext=p.se own face ext:=λface ext=>by
   unfold ZP.se;show SE.mk _ (gU (p.defs.map ZD.er)) _=_;rw[aa9]
   rfl
  rw[he];show kZ _ (gV (oV own _ ([],none) p.aD).2 [] (p.defs.map ZD.er)) (p.defs.map ZD.er)=none;rw[GX,h0];rw[h0] at h;exact J7 _ h
 ·cases h
theorem uZ {a want:Int}(h:lg f a b want=none):f=none:=(lu.1 h).1
theorem El {dG:dS}{e:PZ}{g:dM}{res:Int}(h:(e.ty dG g res f).2=none):f=none:=by
 cases f with
 | none=>rfl
 | some x=>rw[PZ.aa5] at h;cases h
theorem xW {dG:dS}{g:dM}{res:Int}:∀ (l:List PZ) (f:Fl),GU dG g res f l=none->f=none
 | [],_,h=>h
 | e :: l,_,h=>El (uZ (xW l _ h))
theorem J8 (dG:dS):∀ (l:List ZF) (g:dM) (f h:Fl),(fM dG (g,h) (l.map ZF.er)).1=(fM dG (g,f) l).1/\(fM dG (g,h) (l.map ZF.er)).2=h
 | [],_,_,_=>⟨rfl,rfl⟩
 | x :: l,g,f,h=>J8 dG l (zu g x.name x.base) (GU dG (zu g x.name x.base) 0 f x.aC) h
theorem Dq {dG:dS}:∀ (l:List ZF) (s:dM × Fl),(fM dG s l).2=none->s.2=none
 | [],_,h=>h
 | x :: l,s,h=>xW x.aC s.2 (Dq l _ h)
theorem Sv {dG:dS}(h:xq dG f d=none):f=none:=Dq _ _ (xW _ _ (El (uZ h)))
theorem abl {dG:dS}(h:xq dG none d=none):xq dG none d.er=none:=by
 have h1:=xW _ _ (El (uZ h));have h2:=El (uZ h);obtain⟨e1,e2⟩:=J8 dG d.params (λ_=>none) none none;unfold xq at h |-;rw[h2] at h;show lg (d.body.ty dG (fM dG (λ_=>none,none) (d.params.map ZF.er)).1 0 (fM dG (λ_=>none,none) (d.params.map ZF.er)).2).2 d.body.at_ (d.body.ty dG (fM dG (λ_=>none,none) (d.params.map ZF.er)).1 0 (fM dG (λ_=>none,none) (d.params.map ZF.er)).2).1 d.res.base=none;rw[e1,e2];exact h
theorem Dr {dG:dS}:∀ (l:List ZD) (f:Fl),kE dG f l=none->f=none
 | [],_,h=>h
 | _ :: l,_,h=>Sv (Dr l _ h)
theorem J9 {dG:dS}:∀ (l:List ZD),kE dG none l=none->kE dG none (l.map ZD.er)=none
 | [],h=>h
 | d :: l,h=>by
  have hd:=Dr l _ h;rw[lN,kE,abl hd];rw[kE,hd] at h;exact J9 l h
theorem abm (h:p.types own=none):p.er.types own=none:=by
 unfold ZP.types at h |-
 split at h
 ·cases h
 ·rename_i hc
  rw[abh hc];show kE (aS (p.defs.map ZD.er)) none (p.defs.map ZD.er)=none;rw[aeR];exact J9 _ h
theorem GY {α β:Type}(f:α->List β)(K:Nat):∀ l:List α,(∀ x∈l,(f x).length<=K)->(l.flatMap f).length<=l.length * K
 | [],_=>by simp
 | x :: l,h=>by
  rw[List.flatMap_cons,bY,fu,Nat.succ_mul];have h1:=h x Cu
  have h2:=GY f K l λy hy=>h y (Dy _ hy)
  omega
theorem GZ (K:Nat):∀ l:List aH,(∀ x∈l,x.length<=K)->(bO l).length<=l.length * (K+2)
 | [],_=>by simp[bO]
 | [x],h=>by
  have:=h x Cu;simp only[bO,fu,jC];omega
 | x :: y :: l,h=>by
  have h1:=h x Cu
  have h2:=GZ K (y :: l) λz hz=>h z (Dy _ hz)
  rw[bO,bY,bY,fu (a:=x),Nat.succ_mul];simp only[fu,jC] at h2 |-;omega
theorem WC (b:Int):(vJ b).length<=4:=by unfold vJ;split<;>simp
theorem Dt (K:Nat):∀ l:List PZ,(∀ e∈l,e.text.length<=K)->(gT l).length<=l.length * (K+3)
 | [],_=>by simp[gT]
 | e :: l,h=>by
  have h1:=h e Cu
  have h2:=Dt K l λz hz=>h z (Dy _ hz)
  rw[gT,fu,Nat.succ_mul];simp only[bY,fu,jC];omega
theorem G5 (b:Int)(l:List PZ)(hl:l.length<=1)(h:∀ e∈l,e.text.length<=750000000):(kX b l).length<=750000007:=by
 have h1:=WC b;have h2:=Dt _ l h;have h3:l.length * (750000000+3)<=1 * (750000000+3):=Nat.mul_le_mul_right _ hl;rw[kX,bY];omega
def WE (e:PZ):Prop:=e.fit/\e.size<=2500
theorem WE.text {e:PZ}(h:WE e):e.text.length<=750000000:=by
 have h1:=PZ.Gi e h.1;have h2:=h.2;omega
structure ZF.mid (f:ZF):Prop where
 name:f.name.length<=65536
 few:f.aC.length<=1
 all:∀ e∈f.aC,WE e
structure ZD.mid (d:ZD):Prop where
 lX:∀ f∈d.params,f.mid
 few:d.params.length<=8
 res:d.res.mid
 body:WE d.body
structure ZP.mid (p:ZP):Prop where
 imps:∀ m∈p.aD,m.1.length<=65536
 QZ:p.aD.length<=16
 defs:∀ d∈p.defs,d.mid
 Q0:p.defs.length<=64
theorem ZF.mid.text {f:ZF}(h:f.mid):f.text.length<=750065545:=by
 have h1:=G5 f.base f.aC h.few λe he=>(h.all e he).text
 have h2:=h.name;rw[ZF.text];simp only[bY,fu,jC];omega
theorem ZD.mid.text {d:ZD}(h:d.mid):d.text.length<=7700000000:=by
 have h1:=G5 d.res.base d.res.aC h.res.few λe he=>(h.res.all e he).text
 have h2:=h.res.name;have h3:=h.body.text
 have h4:=GZ 750065545 (d.params.map ZF.text) λx hx=>by
  obtain⟨f,hf,rfl⟩:=List.mem_map.1 hx;exact(h.lX f hf).text
 have h5:(d.params.map ZF.text).length * (750065545+2)<=8 * (750065545+2):=Nat.mul_le_mul_right _ (by rw[oC];exact h.few)
 have h6:(if d.pub=true then [112,117,98,32] else []:aH).length<=4:=by split<;>simp
 rw[ZD.text];simp only[bY,fu,jC];omega
theorem ZP.mid.text {p:ZP}(h:p.mid):p.text.length<=1099511627776:=by
 have h1:=GY sS 65545 p.aD λm hm=>by
  have:=h.imps m hm;rw[sS];simp only[bY,fu,jC];omega
 have h2:=GY ZD.text 7700000000 p.defs λd hd=>(h.defs d hd).text
 have h3:p.aD.length * 65545<=16 * 65545:=Nat.mul_le_mul_right _ h.QZ;have h4:p.defs.length * 7700000000<=64 * 7700000000:=Nat.mul_le_mul_right _ h.Q0;rw[ZP.text,bY];omega
theorem ZF.mid.fit {f:ZF}(h:f.mid):f.fit:=⟨h.name,by have:=h.few;omega,λe he=>(h.all e he).1⟩
theorem ZD.mid.fit {d:ZD}(h:d.mid):d.fit:=⟨by have:=h.few;omega,λf hf=>(h.lX f hf).fit,h.res.fit,h.body.1⟩
theorem ZD.mid.qF {d:ZD}(h:d.mid):d.qF :=
 ⟨by have:=h.few;omega,λf hf=>⟨by have:=(h.lX f hf).few;omega,λe he=>by have:=((h.lX f hf).all e he).2;omega⟩,⟨by have:=h.res.few;omega,λe he=>by have:=(h.res.all e he).2;omega⟩,by have:=h.body.2;omega⟩
theorem ZP.mid.qF {p:ZP}(h:p.mid):p.qF :=
 ⟨⟨by have:=h.QZ;omega,h.imps,by have:=h.Q0;omega,λd hd=>(h.defs d hd).fit⟩,h.text,by have:=h.Q0;omega,λd hd=>(h.defs d hd).qF⟩
theorem FF.small.mid {M:Nat}{f:FF}(h:f.small M)(hM:M<=65536)(ha:f.all λe=>WE e.z):f.z.mid :=
 ⟨jq h.name hM,by show (f.aC.map PE.z).length<=1;rw[oC];exact h.aC,λe he=>by obtain⟨x,hx,rfl⟩:=List.mem_map.1 he;exact ha x hx⟩
theorem PP.small.mid {M:Nat}{p:PP}(h:p.small M)(hM:M<=65536)(ha:p.all λe=>WE e.z):p.z.mid:=by
 refine⟨λm hm=>?_,by show (p.aD.map _).length<=16;rw[oC];exact h.QZ,λd hd=>?_,by show (p.defs.map _).length<=64;rw[oC];exact h.Q0⟩
 ·obtain⟨x,hx,rfl⟩:=List.mem_map.1 hm
  exact jq (h.aD x hx) hM
 ·obtain⟨x,hx,rfl⟩:=List.mem_map.1 hd
  have h1:=h.defs x hx;have h2:=ha x hx;refine⟨λf hf=>?_,by show (x.params.map _).length<=8;rw[oC];exact h1.few,h1.res.mid hM h2.2.1,h2.2.2⟩;obtain⟨y,hy,rfl⟩:=List.mem_map.1 hf;exact(h1.params y hy).mid hM (h2.1 y hy)
theorem uj.mid {S:aH}{ah:List Tok}{aj:List Nd}{p:l6}(F:uj S ah aj p)(hs:S.length<=1200):(p.pp ah).z.mid :=
 F.ZO.mid (by omega) (PP.acV F.fits F.few F.few λe h1 h2 _=>by
  have h3:=F.nd;have h4:=F.count
  exact⟨PE.ady (by omega) e h1 (by omega),by rw[PE.Z6];omega⟩)
theorem yG {S:aH}{d:Nat}{ah:List Tok}{aj:List Nd}{p:l6}(hd:d<=200)(h:ji S d=.good ah aj)(hl:dQ S=.ok ah)(he:aj=p.pt.em 0 0)(hok:p.ok ah)(hlv:p.pt.lv=ah.length)(hn:aj.length<=2 * ah.length):uj S ah aj p:=by
 have hs:S.length<=65536:=by
  unfold dQ at hl
  split at hl
  ·cases hl
  ·omega
 have hL:=iZ hl
 have hM:∀ u,(aP ah u).length<=S.length+1:=λu=>Nat.le_succ_of_le (Gy hl u)
 have hN:=sH hl
 have hnd:aj.length=p.pt.nd:=by rw[he,PT.uI]
 exact⟨hs,hl,he,hok,hlv,hL.count,by omega,OO hl he p.wf hlv (by omega),hL.MG,Ah hd h,l6.Bz (λcl e u ho _=>CE.fits hL.some hN hM (by omega) e u ho) hok,l6.Bz (λcl e u ho _=>CE.told (yA hl) e u ho) hok,l6.Bz (λcl e u ho hn=>jq (CE.iJ ah e u) hn) hok,l6.NC hM hok⟩
def tnS (l:aH):aH:=[102,117,110,32,102,40,120,58,105,110,116,41,58,98,111,111,108,61,120]++l
def tnT (l:List Tok):List Tok:=[⟨2,[],[102,117,110],0⟩,⟨1,[32],[102],4⟩,⟨4,[],[40],5⟩,⟨1,[],[120],6⟩,⟨4,[],[58],7⟩,⟨2,[],[105,110,116],8⟩,⟨4,[],[41],11⟩,⟨4,[],[58],12⟩,⟨2,[],[98,111,111,108],13⟩,⟨4,[],[61],17⟩,⟨1,[],[120],18⟩]++l
def tn1:List Tok:=tnT [⟨4,[],[59],19⟩,⟨5,[],[],20⟩]
def tn2:List Tok:=tnT [⟨4,[],[61],19⟩,⟨3,[],[49],20⟩,⟨4,[],[59],21⟩,⟨5,[],[],22⟩]
def WG (c:CE):l6:=⟨0,[⟨false,[⟨none⟩],⟨none⟩,c⟩]⟩
theorem ac4:dQ (tnS [59])=.ok tn1:=by rfl
theorem ac5:dQ (tnS [61,49,59])=.ok tn2:=by rfl
theorem O4:ji (tnS [59]) 60=.good tn1 ((WG .Cz).pt.em 0 0):=by kernel_rfl
theorem O8:ji (tnS [61,49,59]) 60=.good tn2 ((WG (.bin .Cz .num)).pt.em 0 0):=by kernel_rfl
theorem adA {T:List Tok}{c:CE}(h0:aP T 0=Ir)(h1:gW T 1=1)(h3:gW T 3=1)(h5:aP T 5=Iu)(h8:aP T 8=vG)(h:c.ok T false 10):(WG c).ok T :=
 ⟨kJ _,by show 1<=64;omega,trivial,⟨(λh=>by cases h),h0,h1,by show 1<=8;omega,⟨⟨h3,by have q:aP T 5∈[Iu,vG]:=(by rw[h5];exact .head _);exact q,trivial⟩,trivial⟩,⟨by have q:aP T 8∈[Iu,vG]:=(by rw[h8];exact .tail _ (.head _));exact q,trivial⟩,h⟩,trivial⟩
theorem O9:uj (tnS [59]) tn1 ((WG .Cz).pt.em 0 0) (WG .Cz):=yG (d:=60) (by omega) O4 ac4 rfl (adA rfl rfl rfl rfl rfl (by simp only[CE.ok];rfl)) (by decide) (by decide)
theorem Pb:uj (tnS [61,49,59]) tn2 ((WG (.bin .Cz .num)).pt.em 0 0) (WG (.bin .Cz .num)):=yG (d:=60) (by omega) O8 ac5 rfl (adA rfl rfl rfl rfl rfl (by simp only[CE.ok];exact⟨by decide,rfl,rfl⟩)) (by decide) (by decide)
def tnZ (e:PZ):ZP:=⟨[],[⟨false,[⟨[120],1,[],6,11⟩],⟨[102],2,[],4,17⟩,e⟩]⟩
def aeS:PZ:=.mk 3 [120] [] 0 false [] 18
def aeT:PZ:=.mk 12 [] [] 0 false [.mk 3 [120] [] 0 false [] 18,.mk 1 [] [] 1 false [] 20] 19
theorem adB:((WG .Cz).pp tn1).z=tnZ aeS:=by rfl
theorem adC:((WG (.bin .Cz .num)).pp tn2).z=tnZ aeT:=by rfl
theorem WH:(tnZ aeS).types [109]=some (34,18):=by kernel_rfl
theorem WI:(tnZ aeT).types [109]=none:=by kernel_rfl
open Go.RowKit Go
variable{b:Nat}{w w':World}{l:ML}{v:Value}
theorem Ui {l:List Value}(h:l.length=1):∃ a,l=[a]:=List.length_eq_one_iff.1 h
theorem Pf {v0 v1:Value}(h:w.heap[b]?=some (.cells #[v0,v1] 189 (0,0))):w.cell? ⟨b,0,none⟩=some v0:=by rw[aZ h];rfl
theorem Tryz.Sw:∀ args w,(callFunc 135 args).run Tryz.prog w=.ok (.enter 135 args) w:=Go.Proofs.enters_of Tryz.func135 (by kernel_rfl) rfl
theorem Pg (k x:aH)(v1:Value)(w:World) :
  Calls Tryz.prog 135 (#[.agg #[.string ⟨k.toArray⟩,v1],.string ⟨x.toArray⟩]++#[]) w λe w'=>e=.returned (.int .i64 (vS k x))/\Below w.heap.size w w':=by
 have hal:=aA w (.cells #[.string ⟨k.toArray⟩,v1] 189);have hN:=aX w (.cells #[.string ⟨k.toArray⟩,v1] 189);have HC:=ay (λW=>Dg ⟨k.toArray⟩ ⟨x.toArray⟩ W);simp only at HC;show Calls Tryz.prog 135 #[.agg #[.string ⟨k.toArray⟩,v1],.string ⟨x.toArray⟩] w _;generalize vS k x=c at *;go_enter Tryz.func135,Tryz.ntmps135
 go_upto_region 1 with fail
 change Code.wp _ _ _ _ (w.alloc (.cells #[.string ⟨k.toArray⟩,v1] 189));generalize w.alloc _=w1 at hal hN |-;have c0:=Pf hN;go_wp2_with (go_at_call 127;refine(HC.out _).mono ?_;rintro e w2 ⟨rfl,rfl⟩);go_ret;exact⟨rfl,hal⟩
def abn (w:World)(b off:Nat)(l:ML):Prop:=∀ i,(hi:i<l.length)->∀ j u,(bf l[i])[j]?=some u->w.cell? ⟨b,off+i * 2+j,none⟩=some u
theorem abn.below {off:Nat}(h:abn w b off l)(hb:Below w.heap.size w w'):abn w' b off l:=λi hi j u hu=>jo hb (h i hi j u hu)
theorem Ph (ao:Option Addr)(cap:Nat)(l:ML)(x:aH)(w:World)(hw:xR 1 l)(h:0<l.length->∃ b off,ao=some ⟨b,off,none⟩/\abn w b off l)(hn:l.length<=1000000) :
  Calls Tryz.prog 134 #[.slice ao l.length cap,.string ⟨x.toArray⟩,.func (.func 135) #[] #[]] w
   λe w'=>e=.returned (.tuple #[.int .i64 (aT l x:Nat),.bool (lJ l x)])/\Below w.heap.size w w':=by
 have HW:=ay hw;have HR:=ay h;have hpl:=lK l x;have HH:=ay (rD hw x);have HI:=ay (λt (ht:t<l.length)=>uT hw (x:=x) ht);generalize hp:aT l x=p at *;have HP:=ay hp;generalize lJ l x=hs at *;have eg:=Tryz.Sw;clear hw h hp;go_enter Tryz.func134,Tryz.ntmps134;go_wp2
 go_loopw [9,10] (λs9 s10 wr=>∃ lo hi:Nat,s9=.int .i64 lo/\s10=.int .i64 hi/\lo<=p/\p<=hi/\hi<=l.length/\Below w.heap.size w wr) (λs9 s10 _=>(intOf s10).toNat - (intOf s9).toNat)
 case atStart=>exact⟨0,l.length,rfl,rfl,kJ _,hpl,bD _,bQ _ _⟩
 case round =>
  obtain⟨lo,hi,rfl,rfl,h1,h2,h3,hb⟩:=hrel;have hz:=hb.size
  by_cases hlt:lo<hi
  ·have hmid:(lo+hi) / 2<l.length:=by omega
   obtain⟨b,off,rfl,hrw⟩:=HR.out (by omega);have hc:=(hrw.below hb) ((lo+hi) / 2) hmid;obtain⟨v1,hv⟩:=Ui (HW.out.wid _ (nH hmid));rw[bf,hv] at hc;have x0:=hc 0 _ rfl;have x1:=hc 1 _ rfl;rw[nZ] at x0;have hiff:=HI.out _ hmid;generalize l[(lo+hi) / 2].1=k at x0 hiff;have HC:=ay (λW=>Pg k x v1 W);clear hc hv hrw
   by_cases hm:(lo+hi) / 2<p
   ·have hcv:=TQ (hiff.2 hm)
    rw[hcv] at HC;clear hcv hiff;go_wp2_with (go_at_fn 135;refine(HC.out _).mono ?_;rintro e w2 ⟨rfl,hb2⟩)
    go_roundw
    case rel=>exact⟨(lo+hi) / 2+1,hi,by rw[show ((lo:Int)+(hi:Int)) / 2+1=(((lo+hi) / 2+1:Nat):Int) by omega],rfl,by omega,h2,h3,hb.trans (hb2.mono hz)⟩
    case measure=>simp[intOf];omega
   ·have hcv:=TR (λq=>hm (hiff.1 q))
    generalize vS k x=c at HC hcv
    have hcI:¬ (c<0):=by omega
    clear hiff hcv;go_wp2_with (go_at_fn 135;refine(HC.out _).mono ?_;rintro e w2 ⟨rfl,hb2⟩)
    go_roundw
    case rel=>exact⟨lo,(lo+hi) / 2,rfl,by rw[show ((lo:Int)+(hi:Int)) / 2=(((lo+hi) / 2:Nat):Int) by omega],h1,by omega,by omega,hb.trans (hb2.mono hz)⟩
    case measure=>simp[intOf];omega
  ·obtain rfl:lo=hi:=by omega
   obtain rfl:lo=p:=by omega
   by_cases hn2:lo<l.length
   ·obtain⟨b,off,rfl,hrw⟩:=HR.out (by omega)
    have hc:=(hrw.below hb) lo hn2;obtain⟨v1,hv⟩:=Ui (HW.out.wid _ (nH hn2));rw[bf,hv] at hc;have x0:=hc 0 _ rfl;have x1:=hc 1 _ rfl;rw[nZ] at x0;have hiff:=HI.out _ hn2
    have Ze:hs=decide (l[lo].1=x):=by
     rw[HH.out]
     apply decide_eq_decide.2
     exact⟨λ⟨_,q⟩=>q,λq=>⟨hn2,q⟩⟩
    generalize l[lo].1=k at x0 hiff Ze;have hce:=TS (λq:k<x=>Nat.lt_irrefl _ (hiff.1 q));rw[<- Ze] at hce;have HC:=ay (λW=>Pg k x v1 W);have HE:Hid (∀ c,vS k x=c->decide (c=0)=hs):=ay (λc q=>by rw[<- q];exact hce);generalize hcc:vS k x=c at HC;have hc0:=HE.out c hcc;clear hc hv hrw hiff Ze hce hcc HE
    have hnI:(lo:Int)<(l.length:Int):=by omega
    go_wp2_with (go_at_fn 135;refine(HC.out _).mono ?_;rintro e w2 ⟨rfl,hb2⟩);go_ret2;exact⟨by rw[<- hc0];rfl,hb.trans (hb2.mono hz)⟩
   ·have Ze:hs=false:=by
     rw[HH.out];exact dX (λ⟨q,_⟩=>hn2 q)
    subst Ze
    have hnI:¬ (lo:Int)<(l.length:Int):=by omega
    go_wp2;go_ret2;exact⟨by simp,hb⟩
structure Pj (B mb:Nat) (v:Value) (l:ML) (w:World):Prop where
 wf:xR 1 l
 box:w.heap[mb]?=some (.cells #[v] 187 (0,0))
 own:w.ownsRow B 189 2 v l.length (dZ l)
theorem Pj.below {B mb:Nat}(h:Pj B mb v l w)(hb:Below w.heap.size w w'):Pj B mb v l w' :=
 ⟨h.wf,(hb.block mb (bP h.box).1).trans h.box,own_below h.own hb⟩
theorem Pj.slice {B mb:Nat}{v:Value}{l:ML}{w:World}(h:Pj B mb v l w):∃ ao cap,v=.slice ao l.length cap/\(0<l.length->∃ b off,ao=some ⟨b,off,none⟩/\abn w b off l):=by
 obtain⟨ao,cap,hv,hn,hl,hc⟩:=Sl.fQ h.own;refine⟨ao,cap,hv,λh0=>?_⟩;obtain⟨b,off,e,hlt,hcell⟩:=hc h0;refine⟨b,off,e,λi hi j u hu=>?_⟩
 have hj:j<2:=by
  rcases Nat.lt_or_ge j 2 with q|q
  ·exact q
  ·rw[List.getElem?_eq_none (by rw[bf,fu,h.wf.wid _ (nH hi)];exact q)] at hu;cases hu
 obtain⟨h',e'⟩:=pE ((Lp h.wf.wid i j hi hj).trans hu);have:=hcell (i * 2+j) h';rw[vN,this,e']
theorem lM (h:w.heap[b]?=some (.cells #[v] 187 (0,0))):w.cell? ⟨b,0,none⟩=some v/\w.frozen? ⟨b,0,none⟩=false:=⟨by rw[aZ h];rfl,by simp[World.frozen?,h]⟩
theorem Ka (B mb:Nat)(v:Value)(l:ML)(x:aH)(w:World)(h:Pj B mb v l w)(hn:l.length<=1000000) :
  Calls Tryz.prog 87 #[.pointer (some ⟨mb,0,none⟩),.string ⟨x.toArray⟩] w
   λe w'=>e=.returned (.tuple #[.int .i64 (aT l x:Nat),.bool (lJ l x)])/\Below w.heap.size w w':=by
 obtain⟨ao,cap,rfl,hr⟩:=h.slice;have c0:=(lM h.box).1;have HS:=ay (Ph ao cap l x w h.wf hr hn);generalize aT l x=p at *;generalize lJ l x=q at *;clear h hr;go_enter Tryz.func87,Tryz.ntmps87;go_wp2_with (go_at_call 134;refine HS.out.mono ?_;rintro e w2 ⟨rfl,hb2⟩);go_ret2;exact⟨rfl,hb2⟩
open Go.Lib
theorem Tryz.Cn:(Tryz.prog.info? 189).map (λi=>(i.zero,i.size,i.bytes))=some (some (.agg #[.string ⟨#[]⟩,.int .i64 0]),2,24):=by kernel_rfl
def Sy (B:Nat)(v:Value)(l:ML)(x:aH)(vs:List Value)(w:World)(e:Ending)(w':World):Prop :=
 ∃ g cap,e=.returned (.slice (some ⟨g,0,none⟩) (l.length+1) cap)/\w'.ownsRow B 189 2 (.slice (some ⟨g,0,none⟩) (l.length+1) cap) (l.length+1) (dZ (oW l x vs))/\w.grownBy w' v.ownBlock/\(v.ownBlock=some g\/w.heap.size<=g)
theorem D7 (B sb:Nat)(v:Value)(l:ML)(x:aH)(vs:List Value)(w:World)(hw:xR 1 l)(hB:B<=w.heap.size)(hn:l.length<=1000000)(hp:aT l x=l.length)(hvl:vs.length=1)(h1:∀ u∈vs,u.oneCell'=true)
  (hown:w.ownsRow B 189 2 v l.length (dZ l)) (hsb:w.heap[sb]?=some (.cells (bf (x,vs)).toArray 189 (0,0))) :
  Calls Tryz.prog 88 #[v,.int .i64 l.length,.slice (some ⟨sb,0,none⟩) 1 1] w (Sy B v l x vs w):=by
 obtain⟨i0,hi,hz0,hz1,hz2⟩:=info_parts Tryz.Cn
 have hrow:dZ (oW l x vs)=dZ l++bf (x,vs):=by
  rw[tY l x vs hw.wid,hp,Ba (by rw[j4 hw.wid];omega),List.drop_of_length_le (by rw[j4 hw.wid];omega),List.append_nil]
 have hnl:(bf (x,vs)).length=1 * 2:=by rw[bf,fu,hvl]
 have hn1:∀ u∈bf (x,vs),u.oneCell'=true:=λu hu=>by
  rcases nY.1 hu with q|q
  ·rw[q];rfl
  ·exact h1 u q
 have HW:=ay hown;have HR:=ay hrow;have hnews:=vL hsb;unfold Sy;generalize hmr:dZ l=mr at *;generalize dZ (oW l x vs)=mr' at *;generalize hmc:bf (x,vs)=mc at *;generalize hnn:l.length=n at *;clear hrow hp hmr hmc hw hsb hnn
 rcases hown.2 with ⟨rfl,rfl⟩|⟨g,cap,cur,rfl,hg,hh,hnc,hm,hs,hx⟩
 ·clear hown
  go_enter Tryz.func88,Tryz.ntmps88;go_wp2_with (at_builtin;refine wpList_append_lies _ rfl _ _ 185 rfl B 189 i0 _ 2 24 Tryz.underlying185 hi hz0 hz1 hz2 rfl (by decide) _ 0 _ rfl HW.out ⟨sb,0,none⟩ 1 1 _ rfl hnl hnews hn1 (by decide) (by unfold maxLen;omega) (by omega) hB _ rfl ?_;intro g cap w' hown' hgrow hor hlt);go_ret;exact⟨g,cap,rfl,by rw[HR.out];exact hown',hgrow,hor.imp id (λq=>by omega)⟩
 ·clear hown hh hs hx hg
  unfold maxLen at hm;go_enter Tryz.func88,Tryz.ntmps88;go_wp2_with (at_builtin;refine wpList_append_lies _ rfl _ _ 185 rfl B 189 i0 _ 2 24 Tryz.underlying185 hi hz0 hz1 hz2 rfl (by decide) _ n _ rfl HW.out ⟨sb,0,none⟩ 1 1 _ rfl hnl hnews hn1 (by decide) (by unfold maxLen;omega) (by omega) hB _ rfl ?_;intro g cap w' hown' hgrow hor hlt)
  all_goals
   go_ret;exact⟨g,cap,rfl,by rw[HR.out];exact hown',hgrow,hor.imp id (λq=>by omega)⟩
theorem G8 (B sb g c:Nat)(l:ML)(x:aH)(vs:List Value)(w:World)(hw:xR 1 l)(hn:l.length<=1000000)(hp:aT l x<l.length)(hvl:vs.length=1)(h1:∀ u∈vs,u.oneCell'=true)(hroom:l.length+1<=c)
  (hown:w.ownsRow B 189 2 (.slice (some ⟨g,0,none⟩) l.length c) l.length (dZ l)) (hsb:w.heap[sb]?=some (.cells (bf (x,vs)).toArray 189 (0,0))) (hne:sb≠g) :
  Calls Tryz.prog 88 #[.slice (some ⟨g,0,none⟩) l.length c,.int .i64 (aT l x:Nat),.slice (some ⟨sb,0,none⟩) 1 1] w (Sy B (.slice (some ⟨g,0,none⟩) l.length c) l x vs w):=by
 obtain⟨i0,hi0,hz0,hzs,hzb⟩:=info_parts Tryz.Cn
 have hsz:(Tryz.prog.info? 189).map (·.size)=some 2:=by rw[hi0];simp[hzs]
 have hnl:(bf (x,vs)).length=2:=by rw[bf,fu,hvl]
 have hn1:∀ u∈bf (x,vs),u.oneCell'=true:=λu hu=>by
  rcases nY.1 hu with q|q
  ·rw[q];rfl
  ·exact h1 u q
 have Ls:w.heap[sb]?=some (.cells (bf (x,vs)).toArray 189 (0,0)):=hsb
 have ael:(bf (x,vs)).toArray.size=2:=by rw[List.size_toArray,hnl]
 have hr1:=wR hw;have hrl:=j4 hw.wid;have hnews:=vL hsb;have hrow:=tY l x vs hw.wid
 rcases hown.2 with ⟨hv,_⟩|⟨g',jw,cur,hv,hg,hh,hnc,hm,hs,hx⟩
 ·cases hv
 simp only[Value.slice.injEq,Option.some.injEq,Addr.mk.injEq,and_true] at hv;obtain⟨rfl,-,rfl⟩:=hv;unfold maxLen at hm
 have hcl:cur.toList.length=c * 2:=by rw[Array.length_toList,hs]
 have hins:=F6 cur.toList l.length (aT l x) 2 (Nat.le_of_lt hp) (by omega) (bf (x,vs)) (dZ l) hx hnl;simp only at hins;obtain⟨k1,k2,k3⟩:=hins;rw[<- hrow] at k3;unfold Sy;generalize dZ (oW l x vs)=mr' at *;generalize hmr:dZ l=mr at *;generalize hmc:bf (x,vs)=mc at *;generalize hii:aT l x=i at *;generalize hnn:l.length=n at *;clear hrow hmr hmc hw hsb hnn hii h1 hvl
 have hdl:(mr.drop (i * 2)).length=(n - i) * 2:=by rw[yL,hrl];omega
 -- the two copies
 obtain⟨c1,hc1⟩:∃ c1,c1=cur.toList.take ((i+1) * 2)++mr.drop (i * 2)++cur.toList.drop ((i+1) * 2+(mr.drop (i * 2)).length):=⟨_,rfl⟩
 rw[<- hc1] at k1 k2 k3
 have hcp1:∀ (W:World),W.heap[g]?=some (.cells cur 189 (0,0))->∀ ty dc sc,(Builtin.copy_ #[185,185] ty #[.slice (some ⟨g,(i+1) * 2,none⟩) (n - i) dc,.slice (some ⟨g,i * 2,none⟩) (n+1 - i) sc]).run Tryz.prog W=.ok (goInt (n - i:Nat)) (W.setRow g c1.toArray):=λW hW ty dc sc=>by
  have hmin:Nat.min (n+1 - i) (n - i)=n - i:=by simp only[Nat.min_def];split<;>omega
  have:=iB (P:=Tryz.prog) W 185 185 ty 189 2 g ((i+1) * 2) (n - i) dc ⟨g,i * 2,none⟩ (n+1 - i) sc cur _ (mr.drop (i * 2)) Tryz.underlying185 hsz hW (by rw[hmin,hdl])
   (λj v hj=>by
    rw[List.getElem?_drop,<- hx] at hj;rw[List.getElem?_take] at hj
    split at hj
    ·rw[Addr.add_lit]
     exact qK hW hj
    ·cases hj) (by rw[hdl,hs];omega) (λv hv=>hr1 v (List.mem_of_mem_drop hv))
  rw[hmin,<- hc1] at this;exact this
 obtain⟨c2,hc2⟩:∃ c2,c2=c1.take (i * 2)++mc++c1.drop (i * 2+mc.length):=⟨_,rfl⟩
 rw[<- hc2] at k2 k3
 have hcp2:∀ (W:World),W.heap[g]?=some (.cells c1.toArray 189 (0,0))->(∀ j u,mc[j]?=some u->W.cell? ((⟨sb,0,none⟩:Addr).add j)=some u)->∀ ty dc,(Builtin.copy_ #[185,185] ty #[.slice (some ⟨g,i * 2,none⟩) (n+1 - i) dc,.slice (some ⟨sb,0,none⟩) 1 1]).run Tryz.prog W=.ok (goInt 1) (W.setRow g c2.toArray):=λW hW hsrc ty dc=>by
  have hmin:Nat.min 1 (n+1 - i)=1:=by simp only[Nat.min_def];split<;>omega
  have:=iB (P:=Tryz.prog) W 185 185 ty 189 2 g (i * 2) (n+1 - i) dc ⟨sb,0,none⟩ 1 1 c1.toArray _ mc Tryz.underlying185 hsz hW (by rw[hmin,hnl]) hsrc (by rw[List.size_toArray,k1,hnl,hcl];omega) hn1;rw[hmin,List.toList_toArray,<- hc2] at this;exact this
 have hbg:g<w.heap.size:=(bP hh).1
 have hov:∀ lb cb,(callFunc 136 #[.slice (some ⟨sb,0,none⟩) 1 1,.slice (some ⟨g,(i+1) * 2,none⟩) lb cb]).run Tryz.prog w=.ok (.value (.bool false)) w:=λlb cb=>by
  rw[run_callFunc_extern Tryz.func136 (by kernel_rfl) (by kernel_rfl) (by kernel_rfl) (e:=Extern.SlicesOverlaps.overlaps #[185,185] #[4]) (by kernel_rfl),
   Lib.run_overlaps_apart w 185 4 189 Tryz.underlying185 2 Tryz.sizeOf189 ⟨sb,0,none⟩ ⟨g,(i+1) * 2,none⟩ 1 1 lb cb hne 189 189 2 (c * 2) (Au Ls ael) (Au hh hs) (by omega) (by simp[World.frozen?,Ls]) (by simp[World.frozen?,Ls])]
  rfl
 have hcpA:=hcp1 w.drew hh;have hw1:(w.drew.setRow g c1.toArray).heap[g]?=some (.cells c1.toArray 189 (0,0)):=setRow_heap w.drew g cur _ _ _ hh
 have hcpB:=hcp2 (w.drew.setRow g c1.toArray) hw1 (λj u hj=>by
  rw[show (w.drew.setRow g c1.toArray).cell? ((⟨sb,0,none⟩:Addr).add j)=w.cell? ((⟨sb,0,none⟩:Addr).add j) from by
   rw[Addr.add_lit]
   exact yK (a:=⟨sb,0+j,none⟩) (setRow_other w.drew g sb _ hne)]
  exact hnews j u (by simpa using hj))
 have hw2:((w.drew.setRow g c1.toArray).setRow g c2.toArray).heap[g]?=some (.cells c2.toArray 189 (0,0)):=setRow_heap _ g _ _ _ _ hw1
 have hgr:w.grownBy ((w.drew.setRow g c1.toArray).setRow g c2.toArray) (some g):=⟨rfl,rfl,rfl,by rw[setRow_size,setRow_size];exact bD _,λk hk hkg=>by
  have hkn:k≠g:=λq=>hkg (by rw[q])
  rw[setRow_other _ g k _ hkn,setRow_other _ g k _ hkn]
  rfl⟩
 have mixed:Tryz.prog.follows .mixedOrders=true:=by kernel_rfl
 have hwr:IntKind.i64.wrap ((i:Int)+1)=(i:Int)+1:=by rw[IntKind.wrap_i64];omega
 have hb1:(0:Int)<=(i:Int)+1:=by omega
 have hb5:(i:Int)+1<=(n:Int)+1:=by omega
 have htn:((i:Int)+1).toNat=i+1:=by omega
 have hb2:¬ (c=i+1):=by omega
 have hb3:(i:Int)<=(n:Int)+1:=by omega
 have hb4:¬ (c=i):=by omega
 have hiI:¬ ((i:Int)=(n:Int)):=by omega
 have HK:=ay k3;clear hcp1 hcp2 hw1 Ls hc1 hc2 hdl k3 hx hown hrl;go_enter Tryz.func88,Tryz.ntmps88;go_wp2_with (simp only[hov])
 go_region_law_o (refine step_copy_runI rfl _ _ 185 185 rfl _ _ (by simp[Act.eval,Act.put]) (by simp[Act.eval,Act.put]) (hcpA _ _ _) ?_)
 go_wp2_with (at_builtin;refine wpList_copy_runI _ rfl _ _ 185 185 rfl _ _ rfl rfl (hcpB _ _) ?_);go_ret;exact⟨g,c,rfl,⟨by rw[<- HK.out,pK,k2,hcl];omega,.inr ⟨g,c,c2.toArray,rfl,hg,hw2,hroom,by unfold maxLen;exact hm,by rw[List.size_toArray,k2,hcl],by rw[List.toList_toArray];exact HK.out⟩⟩,hgr,.inl rfl⟩
theorem D8 (B sb g c:Nat)(l:ML)(x:aH)(vs:List Value)(w:World)(hw:xR 1 l)(hB:B<=w.heap.size)(hn:l.length<=1000000)(hp:aT l x<l.length)(hvl:vs.length=1)(h1:∀ u∈vs,u.oneCell'=true)(hroom:c<l.length+1)
  (hown:w.ownsRow B 189 2 (.slice (some ⟨g,0,none⟩) l.length c) l.length (dZ l)) (hsb:w.heap[sb]?=some (.cells (bf (x,vs)).toArray 189 (0,0))) :
  Calls Tryz.prog 88 #[.slice (some ⟨g,0,none⟩) l.length c,.int .i64 (aT l x:Nat),.slice (some ⟨sb,0,none⟩) 1 1] w (Sy B (.slice (some ⟨g,0,none⟩) l.length c) l x vs w):=by
 obtain⟨i0,hi0,hz0,hzs,hzb⟩:=info_parts Tryz.Cn
 have hsz:(Tryz.prog.info? 189).map (·.size)=some 2:=by rw[hi0];simp[hzs]
 have hnl:(bf (x,vs)).length=2:=by rw[bf,fu,hvl]
 have hn1:∀ u∈bf (x,vs),u.oneCell'=true:=λu hu=>by
  rcases nY.1 hu with q|q
  ·rw[q];rfl
  ·exact h1 u q
 have hr1:=wR hw;have hrl:=j4 hw.wid;have hnews:=vL hsb;have hrow:=tY l x vs hw.wid
 rcases hown.2 with ⟨hv,_⟩|⟨g',jw,cur,hv,hg,hh,hnc,hm,hs,hx⟩
 ·cases hv
 simp only[Value.slice.injEq,Option.some.injEq,Addr.mk.injEq,and_true] at hv;obtain⟨rfl,-,rfl⟩:=hv;have hbs:=(bP hsb).1;have hbg:=(bP hh).1;unfold Sy;generalize dZ (oW l x vs)=mr' at *;generalize hmr:dZ l=mr at *;generalize hmc:bf (x,vs)=mc at *;generalize hii:aT l x=i at *;generalize hnn:l.length=n at *;clear hmr hmc hw hsb hnn hii h1 hvl hown
 obtain rfl:c=n:=by omega
 have hdl:(mr.drop (i * 2)).length=(c - i) * 2:=by rw[yL,hrl];omega
 have hcg:∀ j v,mr[j]?=some v->w.cell? ⟨g,j,none⟩=some v:=λj v hj=>by
  rw[<- hx,List.getElem?_take] at hj
  split at hj
  ·exact qK hh hj
  ·cases hj
 have hold:(Builtin.firstCells i0.size i (.slice (some ⟨g,0,none⟩) i c)).run Tryz.prog w.drew=.ok (mr.take (i * 2)).toArray w.drew:=by
  rw[hzs]
  exact run_firstCells_some w.drew 2 i ⟨g,0,none⟩ i c (mr.take (i * 2)) (by rw[pK];omega) (λj v hj=>by
   rw[Addr.add_lit,Nat.zero_add];rw[List.getElem?_take] at hj
   split at hj
   ·exact hcg j v hj
   ·cases hj)
 have hik:i+(c+1 - i)=c+1:=by omega
 have hkk:(c:Int)+1 - (i:Int)=((c+1 - i:Nat):Int):=by omega
 obtain⟨z,hz⟩:∃ z:Value,z=.agg #[.string ⟨#[]⟩,.int .i64 0]:=⟨_,rfl⟩
 rw[<- hz] at hz0
 have hrz:∀ ty,(Builtin.append_ #[185,3] ty #[.slice (some ⟨g,0,none⟩) i c,.int .i64 ((c:Int)+1 - (i:Int))]).run Tryz.prog w =
   .ok (.slice (some ⟨w.heap.size,0,none⟩) (c+1) (grownCap w (c+1) c 189)) (w.drew.alloc (.cells ((mr.take (i * 2)).toArray++Builtin.zeroCells z.cells (c+1 - i)++Builtin.zeroCells z.cells (grownCap w (c+1) c 189 - (c+1))) 189)):=λty=>by
  have h:=Lib.run_append_grow_zeros w 185 3 ty 189 i0 z .i64 .i64 Tryz.underlying185 Tryz.underlying3 hi0 hz0 (some ⟨g,0,none⟩) i c (mr.take (i * 2)) hold (c+1 - i) (by omega) (by omega) (by omega) (by omega) (by rw[hzb];omega) (by rw[hzb,hik];exact growslice_fits hroom (by omega));rw[hik] at h;rw[hkk];exact h
 have hGn:c+1<=grownCap w (c+1) c 189:=grownCap_ge w _ _ _
 have hG63:grownCap w (c+1) c 189<=9223372036854775807:=by
  have:=grownCap_le_maxLen w (c+1) c 189 (by unfold maxLen;omega);unfold maxLen at this;omega
 generalize grownCap w (c+1) c 189=G at *
 have hzc:∀ k,(Builtin.zeroCells z.cells k).size=k * 2:=λk=>by rw[hz];simp[Builtin.zeroCells,Value.cells]
 obtain⟨ROW,hROW⟩:∃ ROW:Array Value,ROW=(mr.take (i * 2)).toArray++Builtin.zeroCells z.cells (c+1 - i)++Builtin.zeroCells z.cells (G - (c+1)):=⟨_,rfl⟩
 have hRl:ROW.toList.length=G * 2:=by
  rw[hROW,Array.length_toList,Array.size_append,Array.size_append,hzc,hzc,List.size_toArray,pK,hrl];omega
 have hRt:ROW.toList.take (i * 2)=mr.take (i * 2):=by
  rw[hROW,Array.toList_append,Array.toList_append,om,abk (by rw[List.toList_toArray,pK];omega),List.toList_toArray,List.take_take,Nat.min_self]
 rw[<- hROW] at hrz
 obtain⟨W1,hW1⟩:∃ W1,W1=w.drew.alloc (.cells ROW 189):=⟨_,rfl⟩
 rw[<- hW1] at hrz
 have a1:W1.heap[w.heap.size]?=some (.cells ROW 189 (0,0)):=by rw[hW1];exact aX w.drew _
 have a2:∀ k,k<w.heap.size->W1.heap[k]?=w.heap[k]?:=λk hk=>by rw[hW1];exact gZ w.drew _ k hk
 have a3:W1.heap.size=w.heap.size+1:=by rw[hW1];simp
 have a4:W1.os=w.os/\W1.tape=w.tape/\W1.output=w.output:=by rw[hW1];exact⟨rfl,rfl,rfl⟩
 have hins:=Dh ROW.toList c i 2 (Nat.le_of_lt hp) (by rw[hRl];omega) mc mr hRt hrl hnl;simp only at hins;obtain⟨k1,k2,k3⟩:=hins;rw[<- hrow] at k3
 obtain⟨c1,hc1⟩:∃ c1,c1=ROW.toList.take (i * 2)++mc++ROW.toList.drop (i * 2+mc.length):=⟨_,rfl⟩
 rw[<- hc1] at k1 k2 k3
 obtain⟨c2,hc2⟩:∃ c2,c2=c1.take ((i+1) * 2)++mr.drop (i * 2)++c1.drop ((i+1) * 2+(mr.drop (i * 2)).length):=⟨_,rfl⟩
 rw[<- hc2] at k2 k3
 have hcpA:∀ ty dc,(Builtin.copy_ #[185,185] ty #[.slice (some ⟨w.heap.size,i * 2,none⟩) (c+1 - i) dc,.slice (some ⟨sb,0,none⟩) 1 1]).run Tryz.prog W1=.ok (goInt 1) (W1.setRow w.heap.size c1.toArray):=λty dc=>by
  have hmin:Nat.min 1 (c+1 - i)=1:=by simp only[Nat.min_def];split<;>omega
  have:=iB (P:=Tryz.prog) W1 185 185 ty 189 2 w.heap.size (i * 2) (c+1 - i) dc ⟨sb,0,none⟩ 1 1 ROW _ mc Tryz.underlying185 hsz a1 (by rw[hmin,hnl]) (λj u hj=>by
   rw[Addr.add_lit,show W1.cell? ⟨sb,0+j,none⟩=w.cell? ⟨sb,0+j,none⟩ from yK (a:=⟨sb,0+j,none⟩) (a2 sb hbs)];have:=hnews j u (by simpa using hj)
   rwa [Addr.add_lit] at this) (by rw[<- Array.length_toList,hRl,hnl];omega) hn1
  rw[hmin,<- hc1] at this;exact this
 have b1:(W1.setRow w.heap.size c1.toArray).heap[w.heap.size]?=some (.cells c1.toArray 189 (0,0)):=setRow_heap W1 _ ROW _ _ _ a1
 have hcpB:∀ ty dc sc,(Builtin.copy_ #[185,185] ty #[.slice (some ⟨w.heap.size,(i+1) * 2,none⟩) (c - i) dc,.slice (some ⟨g,i * 2,none⟩) (c - i) sc]).run Tryz.prog (W1.setRow w.heap.size c1.toArray).drew=.ok (goInt (c - i:Nat)) ((W1.setRow w.heap.size c1.toArray).drew.setRow w.heap.size c2.toArray):=λty dc sc=>by
  have hmin:Nat.min (c - i) (c - i)=c - i:=Nat.min_self _
  have:=iB (P:=Tryz.prog) (W1.setRow w.heap.size c1.toArray).drew 185 185 ty 189 2 w.heap.size ((i+1) * 2) (c - i) dc ⟨g,i * 2,none⟩ (c - i) sc c1.toArray _ (mr.drop (i * 2)) Tryz.underlying185 hsz b1 (by rw[hmin,hdl])
   (λj v hj=>by
    rw[List.getElem?_drop] at hj;rw[Addr.add_lit,show (W1.setRow w.heap.size c1.toArray).drew.cell? ⟨g,i * 2+j,none⟩=w.cell? ⟨g,i * 2+j,none⟩ from yK (a:=⟨g,i * 2+j,none⟩) ((setRow_other W1 w.heap.size g _ (by omega)).trans (a2 g hbg))]
    exact hcg _ v hj) (by rw[List.size_toArray,k1,hRl,hdl];omega) (λv hv=>hr1 v (List.mem_of_mem_drop hv))
  rw[hmin,List.toList_toArray,<- hc2] at this;exact this
 have b2:((W1.setRow w.heap.size c1.toArray).drew.setRow w.heap.size c2.toArray).heap[w.heap.size]?=some (.cells c2.toArray 189 (0,0)):=setRow_heap _ _ _ _ _ _ b1
 have hgr:w.grownBy ((W1.setRow w.heap.size c1.toArray).drew.setRow w.heap.size c2.toArray) (some g):=⟨a4.1,a4.2.1,a4.2.2,by rw[setRow_size];show w.heap.size<=(W1.setRow w.heap.size c1.toArray).heap.size;rw[setRow_size,a3];omega,λk hk _=>by
  rw[setRow_other _ _ k _ (by omega)]
  exact(setRow_other W1 _ k _ (by omega)).trans (a2 k hk)⟩
 have HK:=ay k3
 have mixed:Tryz.prog.follows .mixedOrders=true:=by kernel_rfl
 have hwr:IntKind.i64.wrap ((i:Int)+1)=(i:Int)+1:=by rw[IntKind.wrap_i64];omega
 have hb1:(0:Int)<=(i:Int)+1:=by omega
 have htn:((i:Int)+1).toNat=i+1:=by omega
 have hb2:¬ (G=i+1):=by omega
 have hb6:¬ (G=i):=by omega
 have hb4:¬ (c=i):=by omega
 have hb5:(i:Int)+1<=(c:Int)+1:=by omega
 have hb3:(i:Int)<=(c:Int)+1:=by omega
 have Ad:(i:Int)<=(c:Int):=by omega
 have hiI:¬ ((i:Int)=(c:Int)):=by omega
 have Zf:=hRl;clear hkk hik hold hROW hRl hRt hc1 hc2 hdl k3 hx hrl hrow hz hz0 hzc hcg hW1 a1 a2 a3 a4 b1 hnews hr1;go_enter Tryz.func88,Tryz.ntmps88
 go_wp2_with (first
  | (at_builtin;refine Lib.wpList_append_run _ rfl _ _ _ _ rfl _ _ rfl rfl _ _ (hrz _) ?_)
  | (at_builtin;refine wpList_copy_runI _ rfl _ _ 185 185 rfl _ _ rfl rfl (hcpA _ _) ?_))
 go_region_law_o (refine step_copy_runI rfl _ _ 185 185 rfl _ _ (by simp[Act.eval,Act.put]) (by simp[Act.eval,Act.put]) (hcpB _ _ _) ?_)
 go_wp2;go_ret;exact⟨w.heap.size,G,rfl,⟨by rw[<- HK.out,pK,k2,Zf];omega,.inr ⟨w.heap.size,G,c2.toArray,rfl,hB,b2,hGn,by unfold maxLen;exact hG63,by rw[List.size_toArray,k2,Zf],by rw[List.toList_toArray];exact HK.out⟩⟩,hgr,.inr (bD _)⟩
theorem Pk (B sb:Nat)(v:Value)(l:ML)(x:aH)(vs:List Value)(w:World)(hw:xR 1 l)(hB:B<=w.heap.size)(hn:l.length<=1000000)(hvl:vs.length=1)(h1:∀ u∈vs,u.oneCell'=true)
  (hown:w.ownsRow B 189 2 v l.length (dZ l)) (hsb:w.heap[sb]?=some (.cells (bf (x,vs)).toArray 189 (0,0))) (hne:some sb≠v.ownBlock) :
  Calls Tryz.prog 88 #[v,.int .i64 (aT l x:Nat),.slice (some ⟨sb,0,none⟩) 1 1] w (Sy B v l x vs w):=by
 have hpl:=lK l x
 by_cases hp:aT l x=l.length
 ·have:=D7 B sb v l x vs w hw hB hn hp hvl h1 hown hsb
  rw[<- hp] at this;exact this
 ·rcases hown.2 with ⟨_,q⟩|⟨g,cap,cur,rfl,hg,hh,hnc,_⟩
  ·omega
  ·by_cases hr:l.length+1<=cap
   ·exact G8 B sb g cap l x vs w hw hn (by omega) hvl h1 hr hown hsb (λq=>hne (by rw[q];rfl))
   ·exact D8 B sb g cap l x vs w hw hB hn (by omega) hvl h1 (by omega) hown hsb
variable{g:dM}{B mb n cb i:Nat}
def jM (B mb:Nat)(g:dM)(n:Nat)(w:World):Prop:=∃ v ml,Pj B mb v ml w/\ml.length<=n/\∀ y,oh ml y=(g y).map λb=>[Value.int .i64 b]
theorem jM.below {B mb n:Nat}{g:dM}{w w':World}(h:jM B mb g n w)(hb:Below w.heap.size w w'):jM B mb g n w':=by
 obtain⟨v,ml,h1,h2,h3⟩:=h;exact⟨v,ml,h1.below hb,h2,h3⟩
theorem jM.lt (h:jM B mb g n w):mb<w.heap.size:=by
 obtain⟨v,ml,h1,-,-⟩:=h;exact(bP h1.box).1
theorem jM.alk {cs:Array Value}{T:TypeId}{fr:Nat × Nat}(h:jM B mb g n w)(hc:w.heap[cb]?=some (.cells cs T fr))(hT:T≠189)(PI:T≠187)(ha:aW (λb=>b≠cb) w w'):jM B mb g n w':=by
 obtain⟨v,ml,h1,h2,h3⟩:=h
 have hm:mb≠cb:=λq=>by
  have h0:=h1.box;rw[q,hc] at h0;simp only[Option.some.injEq,Obj.cells.injEq] at h0;exact PI h0.2.1
 refine⟨v,ml,⟨h1.wf,(ha.2 mb hm (bP h1.box).1).trans h1.box,?_⟩,h2,h3⟩;obtain⟨hl,h⟩:=h1.own;refine⟨hl,?_⟩
 rcases h with h|⟨g,cap,cur,rfl,hg,hh,hn⟩
 ·exact .inl h
 ·refine .inr ⟨g,cap,cur,rfl,hg,(ha.2 g (λq=>?_) (bP hh).1).trans hh,hn⟩
  subst q;rw[hc] at hh;simp only[Option.some.injEq,Obj.cells.injEq] at hh;exact hT hh.2.1
theorem ac6 {ml:ML}(h:∀ y,oh ml y=(g y).map λb=>[Value.int .i64 b])(x:aH):lJ ml x=(g x).isSome:=by
 rw[<- wQ,h,Option.isSome_map]
theorem abq (B mb n:Nat)(g:dM)(x:aH)(w:World)(h:jM B mb g n w)(hn:n<=1000000) :
  Calls Tryz.prog 138 #[.pointer (some ⟨mb,0,none⟩),.string ⟨x.toArray⟩] w λe w'=>e=.returned (.tuple #[.int .i64 ((g x).getD 0),.bool (g x).isSome])/\Below w.heap.size w w':=by
 obtain⟨v,ml,h1,h2,h3⟩:=h;have HF:=ay (Ka B mb v ml x w h1 (by omega));have hh:=ac6 h3 x;have hpl:=lK ml x;have HH:=ay (rD h1.wf x);have hgx:=h3 x;have HG:=ay (λi (hi:i<ml.length) e=>TN h1.wf (x:=x) (i:=i) hi e);rw[hh] at HF HH;have HM:=ay h1
 cases hq:g x with
 | none =>
  rw[hq] at HF;simp only[Option.isSome_none] at HF;clear HH HG hgx hh h1 h3 hpl;generalize aT ml x=p at *;go_enter Tryz.func138,Tryz.ntmps138;go_wp2_with (go_at_call 87;refine HF.out.mono ?_;rintro e w2 ⟨rfl,hb2⟩);go_ret2;exact⟨rfl,hb2⟩
 | some b =>
  rw[hq] at HF HH hgx;simp only[Option.isSome_some,Option.map_some] at HF HH hgx;obtain⟨hpn,hpx⟩:=PY HH.out.symm;have hg:=(HG.out _ hpn hpx).symm.trans hgx;simp only[Option.some.injEq] at hg;obtain⟨ao,cap,rfl,hr⟩:=h1.slice;obtain⟨b',off,rfl,hrw⟩:=hr (by omega)
  have hcx:∀ (W:World),Below w.heap.size w W->W.cell? ⟨b',off+aT ml x * 2+1,none⟩=some (.int .i64 b)/\W.cell? ⟨mb,0,none⟩=some (.slice (some ⟨b',off,none⟩) ml.length cap):=λW hW=>⟨(hrw.below hW) _ hpn 1 (.int .i64 b) (by rw[bf,hg];rfl),(lM (HM.out.below hW).box).1⟩
  have HC:=ay hcx;clear HH HG hgx hh h1 h3 hg hpx HM hrw hcx;generalize aT ml x=p at *;generalize ml.length=L at *;go_enter Tryz.func138,Tryz.ntmps138;go_wp2_with (go_at_call 87;refine HF.out.mono ?_;rintro e w2 ⟨rfl,hb2⟩;obtain⟨x1,m0⟩:=HC.out w2 hb2);go_ret2;exact⟨rfl,hb2⟩
theorem ac7 {k:Nat}{l:ML}(h:xR k l){x:aH}(v:List Value)(hi:i<l.length)(e:l[i].1=x):Ao l x v=l.set i (x,v):=by
 apply List.ext_getElem
 ·rw[Ao,oC,List.length_set]
 ·intro j hj _
  rw[List.getElem_set];simp only[Ao,List.getElem_map]
  have hjl:j<l.length:=by rw[Ao,oC] at hj;exact hj
  by_cases q:i=j
  ·subst q
   rw[bR rfl,bR e]
  ·rw[aU q,aU]
   intro c
   rcases Nat.lt_or_gt_of_ne q with r|r
   ·have:=h.mono r hjl
    rw[e,c] at this;exact List.lt_irrefl _ this
   ·have:=h.mono r hi
    rw[e,c] at this;exact List.lt_irrefl _ this
theorem Kc (x:aH)(v:Value):∀ {l:ML} {i:Nat} (_:∀ q∈l,q.2.length=1) (hi:i<l.length),l[i].1=x->dZ (l.set i (x,[v]))=(dZ l).set (i * 2+1) v
 | [],i,_,hi,_=>absurd hi (by simp)
 | ⟨a,r⟩ :: l,0,hw,_,e=>by
  obtain⟨u,rfl⟩:=Ui (hw (a,r) Cu);simp only[List.getElem_cons_zero] at e;subst e
  rfl
 | ⟨a,r⟩ :: l,i+1,hw,hi,e=>by
  obtain⟨u,rfl⟩:=Ui (hw (a,r) Cu);have:=Kc x v (l:=l) (i:=i) (λq hq=>hw q (Dy _ hq)) (by simpa using hi) (by simpa using e);show _ :: _ :: dZ (l.set i (x,[v]))=List.set (_ :: _ :: dZ l) _ v;rw[this,show (i+1) * 2+1=(i * 2+1)+1+1 by omega]
  rfl
theorem ac8 {e g cap:Nat}{xs:List Value}(h:w.ownsRow B e 2 (.slice (some ⟨g,0,none⟩) n cap) n xs)(hi:i<n * 2)(u:Value):(w.setCell ⟨g,i,none⟩ u).ownsRow B e 2 (.slice (some ⟨g,0,none⟩) n cap) n (xs.set i u):=by
 obtain⟨hl,h⟩:=h;refine⟨by rw[List.length_set];exact hl,?_⟩
 rcases h with ⟨q,_⟩|⟨g',jw,cur,hv,hg,hh,hnc,hm,hs,hx⟩
 ·cases q
 ·simp only[Value.slice.injEq,Option.some.injEq,Addr.mk.injEq,and_true] at hv
  obtain⟨rfl,-,rfl⟩:=hv;refine .inr ⟨g,cap,cur.setIfInBounds i u,rfl,hg,jN w g i cur _ u hh,hnc,hm,by rw[Array.size_setIfInBounds];exact hs,?_⟩;rw[Array.toList_setIfInBounds,List.take_set,hx]
def aif (B mb:Nat)(g:dM)(n:Nat)(x:aH)(b:Int)(w:World)(e:Ending)(w':World):Prop:=(∃ r,e=.returned (.bool r))/\jM B mb (zu g x b) (n+1) w'/\Below B w w'/\∀ k cs T fr,k≠mb->T≠189->w.heap[k]?=some (.cells cs T fr)->w'.heap[k]?=w.heap[k]?
theorem Pm (B mb n:Nat)(g:dM)(x:aH)(b:Int)(w:World)(h:jM B mb g n w)(hB:B<=w.heap.size)(hBm:B<=mb)(hn:n<=1000000) :
  Calls Tryz.prog 49 #[.pointer (some ⟨mb,0,none⟩),.string ⟨x.toArray⟩,.int .i64 b] w (aif B mb g n x b w):=by
 obtain⟨v,ml,h1,h2,h3⟩:=h;have HF:=ay (Ka B mb v ml x w h1 (by omega));have aii:=(bP h1.box).1
 have aeU:∀ b,v.ownBlock=some b->b<w.heap.size:=λb q=>(h1.own.lt b q).2
 have hne:some mb≠v.ownBlock:=own_ne h1.own h1.box (by decide);have HM:=ay h1;have HNE:=ay (λ(k:Nat) (cs:Array Value) (T:TypeId) (fr:Nat × Nat) (hT:T≠189) (hk:w.heap[k]?=some (.cells cs T fr))=>(gy (bP hk).1 (own_ne h1.own hk hT)));have hpl:=lK ml x;have HH:=ay (rD h1.wf x)
 have hput:∀ y,oh (Ap ml x [.int .i64 b]) y=(zu g x b y).map λb=>[Value.int .i64 b]:=λy=>by
  rw[Y8,zu]
  split
  ·rfl
  ·exact h3 y
 have HP:=ay hput;have hlen:=Y9 ml x [.int .i64 b];have hwf:=h1.wf.put x (v:=[.int .i64 b]) rfl (by simp[Value.oneCell']);have HW:=ay hwf;clear h1 h3 hput hwf
 cases hq:lJ ml x with
 | true =>
  rw[hq] at HF HH;obtain⟨hpn,hpx⟩:=PY HH.out.symm;have hset:=ac7 HM.out.wf [.int .i64 b] hpn hpx
  have hmp:Ap ml x [.int .i64 b]=ml.set (aT ml x) (x,[.int .i64 b]):=by rw[Ap,bR hq,hset]
  have hrow:dZ (Ap ml x [.int .i64 b])=(dZ ml).set (aT ml x * 2+1) (.int .i64 b):=by rw[hmp,Kc x _ HM.out.wf.wid hpn hpx]
  have hll:(Ap ml x [.int .i64 b]).length=ml.length:=by rw[hmp,List.length_set]
  rcases HM.out.own.2 with ⟨_,q⟩|⟨gb,cap,cur,rfl,hg,hh,hnc,hm,hs,hx⟩
  ·omega
  have HR:=ay (gy hrow (gy hll hg))
  have HC:=ay (λ(W:World) (hW:Below w.heap.size w W)=>(⟨by
   have:=(hW.block gb (bP hh).1).trans hh;have h8:gb<W.heap.size:=(bP this).1;refine⟨?_,by simp[World.frozen?,this]⟩
   have h9:aT ml x * 2+1<cur.size:=by rw[hs];omega
   exact⟨cur[aT ml x * 2+1],by rw[aZ this];simp[h9]⟩,(lM (HM.out.below hW).box).1,(HM.out.below hW).own,(HM.out.below hW).box⟩:((∃ u,W.cell? ⟨gb,aT ml x * 2+1,none⟩=some u)/\W.frozen? ⟨gb,aT ml x * 2+1,none⟩=false)/\W.cell? ⟨mb,0,none⟩=some (.slice (some ⟨gb,0,none⟩) ml.length cap)/\W.ownsRow B 189 2 (.slice (some ⟨gb,0,none⟩) ml.length cap) ml.length (dZ ml)/\W.heap[mb]?=some (.cells #[.slice (some ⟨gb,0,none⟩) ml.length cap] 187 (0,0))))
  clear HH hset hmp hrow hll hh hnc hm hs hx hg hpx HM
  have hpI:aT ml x * 2+1<ml.length * 2:=by omega
  generalize aT ml x=p at *;generalize Ap ml x [.int .i64 b]=mp at *;generalize dZ ml=mr at *;generalize ml.length=L at *;clear hq;go_enter Tryz.func49,Tryz.ntmps49;go_wp2_with (go_at_call 87;refine HF.out.mono ?_;rintro e w2 ⟨rfl,hb2⟩;obtain⟨⟨⟨u,x1⟩,x1z⟩,m0,hown,DT⟩:=HC.out w2 hb2);go_ret;refine⟨⟨_,rfl⟩,⟨.slice (some ⟨gb,0,none⟩) L cap,mp,⟨HW.out,?_,?_⟩,by omega,HP.out⟩,(hb2.mono hB).setCell HR.out.2.2 _,λk cs T fr hk hT hq=>(qm _ _ _ _ λq=>(HNE.out k cs T fr hT hq).2 (by rw[q];rfl)).trans (hb2.block k (HNE.out k cs T fr hT hq).1)⟩
  ·rw[qm]
   ·exact DT
   ·exact λq=>hne (by rw[q];rfl)
  ·have:=ac8 hown hpI (.int .i64 b)
   rw[HR.out.2.1,HR.out.1];exact this
 | false =>
  rw[hq] at HF
  have hmp:Ap ml x [.int .i64 b]=oW ml x [.int .i64 b]:=by rw[Ap,aU (by rw[hq];simp)]
  rw[hmp] at HW HP hlen;have HL:=ay (Aq ml x [.int .i64 b]);clear HH hmp;go_enter Tryz.func49,Tryz.ntmps49
  go_upto_region 2 with (go_at_call 87;refine HF.out.mono ?_;rintro e w2 ⟨rfl,hb2⟩)
  have hM2:=HM.out.below hb2;have hz2:=hb2.size;obtain⟨m0,-⟩:=lM hM2.box;have HI:=ay (λ(W:World) (hW:Below w2.heap.size w2 W) (hs:W.heap[w2.heap.size]?=some (.cells #[.string ⟨x.toArray⟩,.int .i64 b] 189 (0,0)))=>Pk B w2.heap.size v ml x [.int .i64 b] W hM2.wf (by have:=hW.size;omega) (by omega) rfl (by simp[Value.oneCell']) (own_below hM2.own hW) hs (λq=>by have:=aeU _ q.symm;omega))
  have aeV:mb<w2.heap.size:=by omega
  have hmx:=ay hM2;clear hM2 HF HM;have hA:(w2.alloc (.cells #[.string ⟨x.toArray⟩,.int .i64 b] 189)).heap[w2.heap.size]?=some (.cells #[.string ⟨x.toArray⟩,.int .i64 b] 189 (0,0)):=aX w2 _;have hAb:Below w2.heap.size w2 (w2.alloc (.cells #[.string ⟨x.toArray⟩,.int .i64 b] 189)):=aA w2 _;have HIx:=ay (HI.out _ hAb hA);have hmA:(w2.alloc (.cells #[.string ⟨x.toArray⟩,.int .i64 b] 189)).heap[mb]?=some (.cells #[v] 187 (0,0)):=(gZ w2 _ mb aeV).trans hmx.out.box;have HMA:=ay hmA;clear hA HI hmA;go_wp2_with (go_at_call 88;refine HIx.out.mono ?_;rintro e w3 ⟨g',jw,rfl,kK,hgrow,hor⟩;have G9:=(hgrow.block mb (bP HMA.out).1 hne).trans HMA.out;obtain⟨t0,f0⟩:=lM G9;have Xu:=ay kK;have Uh:=ay hgrow;have HR3:=ay hor;have HB3:=ay G9;clear kK hgrow hor G9);go_ret;refine⟨⟨_,rfl⟩,⟨_,_,⟨HW.out,jN w3 mb 0 _ _ _ HB3.out,?_⟩,by omega,HP.out⟩,?_,λk cs T fr hk hT hq=>?_⟩
  ·rw[HL.out]
   exact iO Xu.out (λq=>own_ne Xu.out HB3.out (by decide) q) _
  ·exact((((hb2.mono hB).trans (hAb.mono (jq hB hz2))).grown Uh.out (jq (jq hB hz2) hAb.size) (λb q=>(hmx.out.own.lt b q).1))).setCell hBm _
  ·obtain⟨q1,q2⟩:=HNE.out k cs T fr hT hq
   exact(qm _ _ _ _ hk).trans ((Uh.out.block k (by have:=hAb.size;omega) q2).trans ((gZ w2 _ k (by omega)).trans (hb2.block k q1)))
theorem Tryz.WJ:(Tryz.prog.info? 189).map (λi=>(i.zero,i.size,i.bytes))=some (some (.agg #[.string ⟨#[]⟩,.int .i64 0]),2,24):=by kernel_rfl
def xX (l:ML)(w:World)(e:Ending)(w':World):Prop:=∃ a c,e=.returned (.slice a l.length c)/\w'.ownsRow w.heap.size 189 2 (.slice a l.length c) l.length (dZ l)/\Below w.heap.size w w'
theorem SA (B mb:Nat)(v:Value)(l:ML)(w:World)(h:Pj B mb v l w)(hn:l.length<=1000000) :
  Calls Tryz.prog 195 #[v] w (xX l w):=by
 obtain⟨i0,hi,hz0,hz1,hz2⟩:=info_parts Tryz.WJ;have hu:=wR h.wf;have hrl:=j4 h.wf.wid;obtain⟨ao,cap,rfl,hcap,_,hf⟩:=Sl.fQ h.own
 have q22:∀ (w:World) (a:Option Addr) (n c n' c':Nat),(binOp .eql 185 (.slice a n c) (.slice none n' c')).run Tryz.prog w=.ok (.bool a.isNone) w:=λw a n c n' c'=>Lib.run_eql_slice_nil w _ _ a n c n' c' Tryz.underlying185
 have u22:∀ w,Sem.run Tryz.prog (underlying 185) w=.ok (TypeDesc.slice 189) w:=run_underlying Tryz.underlying185;unfold xX;generalize dZ l=mr at *
 cases ao with
 | none =>
  have hn0:l.length=0:=by
   rcases Nat.eq_zero_or_pos l.length with q|q
   ·exact q
   ·obtain⟨b,off,q1,_⟩:=hf q;cases q1
  obtain rfl:mr=[]:=List.eq_nil_of_length_eq_zero (by omega);rw[hn0];clear hf hrl hu h;go_enter Tryz.func195,Tryz.ntmps195;go_wp2;go_ret;exact⟨_,_,rfl,World.ownsRow_nil _ _ _ _,bQ _ _⟩
 | some ad =>
  have hnews:∀ j u,mr[j]?=some u->w.cell? (ad.add j)=some u/\(ad.add j).block<w.heap.size:=λj u hj=>by
   obtain⟨h2,h3⟩:=pE hj;obtain⟨b,off,q1,q3,q2⟩:=hf (by omega)
   injection q1 with q1
   rw[q1,Addr.add_lit,q2 j h2,h3];exact⟨rfl,q3⟩
  have A:=ay hnews;have HLEN:=ay hrl;have HU:=ay hu;clear hf hrl hu hnews h;generalize l.length=n at *;go_enter Tryz.func195,Tryz.ntmps195;go_wp2_with (at_builtin;refine wpList_append_own _ rfl _ _ 185 rfl w.heap.size 189 i0 (.agg #[.string ⟨#[]⟩,.int .i64 0]) 2 24 Tryz.underlying185 hi hz0 hz1 hz2 rfl (by decide) _ _ _ rfl (World.ownsRow_made w #[] 0 (bD _) (kJ _) rfl) ad n cap mr rfl ?qc1 ?qc2 ?qc3 ?qc4 ?qc5 ?qc6 ?_)
  case qc1=>exact HLEN.out
  case qc2 =>
   intro j u hj;have:=A.out j u hj;rw[yK (gZ w _ _ this.2)];exact this.1
  case qc3=>exact HU.out
  case qc4=>unfold maxLen;omega
  case qc5=>omega
  case qc6=>simp
  intro v' w1 hown hgrow hnil
  have hvf:∃ a c,v'=.slice a n c:=by
   rcases hown.2 with ⟨q,q2⟩|⟨g,jw,cur,q,_⟩
   ·exact⟨none,0,by rw[q,show n=0 by omega]⟩
   ·exact⟨_,_,q⟩
  obtain⟨a',c',rfl⟩:=hvf;go_wp2;go_ret;exact⟨a',c',rfl,by simpa using hown,((bQ _ w).alloc (bD _) _).grown hgrow (by simp) (by intro k hk;simp[Value.ownBlock] at hk;omega)⟩
theorem WK (B mb n:Nat)(g:dM)(w:World)(h:jM B mb g n w)(hn:n<=1000000) :
  Calls Tryz.prog 93 #[.pointer (some ⟨mb,0,none⟩)] w λe w'=>∃ b,e=.returned (.pointer (some ⟨b,0,none⟩))/\jM w.heap.size b g n w'/\w.heap.size<=b/\Below w.heap.size w w':=by
 obtain⟨v,ml,h1,h2,h3⟩:=h;have HC:=ay (SA B mb v ml w h1 (by omega));have m0:=(lM h1.box).1
 have HP:Hid (Calls Tryz.prog 139 #[.pointer (some ⟨mb,0,none⟩)] w (xX ml w)):=ay (by
  clear h1 h3 h2;unfold xX at HC |-;generalize dZ ml=mr at *;generalize ml.length=L at *;go_enter Tryz.func139,Tryz.ntmps139;go_wp2_with (go_at_call 195;refine HC.out.mono ?_;rintro e w2 ⟨a',c',rfl,hown,hb2⟩);go_ret
  exact⟨a',c',rfl,hown,hb2⟩)
 have HW:=ay h1.wf;have H3:=ay h3;clear h1 HC h3;go_enter Tryz.func93,Tryz.ntmps93;go_wp2_with (go_at_call 139;refine HP.out.mono ?_;rintro e w2 ⟨a',c',rfl,hown,hb2⟩);go_ret;exact⟨w2.heap.size,rfl,⟨_,ml,⟨HW.out,aX _ _,own_below hown (aA w2 _)⟩,h2,H3.out⟩,hb2.size,hb2.alloc hb2.size _⟩
theorem abv (w:World):Calls Tryz.prog 47 #[] w λe w'=>e=.returned (.pointer (some ⟨w.heap.size,0,none⟩))/\jM w.heap.size w.heap.size (λ_=>none) 0 w'/\Below w.heap.size w w':=by
 go_enter Tryz.func47,Tryz.ntmps47;go_wp2;go_ret;exact⟨rfl,⟨_,[],⟨xR.nil 1,aX _ _,World.ownsRow_nil _ _ _ _⟩,bD _,λ_=>rfl⟩,aA _ _⟩
structure IU where
 pi:Value
 pd:Value
 fs:Value
def gu (C:IU)(cb:Nat)(f:Fl)(w:World):Prop:=w.heap[cb]?=some (.cells #[C.pi,C.pd,C.fs,.int .i64 (DZ f),.int .i64 (F8 f)] 100 (0,0))
theorem gu.lt {C:IU}(h:gu C cb f w):cb<w.heap.size:=(bP h).1
theorem gu.below {C:IU}(h:gu C cb f w)(hb:Below w.heap.size w w'):gu C cb f w':=(hb.block cb h.lt).trans h
theorem gu.cells {C:IU}(h:gu C cb f w):(w.cell? ⟨cb,3,none⟩=some (.int .i64 (DZ f))/\w.cell? ⟨cb,4,none⟩=some (.int .i64 (F8 f)))/\w.frozen? ⟨cb,3,none⟩=false/\w.frozen? ⟨cb,4,none⟩=false:=by
 refine⟨⟨?_,?_⟩,by rw[gu] at h;simp[World.frozen?,h],by rw[gu] at h;simp[World.frozen?,h]⟩
 all_goals (rw[aZ h];rfl)
theorem gu.put {C:IU}(h:gu C cb f w)(e a:Int):gu C cb (some (e,a)) ((w.setCell ⟨cb,3,none⟩ (.int .i64 e)).setCell ⟨cb,4,none⟩ (.int .i64 a)):=jN _ cb 4 _ _ _ (jN w cb 3 _ _ _ h)
def Uj (C:IU)(cb:Nat)(f:Fl)(w:World)(r:Ending)(w':World):Prop:=r=.returned (.tuple #[])/\gu C cb f w'/\aO cb w w'
def LW (C:IU)(cb:Nat)(v:Int × Fl)(w:World)(r:Ending)(w':World):Prop:=r=.returned (.int .i64 v.1)/\gu C cb v.2 w'/\aO cb w w'
theorem abw (C:IU)(cb:Nat)(f:Fl)(w:World)(h:gu C cb f w)(hf:bq f):Calls Tryz.prog 52 #[.pointer (some ⟨cb,0,none⟩)] w λe w'=>e=.returned (.bool f.isNone)/\w'=w:=by
 obtain⟨⟨c3,c4⟩,-,-⟩:=h.cells
 have hq:((DZ f) == 0)=f.isNone:=by
  cases f with
  | none=>rfl
  | some x=>exact Ea.2 (hf x rfl)
 clear h hf c4;generalize f.isNone=b at *;generalize DZ f=e at *;go_enter Tryz.func52,Tryz.ntmps52;go_wp2;go_ret;exact⟨rfl,rfl⟩
theorem Uk (C:IU)(cb:Nat)(f:Fl)(w:World)(h:gu C cb f w)(hf:bq f):Calls Tryz.prog 48 #[.pointer (some ⟨cb,0,none⟩)] w (Uj C cb (kY f (some (10,0))) w):=by
 obtain⟨⟨c3,c4⟩,z3,z4⟩:=h.cells;have HK:=ay (abw C cb f w h hf);have HP:=ay (h.put 10 0);have H:=ay h;clear h hf
 cases f with
 | none =>
  go_enter Tryz.func48,Tryz.ntmps48;go_wp2_with (go_at_call 52;refine HK.out.mono ?_;rintro e w1 ⟨rfl,rfl⟩)
  go_end0
  exact⟨rfl,HP.out,(aO.set _ 3 _).trans (aO.set _ 4 _)⟩
 | some x =>
  clear c3 c4;go_enter Tryz.func48,Tryz.ntmps48;go_wp2_with (go_at_call 52;refine HK.out.mono ?_;rintro e w1 ⟨rfl,rfl⟩)
  go_end0
  exact⟨rfl,H.out,aO.refl _ _⟩
theorem vg (C:IU)(cb:Nat)(f:Fl)(op:Int)(NM MD:ByteArray)(ng ys:Bool)(mv kv:Value)(a_ b want:Int)(w:World)(h:gu C cb f w)(hf:bq f) :
  Calls Tryz.prog 71 #[.pointer (some ⟨cb,0,none⟩),.agg (aR op NM MD ng mv ys kv a_),.int .i64 b,.int .i64 want] w (Uj C cb (lg f a_ b want) w):=by
 have hal:=aA w (.cells (aR op NM MD ng mv ys kv a_) 60);have g0:=aX w (.cells (aR op NM MD ng mv ys kv a_) 60);have h1:=h.below hal;have hk:=aO.of hal h.lt;clear h;go_enter Tryz.func71,Tryz.ntmps71
 go_upto_region 1 with fail
 change Code.wp _ _ _ _ (w.alloc _);generalize w.alloc _=w1 at *;have HK:=ay (abw C cb f w1 h1 hf);have HP:=ay (h1.put 34 a_);have H:=ay h1;obtain⟨⟨c3,c4⟩,z3,z4⟩:=h1.cells;obtain⟨-,-,-,-,-,-,-,y7⟩:=aI g0;clear g0 h1 hal
 cases f with
 | none =>
  by_cases hb:b=want
  ·have hbI:(b != want)=false:=by simp[hb]
   have HE:Hid (lg none a_ b want=none):=ay (by rw[lg,bR hb];rfl);clear hb;go_wp2_with (go_at_call 52;refine HK.out.mono ?_;rintro e w2 ⟨rfl,rfl⟩)
   go_end0
   exact⟨rfl,by rw[HE.out];exact H.out,hk⟩
  ·have hbI:(b != want)=true:=bne_iff_ne.2 hb
   have HE:Hid (lg none a_ b want=some (34,a_)):=ay (by rw[lg,aU hb];rfl);clear hb;go_wp2_with (go_at_call 52;refine HK.out.mono ?_;rintro e w2 ⟨rfl,rfl⟩)
   go_end0
   exact⟨rfl,by rw[HE.out];exact HP.out,hk.trans ((aO.set _ 3 _).trans (aO.set _ 4 _))⟩
 | some x =>
  clear c3 c4;go_wp2_with (go_at_call 52;refine HK.out.mono ?_;rintro e w2 ⟨rfl,rfl⟩)
  go_end0
  exact⟨rfl,H.out,hk⟩
theorem ac9 (C:IU)(cb B mb n:Nat)(g:dM)(op:Int)(nm MD:aH)(ng ys:Bool)(mv kv:Value)(a_:Int)(w:World)(h:gu C cb none w)(hg:jM B mb g n w)(hn:n<=1000000) :
  Calls Tryz.prog 89 #[.pointer (some ⟨cb,0,none⟩),.agg (aR op ⟨nm.toArray⟩ ⟨MD.toArray⟩ ng mv ys kv a_),.pointer (some ⟨mb,0,none⟩)] w (LW C cb (Am g nm) w):=by
 have hal:=aA w (.cells (aR op ⟨nm.toArray⟩ ⟨MD.toArray⟩ ng mv ys kv a_) 60);have g0:=aX w (.cells (aR op ⟨nm.toArray⟩ ⟨MD.toArray⟩ ng mv ys kv a_) 60);have h1:=h.below hal;have hg1:=hg.below hal;have hk:=aO.of hal h.lt;clear h hg;go_enter Tryz.func89,Tryz.ntmps89
 go_upto_region 1 with fail
 change Code.wp _ _ _ _ (w.alloc _);generalize w.alloc _=w1 at *;have HG:=ay (abq B mb n g nm w1 hg1 hn);have H:=ay h1;obtain⟨-,y1,-⟩:=aI g0;clear g0 h1 hal hg1
 cases hq:g nm with
 | some b =>
  rw[hq] at HG;simp only[Option.getD_some,Option.isSome_some] at HG;have HN:Hid (Am g nm=(b,none)):=ay (by rw[Am,hq]);clear hq;go_wp2_with (go_at_call 138;refine HG.out.mono ?_;rintro e w2 ⟨rfl,hb2⟩);go_ret;exact⟨by rw[HN.out];rfl,by rw[HN.out];exact H.out.below hb2,hk.trans (aO.of hb2 H.out.lt)⟩
 | none =>
  rw[hq] at HG;simp only[Option.getD_none,Option.isSome_none] at HG;have HN:Hid (Am g nm=(0,some (10,0))):=ay (by rw[Am,hq]);clear hq;go_wp2_with (first|(go_at_call 138;refine HG.out.mono ?_;rintro e w2 ⟨rfl,hb2⟩)|(go_at_call 48;refine(Uk C cb none _ (H.out.below hb2) bq.none).mono ?_;rintro e w3 ⟨rfl,h3,eP⟩));go_ret;exact⟨by rw[HN.out];rfl,by rw[HN.out];exact h3,(hk.trans (aO.of hb2 H.out.lt)).trans eP⟩
