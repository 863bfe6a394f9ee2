/- Walks and plain laws: ScopeAncW, MadePlain, RenPlain, UsedW, LetsW, RenW, LexAhead, HeadX, RenLaw1, DefCells, RenRow. -/
import Derived.Test.YtmhdgeekclhbbaaGreatDoorR21
set_option maxHeartbeats 16000000
set_option maxRecDepth 100000
set_option linter.unusedVariables false
set_option linter.unusedSimpArgs false
namespace Go.Proofs.YtmhdgeekclhbbaaGreatDoor
open Go.RowKit Go
def Ao (z:ZP)(w:World)(e:Ending)(w':World):Prop :=
 ∃ ai ci ad cd,e=.returned (.tuple #[.agg #[.slice ai z.aG.length ci,.slice ad z.defs.length cd],.bool true])∧Below w.heap.size w w'∧gF Py w.heap.size 66 w' (.slice ad z.defs.length cd) z.defs
theorem Li.z {p:PP}{w:World}{e:Ending}{w':World}(h:Li p w e w'):Ao p.z w e w':=by
 obtain⟨ai,ci,ad,cd,h1,h2,h3,h4⟩:=h;have e1:p.z.aG.length=p.aG.length:=List.length_map _;have e2:p.z.defs.length=p.defs.length:=List.length_map _;refine⟨ai,ci,ad,cd,by rw[e1,e2];exact h1,h3,?_⟩;rw[e2];exact ab4 h4
theorem BP (s:ByteArray)(w:World)(hs:s.size≤65536)(ah:List Tok)(aj:List Nd)(p:kW)(h:je s.data.toList 60=.good ah aj)(F:nY s.data.toList ah aj p) :
  Calls Tryz.prog 17 #[.string s] w (Ao (p.pp ah).z w):=(Lj s w hs ah aj p h F).mono fun _ _ h=>h.z
theorem gF.adZ {α β:Type}{K:RK α β}{C e:Nat}{w:World}{v:Value}{zs:List α}(h:gF K C e w v zs):RowK K (fun b=>b<w.heap.size) w v zs:=h.row.imp fun b _ hl=>hl
theorem kU (w:World):Calls Tryz.prog 16 #[] w fun r w'=>r=.returned (.bool true)∧Below w.heap.size w w':=by
 have t1:(ByteArray.mk #[102,117,110,32,102,40,120,58,105,110,116,41,58,105,110,116,61,121,59]).data.toList=anS 121:=rfl;have HR1:=ay (fun W=>BP ⟨#[102,117,110,32,102,40,120,58,105,110,116,41,58,105,110,116,61,121,59]⟩ W (by decide) (W9 121) (TT.pt.em 0 0) TT (by rw[t1];exact OX) (by rw[t1];exact OZ));have t2:(ByteArray.mk #[102,117,110,32,102,40,120,58,105,110,116,41,58,105,110,116,61,120,59]).data.toList=anS 120:=rfl;have HR2:=ay (fun W=>BP ⟨#[102,117,110,32,102,40,120,58,105,110,116,41,58,105,110,116,61,120,59]⟩ W (by decide) (W9 120) (TT.pt.em 0 0) TT (by rw[t2];exact OY) (by rw[t2];exact O1))
 have HC:Hid (∀ (p:kW) (ah:List Tok) (aj:List Nd) (S:List UInt8) (c:UInt8) (f:Fl),nY S ah aj p→S.length≤1000→(p.pp ah).z=anZ c→(anZ c).check [109] []=f→∀ (ai:Option Addr) (ci:Nat) (ad:Option Addr) (cd:Nat) (W:World),RowK Py (fun b=>b<W.heap.size) W (.slice ad 1 cd) (anZ c).defs →
   Calls Tryz.prog 21 #[.string ⟨#[109]⟩,.agg #[.slice ai 0 ci,.slice ad 1 cd],.slice none 0 0] W fun e w'=>e=.returned (.agg #[.int .i64 (flE f),.int .i64 (flA f)])∧Below W.heap.size W w'):=ay fun p ah aj S c f F hS hz hf ai ci ad cd W hD=>by
  have h:=yU [109] (anZ c) ai ci ad cd none 0 [] W rfl (by rw[← hz];exact(F.mid (by omega)).tV) (by decide) hD (RowK.nil _ _ _) ⟨by decide,fun m hm=>by cases hm⟩;rw[hf] at h;exact h
 have J6:=ay (HC.out TT (W9 121) _ _ 121 (some (31,17)) OZ (by decide) (adS _) Wt);have zB:=ay (HC.out TT (W9 120) _ _ 120 none O1 (by decide) (adS _) Wu);rw[adS] at HR1 HR2;clear HC t1 t2;go_enter Tryz.func16,Tryz.ntmps16
 go_upto_region 2 with (go_at_call 17;refine(HR1.out _).mono ?_;rintro r w1 ⟨ai1,ci1,ad1,cd1,rfl,hb1,ho1⟩)
 have g1:=aY w1 (.cells #[.slice ai1 0 ci1,.slice ad1 1 cd1] 26);have hb2:=hb1.alloc hb1.size (.cells #[.slice ai1 0 ci1,.slice ad1 1 cd1] 26);have ho2:=ho1.below (aB w1 (.cells #[.slice ai1 0 ci1,.slice ad1 1 cd1] 26))
 have hl2:w1.heap.size<(w1.alloc (.cells #[.slice ai1 0 ci1,.slice ad1 1 cd1] 26)).heap.size:=by simp
 change Code.wp _ _ _ _ (w1.alloc (.cells #[.slice ai1 0 ci1,.slice ad1 1 cd1] 26));clear hb1 ho1 HR1;generalize w1.alloc _=w2 at g1 hb2 ho2 hl2 ⊢;generalize w1.heap.size=q1 at g1 hl2 ⊢
 go_upto_region 3 with (go_at_call 17;refine(HR2.out _).mono ?_;rintro r w3 ⟨ai2,ci2,ad2,cd2,rfl,hb3,ho3⟩)
 have g2:=aY w3 (.cells #[.slice ai2 0 ci2,.slice ad2 1 cd2] 26);have hb4:=hb3.alloc hb3.size (.cells #[.slice ai2 0 ci2,.slice ad2 1 cd2] 26);have MR:=ho3.below (aB w3 (.cells #[.slice ai2 0 ci2,.slice ad2 1 cd2] 26))
 have hl4:w3.heap.size<(w3.alloc (.cells #[.slice ai2 0 ci2,.slice ad2 1 cd2] 26)).heap.size:=by simp
 change Code.wp _ _ _ _ (w3.alloc (.cells #[.slice ai2 0 ci2,.slice ad2 1 cd2] 26));clear hb3 ho3 HR2;generalize w3.alloc _=w4 at g2 hb4 MR hl4 ⊢;generalize w3.heap.size=q2 at g2 hl4 ⊢;have g14:=(hb4.block q1 hl2).trans g1;have hbw:=hb2.trans (hb4.mono hb2.size);have HA1:=ay (J6.out ai1 ci1 ad1 cd1 w4 (ho2.below hb4).adZ);have HA2:Hid (∀ W,Below w4.heap.size w4 W→_):=ay (fun W hW=>zB.out ai2 ci2 ad2 cd2 W (MR.below hW).adZ);obtain⟨a0,a1,-⟩:=aU g14;obtain⟨d0,d1,-⟩:=aU g2;clear g1 g14 g2 ho2 MR hb2 hb4 J6 zB;go_wp2_with (first|(go_at_call 21;refine(HA2.out _ hb5).mono ?_;rintro r w6 ⟨rfl,hb6⟩)|(go_at_call 21;refine HA1.out.mono ?_;rintro r w5 ⟨rfl,hb5⟩;have d0:=(hb5.cell (p:=⟨q2,0,none⟩) hl4).trans d0;have d1:=(hb5.cell (p:=⟨q2,1,none⟩) hl4).trans d1));go_ret;exact⟨rfl,hbw.trans ((hb5.trans (hb6.mono hb5.size)).mono hbw.size)⟩
theorem oO (s:ByteArray)(w:World)(hs:s.size≤65536):Calls Tryz.prog 11 #[.string s] w fun r w'=>r=.returned (.bool (bf s.data.toList))∧Below w.heap.size w w':=by
 have HP:=ay (fun W=>Qo s W (by omega));go_enter Tryz.func11,Tryz.ntmps11;go_wp2_with (go_at_call 38;refine(HP.out _).mono ?_;rintro r w2 ⟨rfl,hb2⟩);go_ret;exact⟨rfl,hb2⟩
end Go.Proofs.YtmhdgeekclhbbaaGreatDoor

namespace Go.Proofs.YtmhdgeekclhbbaaGreatDoor
mutual
def PZ.j6 (nm:List UInt8):PZ→Bool
 | .mk _ n _ _ _ aA _=>decide (n=nm) || jM nm aA
def jM (nm:List UInt8):List PZ→Bool
 | []=>false
 | e :: l=>e.j6 nm || jM nm l
end
mutual
def PZ.pI (nm:List UInt8):PZ→Bool
 | .mk op n _ _ _ aA _=>(decide (op=22) && decide (n=nm)) || kQ nm aA
def kQ (nm:List UInt8):List PZ→Bool
 | []=>false
 | e :: l=>e.pI nm || kQ nm l
end
def pY (nm:List UInt8)(op:Int)(n:List UInt8):List UInt8:=if op=3∧n=[120] then nm else n
mutual
def PZ.ren (nm:List UInt8):PZ→PZ
 | .mk op n md num yes aA a=>.mk op (pY nm op n) md num yes (ug nm aA) a
def ug (nm:List UInt8):List PZ→List PZ
 | []=>[]
 | e :: l=>e.ren nm :: ug nm l
end
theorem uh (nm:List UInt8):∀ l:List PZ,ug nm l=l.map (PZ.ren nm)
 | []=>rfl
 | e :: l=>by rw[ug,uh nm l];rfl
theorem PZ.WB (nm:List UInt8)(e:PZ):e.j6 nm=(decide (e.name=nm) || jM nm e.aA):=by cases e;rw[PZ.j6];rfl
theorem PZ.WC (nm:List UInt8)(e:PZ):e.pI nm=((decide (e.op=22) && decide (e.name=nm)) || kQ nm e.aA):=by cases e;rw[PZ.pI];rfl
theorem PZ.Ll (nm:List UInt8)(e:PZ):e.ren nm=.mk e.op (pY nm e.op e.name) e.module e.num e.yes (e.aA.map (PZ.ren nm)) e.at_:=by cases e;rw[PZ.ren,uh];rfl
theorem CP (nm:List UInt8)(e:PZ):∀ l:List PZ,jM nm (l++[e])=(jM nm l || e.j6 nm)
 | []=>by simp[jM]
 | x :: l=>by rw[jN,jM,jM,CP nm e l,Bool.or_assoc]
theorem Pk (nm:List UInt8){l:List PZ}{k:Nat}(h:k<l.length):jM nm (l.take (k+1))=(jM nm (l.take k) || l[k].j6 nm):=by
 rw[Dg h,CP]
theorem Gv {nm:List UInt8}:∀ {l:List PZ} {e:PZ},e∈l→e.j6 nm=true→jM nm l=true
 | x :: l,e,h,he=>by
  rw[jM,Bool.or_eq_true]
  rcases List.mem_cons.1 h with rfl|h
  ·exact .inl he
  ·exact .inr (Gv h he)
theorem CQ (nm:List UInt8)(e:PZ):∀ l:List PZ,kQ nm (l++[e])=(kQ nm l || e.pI nm)
 | []=>by simp[kQ]
 | x :: l=>by rw[jN,kQ,kQ,CQ nm e l,Bool.or_assoc]
theorem Pm (nm:List UInt8){l:List PZ}{k:Nat}(h:k<l.length):kQ nm (l.take (k+1))=(kQ nm (l.take k) || l[k].pI nm):=by
 rw[Dg h,CQ]
theorem Gw {nm:List UInt8}:∀ {l:List PZ} {e:PZ},e∈l→e.pI nm=true→kQ nm l=true
 | x :: l,e,h,he=>by
  rw[kQ,Bool.or_eq_true]
  rcases List.mem_cons.1 h with rfl|h
  ·exact .inl he
  ·exact .inr (Gw h he)
mutual
theorem PZ.WE {nm:List UInt8}:∀ e:PZ,e.j6 nm=false→e.pI nm=false
 | .mk op n md num yes aA a,h=>by
  rw[PZ.j6,Bool.or_eq_false_iff] at h;rw[PZ.pI,h.1,Gx aA h.2,Bool.and_false]
  rfl
theorem Gx {nm:List UInt8}:∀ l:List PZ,jM nm l=false→kQ nm l=false
 | [],_=>rfl
 | e :: l,h=>by
  rw[jM,Bool.or_eq_false_iff] at h;rw[kQ,PZ.WE e h.1,Gx l h.2]
  rfl
end
theorem Lm (x y:List UInt8):(x == y)=decide (x=y):=by
 by_cases h:x=y
 ·subst h;simp
 ·rw[dA h];exact BU.2 h
def RB (nm:List UInt8)(bd Ac:List (List UInt8)):Prop:=[120]∈bd∧nm∈Ac∧∀ y,y≠[120]→y≠nm→(y∈bd↔y∈Ac)
theorem RB.step {nm n:List UInt8}{bd Ac:List (List UInt8)}(h:RB nm bd Ac):RB nm (fH (bd++[n])) (fH (Ac++[n])):=by
 refine⟨oQ.2 (List.mem_append_left _ h.1),oQ.2 (List.mem_append_left _ h.2.1),fun y h1 h2=>?_⟩;rw[oQ,oQ,List.mem_append,List.mem_append,h.2.2 y h1 h2]
theorem Pn {nm n:List UInt8}{op:Int}(h:op≠3):pY nm op n=n:=if_neg fun q=>h q.1
theorem aaK {nm n:List UInt8}{op:Int}{bd Ac:List (List UInt8)}(h:RB nm bd Ac)(i:Nat):RB nm (Fu op n bd i) (Fu op (pY nm op n) Ac i):=by
 unfold Fu
 by_cases q:op=22∧i=1
 ·rw[if_pos q,if_pos q,Pn (by omega)]
  exact h.step
 ·rw[if_neg q,if_neg q];exact h
theorem Sj {E:SE}{nm n md:List UInt8}{op a:Int}{bd Ac:List (List UInt8)}{res:Bool}{k:Nat}(h:RB nm bd Ac)(hn:n≠nm):qQ E Ac res op (pY nm op n) md k a=qQ E bd res op n md k a:=by
 unfold qQ
 by_cases h3:op=3
 ·subst h3
  by_cases hx:n=[120]
  ·subst hx
   have hr:pY nm 3 [120]=nm:=if_pos ⟨rfl,rfl⟩;rw[hr];simp[h.1,h.2.1]
  ·have hr:pY nm 3 n=n:=if_neg fun q=>hx q.2
   rw[hr];simp[h.2.2 n hx hn]
 ·rw[Pn h3]
  simp[h3]
mutual
theorem PZ.Jw {E:SE}{nm:List UInt8}{res:Bool}:∀ (e:PZ) {bd Ac:List (List UInt8)},RB nm bd Ac→e.j6 nm=false→(e.ren nm).eO E Ac res=e.eO E bd res
 | .mk op n md num yes aA a,bd,Ac,h,hu=>by
  rw[PZ.j6,Bool.or_eq_false_iff,decide_eq_false_iff_not] at hu;rw[PZ.ren,PZ.eO,PZ.eO,Sj h hu.1,Gy op n aA 0 h hu.2,uh,List.length_map]
theorem Gy {E:SE}{nm:List UInt8}{res:Bool}(op:Int)(n:List UInt8):∀ (l:List PZ) (i:Nat) {bd Ac:List (List UInt8)},RB nm bd Ac→jM nm l=false→dY E op (pY nm op n) Ac res i (ug nm l)=dY E op n bd res i l
 | [],i,bd,Ac,h,hu=>by rw[ug,dY,dY]
 | e :: l,i,bd,Ac,h,hu=>by
  rw[jM,Bool.or_eq_false_iff] at hu;rw[ug,dY,dY,PZ.Jw e (aaK h i) hu.1,Gy op n l (i+1) h hu.2]
end
theorem TY:bf [120]=true:=by kernel_rfl
mutual
theorem PZ.Jy {nm:List UInt8}(hn:bf nm=true)(fm:Bool):∀ e:PZ,(e.ren nm).right fm=e.right fm
 | .mk op n md num yes aA a=>by
  have h:kY op (pY nm op n) md=kY op n md:=by
   by_cases q:op=3∧n=[120]
   ·rw[pY,if_pos q]
    obtain⟨rfl,rfl⟩:=q;simp[kY,hn,TY]
   ·rw[pY,if_neg q]
  rw[PZ.ren,PZ.right,PZ.right,Gz hn fm aA,uh,List.length_map,Iq,Iq,h]
theorem Gz {nm:List UInt8}(hn:bf nm=true)(fm:Bool):∀ l:List PZ,j3 fm (ug nm l)=j3 fm l
 | []=>rfl
 | e :: l=>by rw[ug,j3,j3,PZ.Jy hn fm e,Gz hn fm l]
end
def ZD.ren (nm:List UInt8)(d:ZD):ZD:={ d with params:=d.params.map fun f=>{ f with name:=nm },body:=d.body.ren nm }
theorem WG {own nm:List UInt8}{ms:List (List UInt8)}{d:ZD}{f:ZF}(hp:d.params=[f])(hx:f.name=[120])(hc:f.aC=[])(hr:d.res.aC=[])(hn:bf nm=true)(hu:d.body.j6 nm=false) :
  ZP.check ⟨[],[d.ren nm]⟩ own ms=ZP.check ⟨[],[d]⟩ own ms:=by
 obtain⟨pub,ps,res,body⟩:=d;obtain⟨rn,rb,rc,ra,rbr⟩:=res;obtain⟨fn,fb,fc,fa,fbr⟩:=f;simp only at hp hx hc hr hu;subst hp hx hc hr
 have hs:(ZD.ren nm ⟨pub,[⟨[120],fb,[],fa,fbr⟩],⟨rn,rb,[],ra,rbr⟩,body⟩).sound=ZD.sound ⟨pub,[⟨[120],fb,[],fa,fbr⟩],⟨rn,rb,[],ra,rbr⟩,body⟩:=by
  simp only[ZD.ren,ZD.sound,ZF.right,List.map_cons,List.map_nil,List.any_cons,List.any_nil,dR,gX,PZ.Jy hn,hn,TY]
 have hri:ZP.right ⟨[],[ZD.ren nm ⟨pub,[⟨[120],fb,[],fa,fbr⟩],⟨rn,rb,[],ra,rbr⟩,body⟩]⟩=ZP.right ⟨[],[⟨pub,[⟨[120],fb,[],fa,fbr⟩],⟨rn,rb,[],ra,rbr⟩,body⟩]⟩:=by
  rw[ZP.right,ZP.right,List.all_cons,List.all_cons,hs]
  rfl
 have ha:gQ [ZD.ren nm ⟨pub,[⟨[120],fb,[],fa,fbr⟩],⟨rn,rb,[],ra,rbr⟩,body⟩]=gQ [⟨pub,[⟨[120],fb,[],fa,fbr⟩],⟨rn,rb,[],ra,rbr⟩,body⟩]:=by
  funext x
  unfold gQ
  by_cases h:rn=x
  ·rw[List.find?_cons_of_pos (by exact iX h),List.find?_cons_of_pos (by exact iX h)]
   rfl
  ·rw[List.find?_cons_of_neg (by show ¬ decide (rn=x)=true;rw[dA h];decide),List.find?_cons_of_neg (by show ¬ decide (rn=x)=true;rw[dA h];decide)]
 have hB:RB nm (fH ([]++[[120]])) (fH ([]++[nm])):=⟨oQ.2 (by simp),oQ.2 (by simp),fun y h1 h2=>by rw[oQ,oQ];simp[h1,h2]⟩
 have hf:∀ face ext,ZP.eO ⟨[],[ZD.ren nm ⟨pub,[⟨[120],fb,[],fa,fbr⟩],⟨rn,rb,[],ra,rbr⟩,body⟩]⟩ own face ext=ZP.eO ⟨[],[⟨pub,[⟨[120],fb,[],fa,fbr⟩],⟨rn,rb,[],ra,rbr⟩,body⟩]⟩ own face ext:=fun face ext=>by
  rw[ZP.eO,ZP.eO,ZP.se,ZP.se];simp only;rw[ha];simp only[sG,Aa,jl,ZD.ren,List.map_cons,List.map_nil,lC,bZ,List.not_mem_nil,if_false];rw[PZ.Jw body hB hu]
 rw[ZP.check,ZP.check,hri,hf]
end Go.Proofs.YtmhdgeekclhbbaaGreatDoor

namespace Go.Proofs.YtmhdgeekclhbbaaGreatDoor
open Go.RowKit Go
def BQ (f:FuncId)(p:PZ→Bool)(nm:List UInt8)(x:PZ):Prop:=∀ (B:Nat) (am:Option Addr) (wn cm:Nat) (ae:Option Addr) (ce:Nat) (w:World),nL YA (fun b=>b<B) w (.slice am wn cm) (.slice ae x.aA.length ce) x→B≤w.heap.size →
 Calls Tryz.prog f #[.agg #[.int .i64 x.op,.string ⟨x.name.toArray⟩,.string ⟨x.module.toArray⟩,.bool (decide (x.num<0)),.slice am wn cm,.bool x.yes,.slice ae x.aA.length ce,.int .i64 x.at_],.string ⟨nm.toArray⟩] w fun r w'=>r=.returned (.bool (p x))∧Below w.heap.size w w'
theorem WH (nm:List UInt8)(e:PZ)(hn:e.aA.length≤1099511627776)(IH:∀ x∈e.aA,BQ 18 (PZ.j6 nm) nm x):BQ 18 (PZ.j6 nm) nm e:=by
 intro B am wn cm ae ce w h hB;have HK:=ay h.Ob;have HI:=ay IH;have HU:=ay (PZ.WB nm e)
 obtain⟨rv,hrv⟩:∃ rv,rv=e.j6 nm:=⟨_,rfl⟩
 rw[← hrv] at HU ⊢;clear h IH hrv;generalize decide (e.num<0)=ng at *;have hbw:=aB w (.cells (aQ e.op ⟨e.name.toArray⟩ ⟨e.module.toArray⟩ ng (.slice am wn cm) e.yes (.slice ae e.aA.length ce) e.at_) 64);have hN:=aY w (.cells (aQ e.op ⟨e.name.toArray⟩ ⟨e.module.toArray⟩ ng (.slice am wn cm) e.yes (.slice ae e.aA.length ce) e.at_) 64);have hcmp:=Lm e.name nm;go_enter Tryz.func18,Tryz.ntmps18
 go_upto_region 1 with fail
 change Code.wp _ _ _ _ (w.alloc (.cells (aQ e.op ⟨e.name.toArray⟩ ⟨e.module.toArray⟩ ng (.slice am wn cm) e.yes (.slice ae e.aA.length ce) e.at_) 64));generalize w.alloc _=w1 at hbw hN ⊢;have hzw:=hbw.size;obtain⟨y0,y1,y2,y3,y4,y5,y6,y7⟩:=aI hN
 by_cases hnm:e.name=nm
 ·rw[iX hnm] at hcmp
  obtain rfl:rv=true:=by rw[HU.out,iX hnm,Bool.true_or]
  clear hnm;go_wp2;go_ret;exact⟨rfl,hbw⟩
 rw[dA hnm] at hcmp;have HU2:Hid (rv=jM nm e.aA):=ay (by rw[HU.out,dA hnm,Bool.false_or]);clear hnm HU;go_wp2
 go_loopw [14] (fun q wr=>∃ k:Nat,k≤e.aA.length∧q=.int .i64 k∧jM nm (e.aA.take k)=false∧Below w1.heap.size w1 wr) (fun q _=>e.aA.length - (intOf q).toNat)
 case atStart=>exact⟨0,lI _,rfl,by rw[List.take_zero];rfl,bI _ _⟩
 case round =>
  obtain⟨k,hk,rfl,hno,hbl⟩:=hrel;have OC:=ay hno;clear hno;have Fv:=hbl.size;have hb0:=hbw.trans (hbl.mono hzw)
  by_cases hkl:k<e.aA.length
  ·obtain⟨b,off,rfl,YD,hbx,kL⟩:=HK.out (by omega)
   obtain⟨Dt,wx,Du,ak,ck,hE,hc⟩:=kL k hkl
   have hal:=fun (o:Obj)=>aB wr o
   have HI1:=ay (fun W (hb:Below w.heap.size w W)=>HI.out _ (mX hkl) B Dt wx Du ak ck W (hE.frame (aW.ru hb (fun b hb=>by omega))) (jc hB hb.size));have x0:=(hb0.cell (p:=⟨b,off+k * 8,none⟩) hbx).trans (hc 0 _ rfl);have x1:=(hb0.cell (p:=⟨b,off+k * 8+1,none⟩) hbx).trans (hc 1 _ rfl);have x2:=(hb0.cell (p:=⟨b,off+k * 8+2,none⟩) hbx).trans (hc 2 _ rfl);have x3:=(hb0.cell (p:=⟨b,off+k * 8+3,none⟩) hbx).trans (hc 3 _ rfl);have x4:=(hb0.cell (p:=⟨b,off+k * 8+4,none⟩) hbx).trans (hc 4 _ rfl);have x5:=(hb0.cell (p:=⟨b,off+k * 8+5,none⟩) hbx).trans (hc 5 _ rfl);have x6:=(hb0.cell (p:=⟨b,off+k * 8+6,none⟩) hbx).trans (hc 6 _ rfl);have x7:=(hb0.cell (p:=⟨b,off+k * 8+7,none⟩) hbx).trans (hc 7 _ rfl);simp only[dJ] at x1 x2;have HT:Hid (jM nm (e.aA.take (k+1))=(e.aA[k].j6 nm)):=ay (by rw[Pk nm hkl,OC.out,Bool.false_or]);have HM:Hid (e.aA[k].j6 nm=true→rv=true):=ay (fun q=>by rw[HU2.out];exact Gv (mX hkl) q)
   have pR:(k:Int)<(e.aA.length:Int):=by omega
   clear kL hc hE y0 y1 y2 y3 y4 y5 y6 y7 hcmp OC hal;generalize e.aA[k]=x at *;generalize SX:decide (x.num<0)=nx at *
   go_upto_region 6 with fail
   have rM:=aB wr (.cells (aQ x.op ⟨x.name.toArray⟩ ⟨x.module.toArray⟩ nx (.slice Dt wx Du) x.yes (.slice ak x.aA.length ck) x.at_) 64);have hY:=aY wr (.cells (aQ x.op ⟨x.name.toArray⟩ ⟨x.module.toArray⟩ nx (.slice Dt wx Du) x.yes (.slice ak x.aA.length ck) x.at_) 64);change Code.wp _ _ _ _ (wr.alloc (.cells (aQ x.op ⟨x.name.toArray⟩ ⟨x.module.toArray⟩ nx (.slice Dt wx Du) x.yes (.slice ak x.aA.length ck) x.at_) 64));clear x0 x1 x2 x3 x4 x5 x6 x7;generalize wr.alloc _=wy at rM hY ⊢;have HC:=ay (HI1.out wy (hb0.trans (rM.mono (by have:=hb0.size;omega))));have Hu:=hbl.trans (rM.mono Fv);obtain⟨u0,u1,u2,u3,u4,u5,u6,u7⟩:=aI hY;have hzy:=rM.size;clear HI1 rM hY hbl SX;generalize x.j6 nm=xb at *
   cases xb with
   | true =>
    obtain rfl:rv=true:=HM.out rfl;go_wp2_with (go_at_call 18;refine HC.out.mono ?_;rintro r w6 ⟨rfl,hb6⟩);go_ret;exact⟨rfl,(hbw.trans (Hu.mono hzw)).trans (hb6.mono (by omega))⟩
   | false =>
    go_wp2_with (go_at_call 18;refine HC.out.mono ?_;rintro r w6 ⟨rfl,hb6⟩)
    go_roundw
    case rel=>exact⟨k+1,by omega,by go_num,HT.out,Hu.trans (hb6.mono (by omega))⟩
    case measure=>simp[intOf];omega
  ·obtain rfl:k=e.aA.length:=by omega
   have pR:decide ((e.aA.length:Int)<(e.aA.length:Int))=false:=dA (by omega)
   obtain rfl:rv=false:=by rw[HU2.out,← OC.out,List.take_length]
   clear OC;go_wp2;go_ret;exact⟨rfl,hb0⟩
theorem Po (nm:List UInt8):∀ (n:Nat) (e:PZ),SizeOf.sizeOf e<n→e.fit→BQ 18 (PZ.j6 nm) nm e
 | 0,_,h,_=>absurd h (by omega)
 | n+1,e,hs,hf=>WH nm e (by have:=(PZ.kT hf).2.2.2.1;omega) fun x hx=>Po nm n x (by have:=e.iT x hx;omega) ((PZ.kT hf).2.2.2.2 x hx)
theorem WI (nm:List UInt8)(e:PZ)(hn:e.aA.length≤1099511627776)(IH:∀ x∈e.aA,BQ 19 (PZ.pI nm) nm x):BQ 19 (PZ.pI nm) nm e:=by
 intro B am wn cm ae ce w h hB;have HK:=ay h.Ob;have HI:=ay IH;have HU:=ay (PZ.WC nm e)
 obtain⟨rv,hrv⟩:∃ rv,rv=e.pI nm:=⟨_,rfl⟩
 rw[← hrv] at HU ⊢;clear h IH hrv;generalize decide (e.num<0)=ng at *;have hbw:=aB w (.cells (aQ e.op ⟨e.name.toArray⟩ ⟨e.module.toArray⟩ ng (.slice am wn cm) e.yes (.slice ae e.aA.length ce) e.at_) 64);have hN:=aY w (.cells (aQ e.op ⟨e.name.toArray⟩ ⟨e.module.toArray⟩ ng (.slice am wn cm) e.yes (.slice ae e.aA.length ce) e.at_) 64);have hcmp:=Lm e.name nm;go_enter Tryz.func19,Tryz.ntmps19
 go_upto_region 1 with fail
 change Code.wp _ _ _ _ (w.alloc (.cells (aQ e.op ⟨e.name.toArray⟩ ⟨e.module.toArray⟩ ng (.slice am wn cm) e.yes (.slice ae e.aA.length ce) e.at_) 64));generalize w.alloc _=w1 at hbw hN ⊢;have hzw:=hbw.size;obtain⟨y0,y1,y2,y3,y4,y5,y6,y7⟩:=aI hN
 have hor:((e.op == 22)=true∧e.op=22∧(e.name == nm)=true∧rv=true)∨(((e.op == 22)=true∧e.op=22∧(e.name == nm)=false∨(e.op == 22)=false)∧rv=kQ nm e.aA):=by
  rw[HU.out]
  by_cases h1:e.op=22
  ·by_cases h2:e.name=nm
   ·left;simp[h1,h2]
   ·right;refine⟨.inl ⟨by simp[h1],h1,by simp[h2]⟩,by simp[h2]⟩
  ·right;exact⟨.inr (by simp[h1]),by simp[h1]⟩
 clear HU hcmp
 rcases hor with ⟨ho,ho2,hcmp,rfl⟩|⟨hor,hu2⟩
 ·rw[ho2] at y0
  clear ho ho2;go_wp2;go_ret;exact⟨rfl,hbw⟩
 have HU2:=ay hu2;clear hu2
 rcases hor with ⟨ho,ho2,hcmp⟩|ho
 rw[ho2] at y0;clear ho ho2
 rotate_left
 have hcmp:=trivial
 rotate_left
 all_goals
  go_wp2
  go_loopw [19] (fun q wr=>∃ k:Nat,k≤e.aA.length∧q=.int .i64 k∧kQ nm (e.aA.take k)=false∧Below w1.heap.size w1 wr) (fun q _=>e.aA.length - (intOf q).toNat)
  case atStart=>exact⟨0,lI _,rfl,by rw[List.take_zero];rfl,bI _ _⟩
  case round =>
   obtain⟨k,hk,rfl,hno,hbl⟩:=hrel;have OC:=ay hno;clear hno;have Fv:=hbl.size;have hb0:=hbw.trans (hbl.mono hzw)
   by_cases hkl:k<e.aA.length
   ·obtain⟨b,off,rfl,YD,hbx,kL⟩:=HK.out (by omega)
    obtain⟨Dt,wx,Du,ak,ck,hE,hc⟩:=kL k hkl
    have hal:=fun (o:Obj)=>aB wr o
    have HI1:=ay (fun W (hb:Below w.heap.size w W)=>HI.out _ (mX hkl) B Dt wx Du ak ck W (hE.frame (aW.ru hb (fun b hb=>by omega))) (jc hB hb.size));have x0:=(hb0.cell (p:=⟨b,off+k * 8,none⟩) hbx).trans (hc 0 _ rfl);have x1:=(hb0.cell (p:=⟨b,off+k * 8+1,none⟩) hbx).trans (hc 1 _ rfl);have x2:=(hb0.cell (p:=⟨b,off+k * 8+2,none⟩) hbx).trans (hc 2 _ rfl);have x3:=(hb0.cell (p:=⟨b,off+k * 8+3,none⟩) hbx).trans (hc 3 _ rfl);have x4:=(hb0.cell (p:=⟨b,off+k * 8+4,none⟩) hbx).trans (hc 4 _ rfl);have x5:=(hb0.cell (p:=⟨b,off+k * 8+5,none⟩) hbx).trans (hc 5 _ rfl);have x6:=(hb0.cell (p:=⟨b,off+k * 8+6,none⟩) hbx).trans (hc 6 _ rfl);have x7:=(hb0.cell (p:=⟨b,off+k * 8+7,none⟩) hbx).trans (hc 7 _ rfl);simp only[dJ] at x1 x2;have HT:Hid (kQ nm (e.aA.take (k+1))=(e.aA[k].pI nm)):=ay (by rw[Pm nm hkl,OC.out,Bool.false_or]);have HM:Hid (e.aA[k].pI nm=true→rv=true):=ay (fun q=>by rw[HU2.out];exact Gw (mX hkl) q)
    have pR:(k:Int)<(e.aA.length:Int):=by omega
    clear kL hc hE y0 y1 y2 y3 y4 y5 y6 y7 hcmp OC hal;generalize e.aA[k]=x at *;generalize SX:decide (x.num<0)=nx at *
    go_upto_region 6 with fail
    have rM:=aB wr (.cells (aQ x.op ⟨x.name.toArray⟩ ⟨x.module.toArray⟩ nx (.slice Dt wx Du) x.yes (.slice ak x.aA.length ck) x.at_) 64);have hY:=aY wr (.cells (aQ x.op ⟨x.name.toArray⟩ ⟨x.module.toArray⟩ nx (.slice Dt wx Du) x.yes (.slice ak x.aA.length ck) x.at_) 64);change Code.wp _ _ _ _ (wr.alloc (.cells (aQ x.op ⟨x.name.toArray⟩ ⟨x.module.toArray⟩ nx (.slice Dt wx Du) x.yes (.slice ak x.aA.length ck) x.at_) 64));clear x0 x1 x2 x3 x4 x5 x6 x7;generalize wr.alloc _=wy at rM hY ⊢;have HC:=ay (HI1.out wy (hb0.trans (rM.mono (by have:=hb0.size;omega))));have Hu:=hbl.trans (rM.mono Fv);obtain⟨u0,u1,u2,u3,u4,u5,u6,u7⟩:=aI hY;have hzy:=rM.size;clear HI1 rM hY hbl SX;generalize x.pI nm=xb at *
    cases xb with
    | true =>
     obtain rfl:rv=true:=HM.out rfl;go_wp2_with (go_at_call 19;refine HC.out.mono ?_;rintro r w6 ⟨rfl,hb6⟩);go_ret;exact⟨rfl,(hbw.trans (Hu.mono hzw)).trans (hb6.mono (by omega))⟩
    | false =>
     go_wp2_with (go_at_call 19;refine HC.out.mono ?_;rintro r w6 ⟨rfl,hb6⟩)
     go_roundw
     case rel=>exact⟨k+1,by omega,by go_num,HT.out,Hu.trans (hb6.mono (by omega))⟩
     case measure=>simp[intOf];omega
   ·obtain rfl:k=e.aA.length:=by omega
    have pR:decide ((e.aA.length:Int)<(e.aA.length:Int))=false:=dA (by omega)
    obtain rfl:rv=false:=by rw[HU2.out,← OC.out,List.take_length]
    clear OC;go_wp2;go_ret;exact⟨rfl,hb0⟩
theorem Pp (nm:List UInt8):∀ (n:Nat) (e:PZ),SizeOf.sizeOf e<n→e.fit→BQ 19 (PZ.pI nm) nm e
 | 0,_,h,_=>absurd h (by omega)
 | n+1,e,hs,hf=>WI nm e (by have:=(PZ.kT hf).2.2.2.1;omega) fun x hx=>Pp nm n x (by have:=e.iT x hx;omega) ((PZ.kT hf).2.2.2.2 x hx)
theorem Tryz.WJ:∀ args w,(callFunc 20 args).run Tryz.prog w=.ok (.enter 20 args) w:=Go.Proofs.enters_of Tryz.func20 (by kernel_rfl) rfl
theorem WK {S:l6}{P:Nat→Prop}{w:World}{kv:Value}{zs:List PZ}(h:RowK (ZK S) P w kv zs):∃ l,nV P w kv S.sz zs.length (xP S zs l)∧jg S P w l zs:=by
 obtain⟨l,rfl,h2,h3⟩:=h
 have e1:∀ l:List (PZ × (Value × Value)),(ZK S).flat l=xP S (l.map Prod.fst) (l.map Prod.snd):=by
  intro l
  induction l with
  | nil=>rfl
  | cons p l ih =>
   rw[List.map_cons,List.map_cons,xP,← ih]
   rfl
 have e2:∀ l:List (PZ × (Value × Value)),(∀ p∈l,(ZK S).inn P w p.1 p.2)→jg S P w (l.map Prod.snd) (l.map Prod.fst):=by
  intro l
  induction l with
  | nil=>intro _;rw[List.map_nil,List.map_nil,jg]
  | cons p l ih =>
   intro h;rw[List.map_cons,List.map_cons,jg];exact⟨p.2,l.map Prod.snd,rfl,h p vB,ih fun q hq=>h q (wM _ hq)⟩
 exact⟨l.map Prod.snd,by rw[← e1];exact h2,e2 l h3⟩
def afN (w:World)(b:Nat)(v0 v1 v2 v3 v4 v5 v6 v7:Value):World :=
 ((((((((w.setCell ⟨b,0,none⟩ v0).setCell ⟨b,1,none⟩ v1).setCell ⟨b,2,none⟩ v2).setCell ⟨b,3,none⟩ v3).setCell ⟨b,4,none⟩ v4).setCell ⟨b,5,none⟩ v5).setCell ⟨b,6,none⟩ v6).setCell ⟨b,7,none⟩ v7)
theorem aaL (P:Nat→Prop)(w:World)(b:Nat)(v0 v1 v2 v3 v4 v5 v6 v7:Value)(hP:∀ k,P k→k≠b):aW P w (afN w b v0 v1 v2 v3 v4 v5 v6 v7):=by
 have hs:∀ (W:World) (j:Nat) (u:Value),aW P W (W.setCell ⟨b,j,none⟩ u):=fun W j u=>aW.set u hP
 exact(((((((hs _ _ _).trans (hs _ _ _)).trans (hs _ _ _)).trans (hs _ _ _)).trans (hs _ _ _)).trans (hs _ _ _)).trans (hs _ _ _)).trans (hs _ _ _)
theorem Sk {B:Nat}{w0 w:World}(h:Below B w0 w){b:Nat}(hb:B≤b)(v0 v1 v2 v3 v4 v5 v6 v7:Value):Below B w0 (afN w b v0 v1 v2 v3 v4 v5 v6 v7) :=
 (((((((h.setCell hb _).setCell hb _).setCell hb _).setCell hb _).setCell hb _).setCell hb _).setCell hb _).setCell hb _
theorem WL (P:Nat→Prop)(w:World):aW P w w.drew:=⟨bD _,fun _ _ _=>rfl⟩
def RnP (op:Int)(NM MD:ByteArray)(ng:Bool)(mv:Value)(ys:Bool)(n:Nat)(a:Int)(xr:PZ)(B:Nat)(w:World)(r:Ending)(w':World):Prop :=
 ∃ ak ck,r=.returned (.agg #[.int .i64 op,.string NM,.string MD,.bool ng,mv,.bool ys,.slice ak n ck,.int .i64 a])∧nL YA (fun b=>b<B∨w.heap.size≤b) w' mv (.slice ak n ck) xr∧Below w.heap.size w w'
def Sm (nm:List UInt8)(x:PZ):Prop:=∀ (B:Nat) (am:Option Addr) (wn cm:Nat) (ae:Option Addr) (ce:Nat) (w:World),nL YA (fun b=>b<B) w (.slice am wn cm) (.slice ae x.aA.length ce) x→B≤w.heap.size →
 Calls Tryz.prog 20 #[.agg #[.int .i64 x.op,.string ⟨x.name.toArray⟩,.string ⟨x.module.toArray⟩,.bool (decide (x.num<0)),.slice am wn cm,.bool x.yes,.slice ae x.aA.length ce,.int .i64 x.at_],.string ⟨nm.toArray⟩] w (RnP x.op ⟨(pY nm x.op x.name).toArray⟩ ⟨x.module.toArray⟩ (decide (x.num<0)) (.slice am wn cm) x.yes x.aA.length x.at_ (x.ren nm) B w)
theorem uj {w:World}{b:Nat}{op:Int}{NM MD:ByteArray}{ng ys:Bool}{mv kv:Value}{a_:Int}(h:w.heap[b]?=some (.cells (aQ op NM MD ng mv ys kv a_) 64 (0,0)))(j:Nat):w.frozen? ⟨b,j,none⟩=false:=by simp[World.frozen?,h]
theorem WM (nm:List UInt8)(x:PZ)(am:Option Addr)(wn cm:Nat)(kv:Value):(ZK YA).cells (x.ren nm) (.slice am wn cm,kv)=[.int .i64 x.op,.string ⟨(pY nm x.op x.name).toArray⟩,.string ⟨x.module.toArray⟩,.bool (decide (x.num<0)),.slice am wn cm,.bool x.yes,kv,.int .i64 x.at_]:=by
 rw[PZ.Ll];rfl
theorem aaM (nm:List UInt8)(e:PZ)(hn:e.aA.length≤65536)(IH:∀ x∈e.aA,Sm nm x):Sm nm e:=by
 intro B am wn cm ae ce w h hB;obtain⟨i0,XJ,hz0,hz1,hz2⟩:=info_parts Tryz.Nj;have ent:=Tryz.WJ;have HK:=ay h.Ob;have HI:=ay IH
 have Ky:Hid (∀ (wr:World) (C:Nat) (ak:Option Addr) (ck:Nat),Below w.heap.size w wr→RowK (ZK YA) (fun b=>b<B∨C≤b) wr (.slice ak e.aA.length ck) (e.aA.map (PZ.ren nm))→nL YA (fun b=>b<B∨C≤b) wr (.slice am wn cm) (.slice ak e.aA.length ck) (e.ren nm)):=ay fun wr C ak ck hb hr=>by
  have h1:=WK hr;have h2:=h.form.1;rw[PZ.Ll,nL];exact⟨YA.imp (YA.frame h2 (aW.of hb)) fun b hb _=>.inl hb,h1⟩
 have hcmp:=Lm e.name [120]
 have hor:((e.op == 3)=true∧e.op=3∧(e.name == [120])=true∧pY nm e.op e.name=nm)∨(((e.op == 3)=true∧e.op=3∧(e.name == [120])=false∨(e.op == 3)=false)∧pY nm e.op e.name=e.name):=by
  by_cases h1:e.op=3
  ·by_cases h2:e.name=[120]
   ·left;exact⟨by simp[h1],h1,by simp[h2],if_pos ⟨h1,h2⟩⟩
   ·right;exact⟨.inl ⟨by simp[h1],h1,by simp[h2]⟩,if_neg fun q=>h2 q.2⟩
  ·right;exact⟨.inr (by simp[h1]),if_neg fun q=>h1 q.1⟩
 clear h IH hcmp;generalize pY nm e.op e.name=rn at *;generalize e.ren nm=er at *;generalize decide (e.num<0)=ng at *;have hbw:=(aB w (.cells (aQ e.op ⟨e.name.toArray⟩ ⟨e.module.toArray⟩ ng (.slice am wn cm) e.yes (.slice ae e.aA.length ce) e.at_) 64)).alloc (by simp) (.cells (aQ 0 ⟨#[]⟩ ⟨#[]⟩ false (.slice none 0 0) false (.slice none 0 0) 0) 64);have hN:=(gY (w.alloc (.cells (aQ e.op ⟨e.name.toArray⟩ ⟨e.module.toArray⟩ ng (.slice am wn cm) e.yes (.slice ae e.aA.length ce) e.at_) 64)) (.cells (aQ 0 ⟨#[]⟩ ⟨#[]⟩ false (.slice none 0 0) false (.slice none 0 0) 0) 64) w.heap.size (by simp)).trans (aY w (.cells (aQ e.op ⟨e.name.toArray⟩ ⟨e.module.toArray⟩ ng (.slice am wn cm) e.yes (.slice ae e.aA.length ce) e.at_) 64));have hR:=aY (w.alloc (.cells (aQ e.op ⟨e.name.toArray⟩ ⟨e.module.toArray⟩ ng (.slice am wn cm) e.yes (.slice ae e.aA.length ce) e.at_) 64)) (.cells (aQ 0 ⟨#[]⟩ ⟨#[]⟩ false (.slice none 0 0) false (.slice none 0 0) 0) 64);rw[oP] at hR;go_enter Tryz.func20,Tryz.ntmps20
 go_upto_region 1 with fail
 change Code.wp _ _ _ _ ((w.alloc (.cells (aQ e.op ⟨e.name.toArray⟩ ⟨e.module.toArray⟩ ng (.slice am wn cm) e.yes (.slice ae e.aA.length ce) e.at_) 64)).alloc (.cells (aQ 0 ⟨#[]⟩ ⟨#[]⟩ false (.slice none 0 0) false (.slice none 0 0) 0) 64));generalize (w.alloc _).alloc _=w1 at hbw hN hR ⊢;have hl1:=(bS hN).1;have hl2:=(bS hR).1;obtain⟨y0,y1,y2,y3,y4,y5,y6,y7⟩:=aI hN;have z1:=uj hN 1;have z6:=uj hN 6
 have hset:∀ (V:World) (j:Nat) (v:Value),Below w.heap.size w V→V.heap[w.heap.size+1]?=some (.cells (aQ 0 ⟨#[]⟩ ⟨#[]⟩ false (.slice none 0 0) false (.slice none 0 0) 0) 64 (0,0))→Below w.heap.size w (V.setCell ⟨w.heap.size,j,none⟩ v)∧(V.setCell ⟨w.heap.size,j,none⟩ v).heap[w.heap.size+1]?=some (.cells (aQ 0 ⟨#[]⟩ ⟨#[]⟩ false (.slice none 0 0) false (.slice none 0 0) 0) 64 (0,0)):=fun V j v q r=>⟨q.setCell (bD _) v,((aW.set (P:=fun b=>b≠w.heap.size) v fun b hb=>hb).2 _ (by omega) (bS r).1).trans r⟩
 have ad3:=ay hset;clear hset
 rcases hor with ⟨ho,ho2,hcmp,hrn⟩|⟨⟨ho,ho2,hcmp⟩|ho,hrn⟩
 rw[ho2] at y0
 have hX:(w1.setCell ⟨w.heap.size,1,none⟩ (.string ⟨nm.toArray⟩)).heap[w.heap.size]?=some (.cells (aQ e.op ⟨rn.toArray⟩ ⟨e.module.toArray⟩ ng (.slice am wn cm) e.yes (.slice ae e.aA.length ce) e.at_) 64 (0,0)):=by rw[hrn];exact heap_setCell_same _ _ 1 _ _ _ hN
 obtain⟨hbx,hRx⟩:=ad3.out w1 1 (.string ⟨nm.toArray⟩) hbw hR;have HX:=ay (And.intro hX (And.intro hRx hbx));clear hX ho2 hrn hbw hN hR hl1 hl2 hRx hbx
 go_upto_region 3 with fail
 clear y0 y1 y2 y3 y4 y5 y6 y7 z1 z6 hcmp ho;generalize w1.setCell ⟨w.heap.size,1,none⟩ (.string ⟨nm.toArray⟩)=wc at *
 rotate_left
 rw[← hrn] at hN;have HX:=ay (And.intro hN (And.intro hR hbw));clear hrn hN hR hbw hl1 hl2;rw[ho2] at y0;clear ho2
 go_upto_region 3 with fail
 clear y0 y1 y2 y3 y4 y5 y6 y7 z1 z6 hcmp ho
 obtain⟨wc,rfl⟩:∃ wc:World,wc=w1:=⟨_,rfl⟩
 rotate_left
 rw[← hrn] at hN;have HX:=ay (And.intro hN (And.intro hR hbw));clear hrn hN hR hbw hl1 hl2
 go_upto_region 3 with fail
 clear y0 y1 y2 y3 y4 y5 y6 y7 z1 z6 ho
 obtain⟨wc,rfl⟩:∃ wc:World,wc=w1:=⟨_,rfl⟩
 rotate_left
 all_goals
  obtain⟨hX,hRx,hbx⟩:=HX.out;clear HX;obtain⟨-,-,-,-,-,-,y6,-⟩:=aI hX;have z6:=uj hX 6;have hX6:(wc.setCell ⟨w.heap.size,6,none⟩ (.slice none 0 0)).heap[w.heap.size]?=some (.cells (aQ e.op ⟨rn.toArray⟩ ⟨e.module.toArray⟩ ng (.slice am wn cm) e.yes (.slice none 0 0) e.at_) 64 (0,0)):=heap_setCell_same _ _ 6 _ _ _ hX;obtain⟨afO,ad4⟩:=ad3.out wc 6 (.slice none 0 0) hbx hRx;clear ad3
  go_upto_region 5 with fail
  clear y6 z6 hX hRx hbx;generalize wc.setCell ⟨w.heap.size,6,none⟩ (.slice none 0 0)=w2 at *;have hl1:=(bS hX6).1;have hl2:=(bS ad4).1;have hzw:=afO.size;have H1:Hid (oJ (ZK YA) (fun b=>b<B∨w2.heap.size≤b) w2.heap.size 64 w2 (.slice none 0 0) ((e.aA.take 0).map (PZ.ren nm))):=ay (by rw[List.take_zero];exact oJ.nil _ _ _ _ _);have HR:=ay ad4;clear ad4;go_wp2
  go_loopw [23] (fun q wr=>∃ (k:Nat) (kv:Value),k≤e.aA.length∧q=.int .i64 k∧aW (fun b=>b<w2.heap.size∧b≠w.heap.size) w2 wr∧wr.heap[w.heap.size]?=some (.cells (aQ e.op ⟨rn.toArray⟩ ⟨e.module.toArray⟩ ng (.slice am wn cm) e.yes kv e.at_) 64 (0,0))∧oJ (ZK YA) (fun b=>b<B∨w2.heap.size≤b) w2.heap.size 64 wr kv ((e.aA.take k).map (PZ.ren nm))∧Below w.heap.size w wr) (fun q _=>e.aA.length - (intOf q).toNat)
  case atStart=>exact⟨0,_,lI _,rfl,aW.refl _ _,hX6,H1.out,afO⟩
  case round =>
   obtain⟨k,kv,hk,rfl,fF,hbe,hst,hbl⟩:=hrel;have hCw:w2.heap.size≤wr.heap.size:=fF.1;have hwz:=hbl.size
   by_cases hkl:k<e.aA.length
   ·obtain⟨b,off,rfl,YD,hbw,kL⟩:=HK.out (by omega)
    obtain⟨Dt,wx,Du,ak,ck,hE,hc⟩:=kL k hkl
    have hI:=fun W (hb:Below w.heap.size w W)=>HI.out _ (mX hkl) B Dt wx Du ak ck W (hE.frame (aW.ru hb (fun b hb=>by omega)))
    have x0:=(hbl.cell (p:=⟨b,off+k * 8,none⟩) hbw).trans (hc 0 _ rfl);have x1:=(hbl.cell (p:=⟨b,off+k * 8+1,none⟩) hbw).trans (hc 1 _ rfl);have x2:=(hbl.cell (p:=⟨b,off+k * 8+2,none⟩) hbw).trans (hc 2 _ rfl);have x3:=(hbl.cell (p:=⟨b,off+k * 8+3,none⟩) hbw).trans (hc 3 _ rfl);have x4:=(hbl.cell (p:=⟨b,off+k * 8+4,none⟩) hbw).trans (hc 4 _ rfl);have x5:=(hbl.cell (p:=⟨b,off+k * 8+5,none⟩) hbw).trans (hc 5 _ rfl);have x6:=(hbl.cell (p:=⟨b,off+k * 8+6,none⟩) hbw).trans (hc 6 _ rfl);have x7:=(hbl.cell (p:=⟨b,off+k * 8+7,none⟩) hbw).trans (hc 7 _ rfl);simp only[dJ] at x1 x2
    have hsn:(e.aA.take (k+1)).map (PZ.ren nm)=(e.aA.take k).map (PZ.ren nm)++[e.aA[k].ren nm]:=by rw[Dg hkl,List.map_append];rfl
    have hpl:((e.aA.take k).map (PZ.ren nm)).length=k:=by rw[List.length_map,qZ];omega
    have HI1:=ay hI;have qx:=ay hsn;have HRC:=ay (fun kv=>WM nm e.aA[k] Dt wx Du kv);clear hI hsn kL hc hE;generalize e.aA[k]=x at x0 x1 x2 x3 x4 x5 x6 x7 HI1 qx HRC;generalize x.ren nm=xr at *;generalize (⟨(pY nm x.op x.name).toArray⟩:ByteArray)=XN at *
    obtain⟨acc,hacc⟩:∃ acc,acc=(e.aA.take k).map (PZ.ren nm):=⟨_,rfl⟩
    rw[← hacc] at hst hpl qx;clear hacc
    have pR:(k:Int)<(e.aA.length:Int):=by omega
    obtain⟨l,h1,hown,hes⟩:=hst;rw[hpl] at hown
    obtain⟨va,vc,rfl⟩:∃ va vc,kv=.slice va k vc:=by
     rcases hown.2 with ⟨hv,hn0⟩|⟨g,cap,cur,hv,_⟩
     ·exact⟨none,0,by rw[hv,hn0]⟩
     ·exact⟨_,cap,hv⟩
    have hlt:=(bS hbe).1;have HL:=ay hpl;have H11:=ay h1;clear hpl h1;have HBL:=ay hbl;have HAL:=ay fF;generalize decide (x.num<0)=nx at *
    go_upto_region 8 with fail
    have rM:=aB wr (.cells (aQ x.op ⟨x.name.toArray⟩ ⟨x.module.toArray⟩ nx (.slice Dt wx Du) x.yes (.slice ak x.aA.length ck) x.at_) 64);have hY:=aY wr (.cells (aQ x.op ⟨x.name.toArray⟩ ⟨x.module.toArray⟩ nx (.slice Dt wx Du) x.yes (.slice ak x.aA.length ck) x.at_) 64);have hC:=HI1.out (wr.alloc (.cells (aQ x.op ⟨x.name.toArray⟩ ⟨x.module.toArray⟩ nx (.slice Dt wx Du) x.yes (.slice ak x.aA.length ck) x.at_) 64)).drew (HBL.out.trans (rM.drew.mono hwz)) (by have:=rM.size;show B≤(wr.alloc _).heap.size;omega);have HC:=ay hC;obtain⟨u0,u1,u2,u3,u4,u5,u6,u7⟩:=aI hY;have hce:=(rM.block w.heap.size hlt).trans hbe;obtain⟨-,-,-,-,-,-,v5,-⟩:=aI hce;have abq:=HBL.out.trans (rM.mono hwz);have afP:=HAL.out.trans (aW.ru rM fun b hb=>by omega);have hown1:=own_below hown rM
    have afQ:∀ p∈l,(ZK YA).inn (fun b=>(b<B∨w2.heap.size≤b)∧some b≠(Value.slice va k vc).ownBlock) (wr.alloc (.cells (aQ x.op ⟨x.name.toArray⟩ ⟨x.module.toArray⟩ nx (.slice Dt wx Du) x.yes (.slice ak x.aA.length ck) x.at_) 64)) p.1 p.2:=fun p hp=>(ZK YA).frame (hes p hp) (aW.of rM)
    have hlt1:w.heap.size<(wr.alloc (.cells (aQ x.op ⟨x.name.toArray⟩ ⟨x.module.toArray⟩ nx (.slice Dt wx Du) x.yes (.slice ak x.aA.length ck) x.at_) 64)).heap.size:=Nat.lt_of_lt_of_le hlt rM.size;have ah5:=rM.size;clear x0 x1 x2 x3 x4 x5 x6 x7 hC hY hbl hbe fF hown hes hlt HI1 rM HBL HAL;change Code.wp _ _ _ _ (wr.alloc (.cells (aQ x.op ⟨x.name.toArray⟩ ⟨x.module.toArray⟩ nx (.slice Dt wx Du) x.yes (.slice ak x.aA.length ck) x.at_) 64));generalize hwy:wr.alloc (.cells (aQ x.op ⟨x.name.toArray⟩ ⟨x.module.toArray⟩ nx (.slice Dt wx Du) x.yes (.slice ak x.aA.length ck) x.at_) 64)=wy at *;clear hwy
    have ac6:some w.heap.size≠(Value.slice va k vc).ownBlock:=fun q=>by have:=(hown1.lt _ q.symm).1;omega
    have lM:k≤65536:=by omega
    go_region_law ((first
     | (refine tq (R:=RnP x.op XN ⟨x.module.toArray⟩ nx (.slice Dt wx Du) x.yes x.aA.length x.at_ xr B wy.drew) (args:=#[.agg #[.int .i64 x.op,.string ⟨x.name.toArray⟩,.string ⟨x.module.toArray⟩,.bool nx,.slice Dt wx Du,.bool x.yes,.slice ak x.aA.length ck,.int .i64 x.at_],.string ⟨nm.toArray⟩]) rfl 20 _ _ rfl ?_ (by rfl) (ent _ _) ?_;exact HC.out;rintro r W2 ⟨ax,cx,rfl,hxe,hb2⟩;refine⟨_,rfl,?_⟩;have yG:=(hb2.block w.heap.size hlt1).trans hce;obtain⟨-,-,-,-,-,-,X9,-⟩:=aI yG;have r63:=fun o=>Lib.cell?_alloc_some o X9)
     | (refine step_append_lies _ (by rfl) _ _ _ (by rfl) w2.heap.size 64 i0 _ 8 112 Tryz.underlying51 XJ hz0 hz1 hz2 rfl (by omega) (.slice va k vc) k _ (by rfl) ((own_below (nZ hown1) hb2).alloc _) ⟨W2.heap.size,0,none⟩ 1 1 [.int .i64 x.op,.string XN,.string ⟨x.module.toArray⟩,.bool nx,.slice Dt wx Du,.bool x.yes,.slice ax x.aA.length cx,.int .i64 x.at_] (by rfl) (by rfl) (vv (cs:=#[.int .i64 x.op,.string XN,.string ⟨x.module.toArray⟩,.bool nx,.slice Dt wx Du,.bool x.yes,.slice ax x.aA.length cx,.int .i64 x.at_]) (t:=64) (fr:=(0,0)) (aY W2 _)) (by simp[Value.oneCell']) (by omega) (by unfold maxLen;omega) (by omega) (by have:=hb2.size;simp at this ⊢;omega) (W2.heap.size+1) (by simp) ?_;intro gg kE w5 gq gK vL JK;have qJ:=(gK.block w.heap.size (by have:=hb2.size;simp at this ⊢;omega) ac6).trans ((gY W2 _ w.heap.size (by have:=hb2.size;simp at this;omega)).trans yG);obtain⟨-,-,-,-,-,-,r65,-⟩:=aI qJ;have z65:=uj qJ 6)))
    all_goals
     have hlen:=HL.out;obtain⟨q1,q2,q3⟩:=oJ.round (K:=ZK YA) (Q:=fun b=>b<B∨w2.heap.size≤b) (wr:=wy.drew) (W2:=W2) (kv:=.slice va k vc) (UU:=.slice (some ⟨gg,0,none⟩) (k+1) kE) (acc:=acc) (a:=xr) (x:=(.slice Dt wx Du,.slice ax x.aA.length cx)) (l:=l) (show aW _ w2 wy.drew from afP) hl1 (by omega) H11.out (by rw[hlen];exact hown1) (fun p hp=>(ZK YA).frame (afQ p hp) (WL _ wy)) (hxe.imp fun b hb _=>⟨by have:wy.drew.heap.size=wy.heap.size:=rfl;omega,fun q=>by have:=hown1.lt b q.symm;have:wy.drew.heap.size=wy.heap.size:=rfl;omega⟩) hb2 (by rw[hlen,HRC.out];exact gq) gK rfl vL 6 (.slice (some ⟨gg,0,none⟩) (k+1) kE);have zJ:(w5.setCell ⟨w.heap.size,6,none⟩ (.slice (some ⟨gg,0,none⟩) (k+1) kE)).heap[w.heap.size]?=some (.cells (aQ e.op ⟨rn.toArray⟩ ⟨e.module.toArray⟩ ng (.slice am wn cm) e.yes (.slice (some ⟨gg,0,none⟩) (k+1) kE) e.at_) 64 (0,0)):=heap_setCell_same w5 _ 6 _ _ _ qJ;have zK:=q3 w.heap.size w (bD _) abq.drew;have HF6:=ay (And.intro q1 (And.intro q2 (And.intro zJ zK)));clear gK gq vL qJ r65 z65 yG X9 r63 hxe hb2 HC afQ hown1 afP hce v5 u0 u1 u2 u3 u4 u5 u6 u7 q1 q2 q3 zJ zK abq;generalize w5.setCell _ _=w6 at HF6 ⊢;go_wp2
     go_roundw
     case rel=>exact⟨k+1,_,by omega,by go_num,HF6.out.2.1,HF6.out.2.2.1,by rw[qx.out];exact HF6.out.1,HF6.out.2.2.2⟩
     case measure=>simp[intOf];omega
   ·obtain rfl:k=e.aA.length:=by omega
    have pR:decide ((e.aA.length:Int)<(e.aA.length:Int))=false:=dA (by omega);rw[List.take_length] at hst;obtain⟨va,vc,hkv⟩:=hst.slice;rw[List.length_map] at hkv;subst hkv;have hfin:=Ky.out wr w2.heap.size va vc hbl (hst.row (fun b hb=>.inr hb) fun b hb _=>hb);have hr1:=(fF.2 (w.heap.size+1) ⟨hl2,by omega⟩ hl2).trans HR.out;obtain⟨c0,c1,c2,c3,c4,c5,c6,c7⟩:=aI hbe;obtain⟨d0,d1,d2,d3,d4,d5,d6,d7⟩:=aI hr1;have dz:=uj hr1;clear hst hbe hr1 fF;have HF:=ay hfin;have HBL:=ay hbl;clear hfin hbl;go_wp2;refine bodyPost_ret (v:=.agg #[.int .i64 e.op,.string ⟨rn.toArray⟩,.string ⟨e.module.toArray⟩,.bool ng,.slice am wn cm,.bool e.yes,.slice va e.aA.length vc,.int .i64 e.at_]) (by simp[results,Tryz.results20,go_sem,d0,d1,d2,d3,d4,d5,d6,d7]) rfl ⟨va,vc,rfl,?_,?_⟩
    ·exact(HF.out.frame (aaL _ _ _ _ _ _ _ _ _ _ _ fun b hb=>by omega)).imp fun b hb _=>hb.imp_right fun q=>by omega
    ·exact Sk HBL.out (by omega) _ _ _ _ _ _ _ _
theorem T9 (nm:List UInt8):∀ (n:Nat) (e:PZ),SizeOf.sizeOf e<n→e.fit→Sm nm e
 | 0,_,h,_=>absurd h (by omega)
 | n+1,e,hs,hf=>aaM nm e (PZ.kT hf).2.2.2.1 fun x hx=>T9 nm n x (by have:=e.iT x hx;omega) ((PZ.kT hf).2.2.2.2 x hx)
end Go.Proofs.YtmhdgeekclhbbaaGreatDoor

namespace Go.Proofs.YtmhdgeekclhbbaaGreatDoor
theorem GA:∀ (l:List Pc) (e:List UInt8) (n p:Nat) (L:List Tok),Lu l e→kX n (bq l++e) p=.ok L→∃ L',L=zW p l++L'∧kX (n - l.length) e (p+(bq l).length)=.ok L'
 | [],e,n,p,L,_,h=>⟨L,rfl,by simpa [bq] using h⟩
 | x :: l,e,0,p,L,_,h=>by rw[kX] at h;cases h
 | x :: l,e,n+1,p,L,hk,h=>by
  obtain⟨h1,h2,h3⟩:=hk;obtain⟨t1,t2,t3,t4⟩:=Jc h1 h2
  have hld:x.lead.all dB=true:=by rw[nM,Bool.and_eq_true] at h1;exact h1.1
  have hB:bq (x :: l)++e=x.lead++(x.text++(bq l++e)):=by rw[bq];simp
  have e1:bE false (x.lead++(x.text++(bq l++e)))=x.lead.length:=by rw[Cr hld,t4];rfl
  rw[hB,kX,e1] at h;simp only[List.drop_left,t1,ne_eq,not_true,if_false] at h;rw[if_neg t2] at h
  split at h
  ·cases h
  ·rename_i L1 hL1
   obtain⟨L',rfl,h5⟩:=GA l e n _ L1 h3 hL1
   injection h with h
   subst h;refine⟨L',?_,?_⟩
   ·simp only[List.take_left,zW,jN]
   ·rw[dR,Nat.add_sub_add_right,show p+(bq (x :: l)).length=p+x.lead.length+x.text.length+(bq l).length by rw[bq];simp only[bN];omega]
    exact h5
theorem Ap {ah:List Tok}{u:Nat}{t:Tok}(h:ah[u]?=some t):aN ah u=t.text:=by
 obtain⟨h1,h2⟩:=pJ h;unfold aN dh;rw[Nat.min_eq_left (by omega),List.getD_eq_getElem?_getD,h]
 rfl
theorem Sn {n p:Nat}{c:UInt8}{r:List UInt8}{L:List Tok}(h0:bE false (c :: r)=0)(h:kX n (c :: r) p=.ok L):∃ t l,L=t :: l∧(t.text=[]∨t.text.head?=some c):=by
 cases n with
 | zero=>rw[kX] at h;cases h
 | succ n =>
  rw[kX,h0,List.drop_zero] at h
  split at h
  ·cases h
  ·split at h
   ·injection h with h
    exact⟨_,_,h.symm,.inl rfl⟩
   ·split at h
    ·cases h
    ·injection h with h
     refine⟨_,_,h.symm,?_⟩;simp only;generalize (bR (c :: r)).2.1=k
     cases k with
     | zero=>left;rfl
     | succ k=>right;rfl
def uO:List Pc:=[⟨[],2,[102,117,110]⟩,⟨[32],1,[102]⟩,⟨[],4,[40]⟩,⟨[],1,[120]⟩,⟨[],4,[58]⟩,⟨[],2,[105,110,116]⟩,⟨[],4,[41]⟩,⟨[],4,[58]⟩,⟨[],2,[105,110,116]⟩]
def Pq:List UInt8:=[102,117,110,32,102,40,120,58,105,110,116,41,58,105,110,116,61]
theorem WO (R:List UInt8):Lu uO (61 :: R) :=
 ⟨by decide,by show rH 2 [102,117,110] (some 32)=true;decide,by decide,by show rH 1 [102] (some 40)=true;decide,by decide,by show rH 4 [40] (some 120)=true;decide,by decide,by show rH 1 [120] (some 58)=true;decide,by decide,by show rH 4 [58] (some 105)=true;decide,by decide,by show rH 2 [105,110,116] (some 41)=true;decide,by decide,by show rH 4 [41] (some 58)=true;decide,by decide,by show rH 4 [58] (some 105)=true;decide,by decide,by show rH 2 [105,110,116] (some 61)=true;decide,trivial⟩
theorem WQ {R:List UInt8}{ah:List Tok}(h:bO (Pq++R)=.ok ah):∃ t l,ah=zW 0 uO++t :: l∧t.text≠[123]:=by
 have hS:Pq++R=bq uO++61 :: R:=rfl;rw[hS] at h;unfold bO at h
 split at h
 ·cases h
 ·obtain⟨L',h1,h2⟩:=GA uO _ _ _ _ (WO R) h
  obtain⟨t,l,rfl,h3⟩:=Sn (by rw[bE,if_neg (by decide),if_neg (by rintro⟨q,_⟩;cases q)]) h2;refine⟨t,l,h1,fun q=>?_⟩
  rcases h3 with h3|h3
  ·rw[q] at h3;cases h3
  ·rw[q] at h3;cases h3
theorem aaN {R:List UInt8}{ah:List Tok}{aj:List Nd}{p:kW}(F:nY (Pq++R) ah aj p)(hm:p.marks ah)(h1:(p.pp ah).defs.length=1) :
  (p.pp ah).aG=[]∧∃ (d:DD) (f:FF),(p.pp ah).defs=[d]∧d.params=[f]∧f.name=[120]∧f.aC=[]∧d.res.aC=[]:=by
 obtain⟨t9,l,rfl,h9⟩:=WQ F.TL;have hok:=F.okk;generalize hT:zW 0 uO++t9 :: l=ah at *
 have x0:aN ah 0=[102,117,110]:=by rw[← hT];exact @Ap (zW 0 uO++t9 :: l) 0 _ rfl
 have x3:aN ah 3=[120]:=by rw[← hT];exact @Ap (zW 0 uO++t9 :: l) 3 _ rfl
 have x6:aN ah 6=[41]:=by rw[← hT];exact @Ap (zW 0 uO++t9 :: l) 6 _ rfl
 have x9:aN ah 9=t9.text:=by rw[← hT];exact @Ap (zW 0 uO++t9 :: l) 9 _ rfl
 clear hT F;obtain⟨imps,defs⟩:=p
 have hi:imps=0:=by
  cases imps with
  | zero=>rfl
  | succ n =>
   have h3:=hok.2.2.1.1;rw[x0] at h3;cases h3
 subst hi;refine⟨rfl,?_⟩
 match defs,h1,hok,hm with
 | [],h1,_,_=>cases h1
 | d :: e :: ds,h1,_,_=>simp[kW.pp,lZ] at h1
 | [d],_,hok,hm =>
  have hd:d.ok ah 0:=hok.2.2.2.1;have hk:d.marks ah 0:=hm.1;obtain⟨pub,lg,ty,body⟩:=d
  have adG:pub=false:=by
   cases pub with
   | false=>rfl
   | true =>
    have h3:=hd.1 rfl;rw[x0] at h3;cases h3
  subst adG;obtain⟨k1,k2,k3⟩:=hk
  match lg,k1,k2,k3 with
  | [],_,k2,_ =>
   have:aN ah 3=[41]:=k2;rw[x3] at this;cases this
  | ⟨some e⟩ :: ts,k1,_,_ =>
   have:aN ah 6=[123]:=k1.1 (by simp);rw[x6] at this;cases this
  | ⟨none⟩ :: t2 :: ts,k1,_,_ =>
   have:aN ah 6=[44]:=k1.2.1 (by simp);rw[x6] at this;cases this
  | [⟨none⟩],_,_,k3 =>
   refine⟨_,_,rfl,rfl,x3,rfl,?_⟩;obtain⟨cl⟩:=ty
   cases cl with
   | none=>rfl
   | some e =>
    have:aN ah 9=[123]:=k3 (by simp);rw[x9] at this;exact absurd this h9
end Go.Proofs.YtmhdgeekclhbbaaGreatDoor

namespace Go.Proofs.YtmhdgeekclhbbaaGreatDoor
open Go.RowKit Go
def kV (s nm:ByteArray)(w:World):Prop:=Calls Tryz.prog 4 #[.string s,.string nm] w fun r w'=>r=.returned (.bool true)∧Below w.heap.size w w'
theorem ach (s nm:ByteArray)(w:World)(hs:s.size≤maxLen)(h:400<s.size):kV s nm w:=by
 unfold maxLen at hs;unfold kV
 have hI:(400:Int)<(s.size:Int):=by omega
 have h2:decide ((400:Int)<(s.size:Int))=true:=iX (by omega);go_enter Tryz.func4,Tryz.ntmps4;go_wp2_with (go_at_call 16;refine(kU _).mono ?_;rintro e w1 ⟨rfl,hb1⟩);go_ret;exact⟨rfl,hb1⟩
theorem aaO (s nm:ByteArray)(w:World)(hs:s.size≤400)(hm:nm.size≤maxLen)(h:30<nm.size):kV s nm w:=by
 unfold maxLen at hm;unfold kV
 have hI:¬ ((400:Int)<(s.size:Int)):=by omega
 have h2:decide ((400:Int)<(s.size:Int))=false:=dA (by omega)
 have hJ:(30:Int)<(nm.size:Int):=by omega
 have h3:decide ((30:Int)<(nm.size:Int))=true:=iX (by omega);go_enter Tryz.func4,Tryz.ntmps4;go_wp2_with (go_at_call 16;refine(kU _).mono ?_;rintro e w1 ⟨rfl,hb1⟩);go_ret;exact⟨rfl,hb1⟩
theorem WR (s nm:ByteArray)(w:World)(hs:s.size≤400)(hm:nm.size≤30)(h:bf nm.data.toList=false):kV s nm w:=by
 unfold kV
 have hI:¬ ((400:Int)<(s.size:Int)):=by omega
 have h2:decide ((400:Int)<(s.size:Int))=false:=dA (by omega)
 have hJ:¬ ((30:Int)<(nm.size:Int)):=by omega
 have h3:decide ((30:Int)<(nm.size:Int))=false:=dA (by omega);have TK:=ay (fun W=>oO nm W (by omega));rw[h] at TK;clear h;go_enter Tryz.func4,Tryz.ntmps4;go_wp2_with (first|(go_at_call 16;refine(kU _).mono ?_;rintro e w1 ⟨rfl,hb1⟩)|(go_at_call 11;refine(TK.out _).mono ?_;rintro e w2 ⟨rfl,hb2⟩));go_ret;exact⟨rfl,hb1.trans (hb2.mono hb1.size)⟩
def Lp (s:ByteArray):ByteArray:=((ByteArray.mk #[102,117,110,32,102,40,120,58,105,110,116,41,58,105,110,116,61]++s)++ByteArray.mk #[59])
theorem Jz (s:ByteArray):(Lp s).data.toList=Pq++(s.data.toList++[59]):=by
 simp[Pq,Lp]
theorem BR (s:ByteArray):(Lp s).size=s.size+18:=by
 rw[← aR,Jz,bN,bN,aR];show 17+(s.size+1)=_;omega
theorem aci (s nm:ByteArray)(w:World)(hs:s.size≤400)(hm:nm.size≤30)(h:bf nm.data.toList=true)(c a:Nat)(hp:je (Lp s).data.toList 60=.bad c a):kV s nm w:=by
 unfold kV
 have hI:¬ ((400:Int)<(s.size:Int)):=by omega
 have h2:decide ((400:Int)<(s.size:Int))=false:=dA (by omega)
 have hJ:¬ ((30:Int)<(nm.size:Int)):=by omega
 have h3:decide ((30:Int)<(nm.size:Int))=false:=dA (by omega);have TK:=ay (fun W=>oO nm W (by omega));have HB:=ay (fun W=>Pj (Lp s) W (by rw[BR];omega) c a hp);rw[h] at TK;clear h hp;go_enter Tryz.func4,Tryz.ntmps4;go_wp2_with (first|(go_at_call 16;refine(kU _).mono ?_;rintro e w1 ⟨rfl,hb1⟩)|(go_at_call 11;refine(TK.out _).mono ?_;rintro e w2 ⟨rfl,hb2⟩)|(go_at_call 17;refine Calls.mono (HB.out _) ?_;rintro e w3 ⟨rfl,hb3⟩));go_ret;have qR:=hb1.trans (hb2.mono hb1.size);have su:=qR.trans (hb3.mono qR.size);exact⟨rfl,su.alloc su.size _⟩
theorem aaP (s nm:ByteArray)(w:World)(hs:s.size≤400)(hm:nm.size≤30)(h:bf nm.data.toList=true)(z:ZP)(HP:∀ W,Calls Tryz.prog 17 #[.string (Lp s)] W (Ao z W))(hd:z.defs.length≠1)(hd2:z.defs.length≤64):kV s nm w:=by
 unfold kV
 have hI:¬ ((400:Int)<(s.size:Int)):=by omega
 have h2:decide ((400:Int)<(s.size:Int))=false:=dA (by omega)
 have hJ:¬ ((30:Int)<(nm.size:Int)):=by omega
 have h3:decide ((30:Int)<(nm.size:Int))=false:=dA (by omega);have hdI:((z.defs.length:Int) != 1)=true:=bne_iff_ne.2 (by omega);have TK:=ay (fun W=>oO nm W (by omega));have HB:=ay HP;rw[h] at TK;clear h HP;go_enter Tryz.func4,Tryz.ntmps4
 go_upto_region 6 with (first|(go_at_call 16;refine(kU _).mono ?_;rintro e w1 ⟨rfl,hb1⟩)|(go_at_call 11;refine(TK.out _).mono ?_;rintro e w2 ⟨rfl,hb2⟩)|(go_at_call 17;refine Calls.mono (HB.out _) ?_;rintro e w3 ⟨ai,ci,ad,cd,rfl,hb3,ho3⟩))
 have qR:=hb1.trans (hb2.mono hb1.size);have su:=qR.trans (hb3.mono qR.size);have hb4:=su.alloc su.size (.cells #[.slice ai z.aG.length ci,.slice ad z.defs.length cd] 26);have g3:=aY w3 (.cells #[.slice ai z.aG.length ci,.slice ad z.defs.length cd] 26);clear qR ho3 hb3 hb1 su;change Code.wp _ _ _ _ (w3.alloc (.cells #[.slice ai z.aG.length ci,.slice ad z.defs.length cd] 26));generalize w3.alloc (.cells #[.slice ai z.aG.length ci,.slice ad z.defs.length cd] 26)=w4 at g3 hb4 ⊢;generalize w3.heap.size=q at g3 ⊢;obtain⟨c0,c1,-⟩:=aU g3;clear g3;go_wp2;go_ret;exact⟨rfl,hb4⟩
theorem WS {w:World}{b:Nat}{c0 c1 c2 c3 c4 c5 c6 c7 c8 c9 c10 c11 c12 c13 c14:Value}(h:w.heap[b]?=some (.cells #[c0,c1,c2,c3,c4,c5,c6,c7,c8,c9,c10,c11,c12,c13,c14] 66 (0,0))):w.cell? ⟨b,0,none⟩=some c0∧w.cell? ⟨b,1,none⟩=some c1∧w.cell? ⟨b,2,none⟩=some c2∧w.cell? ⟨b,3,none⟩=some c3∧w.cell? ⟨b,4,none⟩=some c4∧w.cell? ⟨b,5,none⟩=some c5∧w.cell? ⟨b,6,none⟩=some c6∧w.cell? ⟨b,7,none⟩=some c7∧w.cell? ⟨b,8,none⟩=some c8∧w.cell? ⟨b,9,none⟩=some c9∧w.cell? ⟨b,10,none⟩=some c10∧w.cell? ⟨b,11,none⟩=some c11∧w.cell? ⟨b,12,none⟩=some c12∧w.cell? ⟨b,13,none⟩=some c13∧w.cell? ⟨b,14,none⟩=some c14:=by
 refine⟨?_,?_,?_,?_,?_,?_,?_,?_,?_,?_,?_,?_,?_,?_,?_⟩<;>(rw[aV h];rfl)
mutual
theorem PZ.Ua {nm:List UInt8}(hn:nm.length≤65536):∀ e:PZ,e.fit→(e.ren nm).fit
 | .mk op n md num yes aA a,h=>by
  rw[PZ.fit] at h;rw[PZ.ren,PZ.fit];refine⟨?_,h.2.1,h.2.2.1,by rw[uh,List.length_map];exact h.2.2.2.1,Pt hn aA h.2.2.2.2⟩;unfold pY
  split
  ·exact hn
  ·exact h.1
theorem Pt {nm:List UInt8}(hn:nm.length≤65536):∀ l:List PZ,Bj l→Bj (ug nm l)
 | [],h=>h
 | e :: l,h=>by
  rw[Bj] at h;rw[ug,Bj];exact⟨PZ.Ua hn e h.1,Pt hn l h.2⟩
end
mutual
theorem PZ.Pv (nm:List UInt8):∀ e:PZ,(e.ren nm).size=e.size
 | .mk op n md num yes aA a=>by rw[PZ.ren,PZ.size,PZ.size,JA nm aA]
theorem JA (nm:List UInt8):∀ l:List PZ,qd (ug nm l)=qd l
 | []=>rfl
 | e :: l=>by rw[ug,qd,qd,PZ.Pv nm e,JA nm l]
end
theorem acj {nm:List UInt8}{d:ZD}(hn:nm.length≤65536)(h:ZP.mid ⟨[],[d]⟩):ZP.mid ⟨[],[d.ren nm]⟩:=by
 have hd:=h.defs d vB;refine⟨h.imps,h.QV,fun x hx=>?_,h.Kl⟩;rw[List.mem_singleton] at hx;subst hx;refine⟨fun f hf=>?_,by show (d.params.map _).length≤8;rw[List.length_map];exact hd.few,hd.res,PZ.Ua hn _ hd.body.1,by show (d.body.ren nm).size≤2500;rw[PZ.Pv];exact hd.body.2⟩;obtain⟨g,hg,rfl⟩:=List.mem_map.1 hf;have:=hd.lg g hg;exact⟨hn,this.few,this.all⟩
theorem JB {α β:Type}{K:RK α β}{P:Nat→Prop}{w:World}{b:Nat}{cs:Array Value}{T:TypeId}(h:w.heap[b]?=some (.cells cs T (0,0)))(z:α)(x:β)(hcs:cs.toList=K.cells z x)(hin:K.inn P w z x)(hP:P b):RowK K P w (.slice (some ⟨b,0,none⟩) 1 1) [z]:=by
 have hl:=(bS h).1
 have hfl:K.flat [(z,x)]=cs.toList:=by rw[hcs];simp[RK.flat]
 refine⟨[(z,x)],rfl,⟨_,1,rfl,bD _,by rw[hfl,hcs,K.len];simp,fun _=>⟨b,0,rfl,hP,hl,fun i hi=>?_⟩⟩,fun p hp=>by rw[List.mem_singleton] at hp;subst hp;exact hin⟩;rw[Nat.zero_add,aV h];simp[hfl]
theorem acn {P:Nat→Prop}{w:World}{M N:Nat}{nm:ByteArray}{d:ZD}{f:ZF}{fv cv mv kv:Value}(hp:d.params=[f])(hN:w.heap[N]?=some (.cells #[.bool d.pub,.string ⟨d.res.name.toArray⟩,.slice (some ⟨M,0,none⟩) 1 1,.int .i64 d.res.base,cv,.int .i64 d.body.op,.string ⟨(pY nm.data.toList d.body.op d.body.name).toArray⟩,.string ⟨d.body.module.toArray⟩,.bool (decide (d.body.num<0)),mv,.bool d.body.yes,kv,.int .i64 d.body.at_,.int .i64 d.res.at_,.int .i64 d.res.bare] 66 (0,0)))
  (hM:w.heap[M]?=some (.cells #[.string nm,.int .i64 f.base,fv,.int .i64 f.at_,.int .i64 f.bare] 68 (0,0))) (hF:RowK (ZK YA) P w fv f.aC) (hC:RowK (ZK YA) P w cv d.res.aC) (hE:nL YA P w mv kv (d.body.ren nm.data.toList)) (hPN:P N) (hPM:P M) :
  RowK Py P w (.slice (some ⟨N,0,none⟩) 1 1) [d.ren nm.data.toList]:=by
 refine JB hN _ ⟨.slice (some ⟨M,0,none⟩) 1 1,cv,mv,kv⟩ ?_ ⟨?_,hC,hE⟩ hPN
 ·simp only[Py,ZD.ren,PZ.Ll]
  rfl
 ·have:(d.ren nm.data.toList).params=[{ f with name:=nm.data.toList }]:=by rw[ZD.ren,hp];rfl
  rw[this];exact JB hM _ fv rfl hF hPM
