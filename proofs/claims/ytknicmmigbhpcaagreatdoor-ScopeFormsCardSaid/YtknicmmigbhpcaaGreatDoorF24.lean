/- Walks and plain laws: ShowPA, ScopePlain, BagW3, BagW4, BagW5, ScopeW1, ScopeW2. -/
import Derived.Test.YtknicmmigbhpcaaGreatDoorF23
set_option maxHeartbeats 16000000
set_option maxRecDepth 100000
set_option linter.unusedVariables false
set_option linter.unusedSimpArgs false
namespace Go.Proofs.YtknicmmigbhpcaaGreatDoor
open Go.RowKit Go
structure ZF where
 name:List UInt8
 base:Int
 clause:List PZ
 at_:Int
 bare:Int
structure ZD where
 pub:Bool
 params:List ZF
 res:ZF
 body:PZ
structure ZP where
 imports:List (List UInt8 × Int)
 defs:List ZD
def ZF.right (f:ZF):Bool:=aR f.name && eO f.base f.clause
def ZD.sound (d:ZD):Bool:=aR d.res.name && (decide (d.params.length≤8) && (!(d.params.any fun f=>!f.right) && (eO d.res.base d.res.clause && d.body.right false)))
def ZF.text (f:ZF):List UInt8:=f.name++[58,32]++jU f.base f.clause
def ZD.text (d:ZD):List UInt8:=(if d.pub=true then [112,117,98,32] else [])++([102,117,110,32]++d.res.name++[40])++bB (d.params.map ZF.text)++[41,58,32]++jU d.res.base d.res.clause++[32,61,32]++d.body.text++[59,10]
def qA (m:List UInt8 × Int):List UInt8:=[105,109,112,111,114,116,32]++m.1++[59,10]
def ZP.right (p:ZP):Bool:=decide (p.imports.length≤16) && (decide (p.defs.length≤64) && (p.imports.all (fun m=>aR m.1) && p.defs.all ZD.sound))
def ZP.text (p:ZP):List UInt8:=p.imports.flatMap qA++p.defs.flatMap ZD.text
def ZF.fit (f:ZF):Prop:=f.name.length≤65536∧f.clause.length≤1000000∧∀ e∈f.clause,e.fit
def ZD.fit (d:ZD):Prop:=d.params.length≤1000000∧(∀ f∈d.params,f.fit)∧d.res.fit∧d.body.fit
def ZP.fit (p:ZP):Prop:=p.imports.length≤1000000∧(∀ m∈p.imports,m.1.length≤65536)∧p.defs.length≤1000000∧∀ d∈p.defs,d.fit
def ZFK:RK ZF Value where
 sz:=5
 cells f cv:=[dM f.name,.int .i64 f.base,cv,.int .i64 f.at_,.int .i64 f.bare]
 inn P w f cv:=RowK (ZK YA) P w cv f.clause
 len _ _:=rfl
 frame h ha:=h.frame ha
 imp h hq:=h.imp hq
def Q0:RK ZD DV where
 sz:=15
 cells d x:=[.bool d.pub,dM d.res.name,x.pv,.int .i64 d.res.base,x.cv,.int .i64 d.body.op,dM d.body.name,dM d.body.module,.bool (decide (d.body.num<0)),x.m,.bool d.body.yes,x.k,.int .i64 d.body.at_,.int .i64 d.res.at_,.int .i64 d.res.bare]
 inn P w d x:=RowK ZFK P w x.pv d.params∧RowK (ZK YA) P w x.cv d.res.clause∧nM YA P w x.m x.k d.body
 len _ _:=rfl
 frame h ha:=⟨h.1.frame ha,h.2.1.frame ha,h.2.2.frame ha⟩
 imp h hq:=⟨h.1.imp hq,h.2.1.imp hq,h.2.2.imp hq⟩
def AJ (B:Nat)(w:World)(ae:Option Addr)(fs:List ZF):Prop:=0<fs.length→∃ b off,ae=some ⟨b,off,none⟩∧b<B∧b<w.heap.size∧∀ i,(hi:i<fs.length)→∃ ac cc,jS B w ac fs[i].clause∧w.cell? ⟨b,off+i * 5,none⟩=some (.string ⟨fs[i].name.toArray⟩)∧w.cell? ⟨b,off+i * 5+1,none⟩=some (.int .i64 fs[i].base)∧w.cell? ⟨b,off+i * 5+2,none⟩=some (.slice ac fs[i].clause.length cc)∧w.cell? ⟨b,off+i * 5+3,none⟩=some (.int .i64 fs[i].at_)∧w.cell? ⟨b,off+i * 5+4,none⟩=some (.int .i64 fs[i].bare)
theorem TH {B:Nat}{w:World}{kv:Value}{zs:List ZF}(h:RowK ZFK (fun b=>b<B) w kv zs):∃ ao cap,kv=.slice ao zs.length cap∧AJ B w ao zs:=by
 obtain⟨ao,cap,hv,_,hf⟩:=h.form;refine⟨ao,cap,hv,fun h0=>?_⟩;obtain⟨b,off,h1,h2,h3,h4⟩:=hf h0;refine⟨b,off,h1,h2,h3,fun i hi=>?_⟩;obtain⟨x,h5,h6⟩:=h4 i hi;obtain⟨ac,cc,rfl,hk⟩:=Gy h5;exact⟨ac,cc,hk,h6 0 _ rfl,h6 1 _ rfl,h6 2 _ rfl,h6 3 _ rfl,h6 4 _ rfl⟩
theorem jS.qw {B:Nat}{w W:World}{ae:Option Addr}{ks:List PZ}(h:jS B w ae ks)(hW:Below B w W):jS B W ae ks:=fun h0=>by
 obtain⟨b,off,q1,q2,q3,q4⟩:=h h0;refine⟨b,off,q1,q2,Nat.lt_of_lt_of_le q3 hW.size,fun i hi=>?_⟩;obtain⟨Jy,wn',Jz,IJ,IL,q5,q6⟩:=q4 i hi;exact⟨Jy,wn',Jz,IJ,IL,q5.frame (aT.qw hW fun b hb=>hb),fun j u hu=>(hW.cell (p:=⟨b,off+i * 8+j,none⟩) q2).trans (q6 j u hu)⟩
theorem AJ.qw {B:Nat}{w W:World}{ae:Option Addr}{ks:List ZF}(h:AJ B w ae ks)(hW:Below B w W):AJ B W ae ks:=fun h0=>by
 obtain⟨b,off,q1,q2,q3,q4⟩:=h h0;refine⟨b,off,q1,q2,Nat.lt_of_lt_of_le q3 hW.size,fun i hi=>?_⟩;obtain⟨ac,cc,q5,c0,c1,c2,c3,c4⟩:=q4 i hi;exact⟨ac,cc,q5.qw hW,(hW.cell (p:=⟨b,off+i * 5,none⟩) q2).trans c0,(hW.cell (p:=⟨b,off+i * 5+1,none⟩) q2).trans c1,(hW.cell (p:=⟨b,off+i * 5+2,none⟩) q2).trans c2,(hW.cell (p:=⟨b,off+i * 5+3,none⟩) q2).trans c3,(hW.cell (p:=⟨b,off+i * 5+4,none⟩) q2).trans c4⟩
theorem dK {w:World}{b:Nat}{c0 c1 c2 c3 c4:Value}(h:w.heap[b]?=some (.cells #[c0,c1,c2,c3,c4] 80 (0,0))):w.cell? ⟨b,0,none⟩=some c0∧w.cell? ⟨b,1,none⟩=some c1∧w.cell? ⟨b,2,none⟩=some c2∧w.cell? ⟨b,3,none⟩=some c3∧w.cell? ⟨b,4,none⟩=some c4:=by
 refine⟨?_,?_,?_,?_,?_⟩<;>(rw[Lib.cell_of_heap h];rfl)
def abz (f:FuncId)(lb:Array Value)(p:ZF→Bool)(B:Nat)(w:World)(x:ZF):Prop:=∀ (W:World) (ac:Option Addr) (cc:Nat),Below w.heap.size w W→jS B W ac x.clause →
 Calls Tryz.prog f (#[.agg #[.string ⟨x.name.toArray⟩,.int .i64 x.base,.slice ac x.clause.length cc,.int .i64 x.at_,.int .i64 x.bare]]++lb) W fun r w'=>r=.returned (.bool (p x))∧Below W.heap.size W w'
def zO (p:ZF→Bool):List ZF→Nat→Int
 | [],_=>-1
 | x :: l,k=>if p x=true then k else zO p l (k+1)
theorem Mi (p:ZF→Bool):∀ (l:List ZF) (k:Nat),decide (0≤zO p l k)=l.any p
 | [],k=>rfl
 | x :: l,k=>by
  rw[zO,List.any_cons]
  split
  ·rename_i h;rw[h];exact decide_eq_true (by omega)
  ·rename_i h;rw[Bool.not_eq_true] at h;rw[h,Mi p l];rfl
theorem Q6 {p:ZF→Bool}:∀ {ks:List ZF} {k:Nat} (j:Nat) (h:k<ks.length),(∀ i,i<k→(hi:i<ks.length)→p ks[i]=false)→zO p ks j=if p ks[k]=true then ((j+k:Nat):Int) else zO p (ks.drop (k+1)) (j+k+1)
 | x :: l,0,j,h,_=>by simp[zO]
 | x :: l,k+1,j,h,hf=>by
  have h0:=hf 0 (by omega) (by simp)
  have ih:=Q6 (p:=p) (ks:=l) (k:=k) (j+1) (by simpa using h) fun i hi hl=>by have:=hf (i+1) (by omega) (by simpa using hl);simpa using this
  rw[zO,if_neg (by simpa using h0),ih];simp only[List.getElem_cons_succ,List.drop_succ_cons];rw[show j+1+k=j+(k+1) by omega]
theorem Q7 {p:ZF→Bool}:∀ {ks:List ZF} (j:Nat),(∀ i,(hi:i<ks.length)→p ks[i]=false)→zO p ks j=-1
 | [],_,_=>rfl
 | x :: l,j,hf=>by
  have h0:=hf 0 (by simp);rw[zO,if_neg (by simpa using h0)]
  exact Q7 (j+1) fun i hi=>by have:=hf (i+1) (by simpa using hi);simpa using this
theorem Py (f:FuncId)(lb:Array Value)(p:ZF→Bool)(eg:∀ args w,(callFunc f args).run Tryz.prog w=.ok (.enter f args) w)(B:Nat)(ae:Option Addr)(ce:Nat)(ks:List ZF)(w:World)(hk:AJ B w ae ks)(hB:B≤w.heap.size)(hn:ks.length≤1099511627776)(ha:∀ x∈ks,abz f lb p B w x) :
  Calls Tryz.prog 261 #[.slice ae ks.length ce,.func (.func f) #[] lb] w fun r w'=>r=.returned (.int .i64 (zO p ks 0))∧Below w.heap.size w w':=by
 have HK:=ah hk;have HA:=ah ha;clear hk ha;go_enter Tryz.func261,Tryz.ntmps261;go_wp2
 go_loopw [5,8] (fun _ q wr=>∃ k:Nat,k≤ks.length∧q=.int .i64 k∧(∀ i,i<k→(hi:i<ks.length)→p ks[i]=false)∧Below w.heap.size w wr) (fun _ q _=>ks.length - (intOf q).toNat)
 case atStart=>exact⟨0,Nat.zero_le _,rfl,fun i hi=>absurd hi (by omega),Below.refl _ _⟩
 case round =>
  obtain⟨k,hkl,rfl,hno,hbl⟩:=hrel;have hw:=hbl.size;have HN:=ah hno;clear hno
  by_cases hlt:k<ks.length
  ·obtain⟨b,off,rfl,hbB,hbw,nN⟩:=HK.out.qw (hbl.mono hB) (by omega)
   obtain⟨ac,cc,hE,y0,y1,y2,y3,y4⟩:=nN k hlt;have hA:=HA.out _ (List.getElem_mem hlt) wr ac cc hbl hE;have hix:=Q6 (p:=p) 0 hlt HN.out
   have hnx:p ks[k]=false→∀ i,i<k+1→(hi:i<ks.length)→p ks[i]=false:=fun q i hi hl=>by
    by_cases e:i=k
    ·subst e;exact q
    ·exact HN.out i (by omega) hl
   have HX:=ah hix;have Bc:=ah hnx;clear nN hE hix hnx;generalize ks[k]=x at y0 y1 y2 y3 y4 hA HX Bc
   have pQ:(k:Int)<(ks.length:Int):=by omega
   cases hq:p x with
   | true =>
    rw[hq] at hA;have QU:Hid (zO p ks 0=(k:Int)):=ah (by rw[HX.out,if_pos hq,Nat.zero_add]);have HAA:=ah hA;clear hA hq HX Bc;go_wp2_with (go_at_fn f;refine HAA.out.mono ?_;rintro r w2 ⟨rfl,hb2⟩);go_ret;exact⟨kg (by rw[QU.out]),hbl.trans (hb2.mono hw)⟩
   | false =>
    rw[hq] at hA;have abr:=ah (Bc.out hq);have HAA:=ah hA;clear hA hq HX Bc;go_wp2_with (go_at_fn f;refine HAA.out.mono ?_;rintro r w2 ⟨rfl,hb2⟩);exact⟨⟨k+1,by omega,by go_num,abr.out,hbl.trans (hb2.mono hw)⟩,by simp[intOf];omega⟩
  ·obtain rfl:k=ks.length:=by omega
   have pQ:decide ((ks.length:Int)<(ks.length:Int))=false:=decide_eq_false (by omega);have QU:Hid (zO p ks 0=-1):=ah (Q7 0 fun i hi=>HN.out i hi hi);clear HN;go_wp2;go_ret;exact⟨kg (by rw[QU.out]),hbl⟩
theorem Fh (f:FuncId)(lb:Array Value)(p:ZF→Bool)(eg:∀ args w,(callFunc f args).run Tryz.prog w=.ok (.enter f args) w)(B:Nat)(ae:Option Addr)(ce:Nat)(ks:List ZF)(w:World)(hk:AJ B w ae ks)(hB:B≤w.heap.size)(hn:ks.length≤1099511627776)(ha:∀ x∈ks,abz f lb p B w x) :
  Calls Tryz.prog 214 #[.slice ae ks.length ce,.func (.func f) #[] lb] w fun r w'=>r=.returned (.bool (ks.any p))∧Below w.heap.size w w':=by
 have HI:=ah (Py f lb p eg B ae ce ks w hk hB hn ha);have HY:=ah (Mi p ks 0);clear hk ha hn hB eg;generalize zO p ks 0=i at *;go_enter Tryz.func214,Tryz.ntmps214;go_wp2_with (go_at_call 261;refine HI.out.mono ?_;rintro r w2 ⟨rfl,hb2⟩);go_ret;exact⟨aM (by rw[← HY.out]),hb2⟩
theorem Pz (x:ZF)(hf:x.fit)(B:Nat)(w:World)(hB:B≤w.heap.size):abz 213 #[] (fun x=>!x.right) B w x:=by
 intro W ac cc hW hE;have hs:=hW.size;have hbx:=aj W (.cells #[.string ⟨x.name.toArray⟩,.int .i64 x.base,.slice ac x.clause.length cc,.int .i64 x.at_,.int .i64 x.bare] 80);have hN:=heap_alloc_new W (.cells #[.string ⟨x.name.toArray⟩,.int .i64 x.base,.slice ac x.clause.length cc,.int .i64 x.at_,.int .i64 x.bare] 80);have HP:=ah (fun V=>kI ⟨x.name.toArray⟩ V (by have:=hf.1;show x.name.toArray.size≤_;simp;omega));have HC:=ah (fun V (hV:Below W.heap.size W V)=>AB x.base B ac cc x.clause V (hE.below hV) (by have:=hV.size;omega) (by have:=hf.2.1;omega) hf.2.2)
 have hdef:(!x.right)=(!aR x.name || !eO x.base x.clause):=by rw[ZF.right,Bool.not_and]
 show Calls _ _ #[_] _ fun r w'=>r=.returned (.bool (!x.right))∧Below W.heap.size W w'
 rw[hdef];have eN:(ByteArray.mk x.name.toArray).data.toList=x.name:=rfl;rw[eN] at HP;generalize aR x.name=pl at *;generalize eO x.base x.clause=cl at *;clear hE hf hdef eN;go_enter Tryz.func213,Tryz.ntmps213
 go_upto_region 1 with fail
 change Code.wp _ _ _ _ (W.alloc (.cells #[.string ⟨x.name.toArray⟩,.int .i64 x.base,.slice ac x.clause.length cc,.int .i64 x.at_,.int .i64 x.bare] 80));generalize W.alloc _=w0 at hbx hN ⊢;have hl0:=(bQ hN).1;obtain⟨y0,y1,y2,y3,y4⟩:=dK hN
 cases pl with
 | false =>
  clear HC;go_wp2_with (go_at_call 48;refine(HP.out _).mono ?_;rintro r w1 ⟨rfl,hb1⟩);go_ret;exact⟨rfl,hbx.trans (hb1.mono hbx.size)⟩
 | true =>
  go_wp2_with (first|(go_at_call 48;refine(HP.out _).mono ?_;rintro r w1 ⟨rfl,hb1⟩;have mO:=hbx.trans (hb1.mono hbx.size);obtain⟨z0,z1,z2,z3,z4⟩:=dK ((hb1.block _ hl0).trans hN))|(go_at_call 75;refine(HC.out _ mO).mono ?_;rintro r w2 ⟨rfl,hb2⟩));go_ret;exact⟨rfl,mO.trans (hb2.mono mO.size)⟩
end Go.Proofs.YtknicmmigbhpcaaGreatDoor

namespace Go.Proofs.YtknicmmigbhpcaaGreatDoor
abbrev Fl:=Option (Int × Int)
def l7:Fl→Fl→Fl
 | none,b=>b
 | some x,_=>some x
theorem nO (a:Fl):l7 a none=a:=by cases a<;>rfl
theorem q9 (a b c:Fl):l7 (l7 a b) c=l7 a (l7 b c):=by cases a<;>rfl
structure SE where
 imps:List (List UInt8)
 arity:List UInt8→Option Nat
 ext:List UInt8→List UInt8→Option Nat
def Dx (o:Option Nat)(n:Nat)(a:Int):Fl:=match o with
 | none=>some (31,a)
 | some k=>if k=n then none else some (32,a)
def Gz (E:SE)(nm md:List UInt8)(n:Nat)(a:Int):Fl :=
 if md=[] then Dx (E.arity nm) n a else if md∈E.imps then Dx (E.ext md nm) n a else some (33,a)
def uH (E:SE)(bd:List (List UInt8))(res:Bool)(op:Int)(nm md:List UInt8)(n:Nat)(a:Int):Fl :=
 if (op=3∧nm ∉ bd)∨(op=4∧res=false) then some (31,a) else if op=24 then Gz E nm md n a else none
def Mj (op:Int)(nm:List UInt8)(bd:List (List UInt8))(i:Nat):List (List UInt8):=if op=22∧i=1 then fF (bd++[nm]) else bd
mutual
def PZ.fI (E:SE)(bd:List (List UInt8))(res:Bool):PZ→Fl
 | .mk op nm md _ _ kids a=>l7 (uH E bd res op nm md kids.length a) (gy E op nm bd res 0 kids)
def gy (E:SE)(op:Int)(nm:List UInt8)(bd:List (List UInt8))(res:Bool):Nat→List PZ→Fl
 | _,[]=>none
 | i,e :: l=>l7 (e.fI E (Mj op nm bd i) res) (gy E op nm bd res (i+1) l)
end
theorem PZ.PD (E:SE)(bd:List (List UInt8))(res:Bool)(e:PZ):e.fI E bd res=l7 (uH E bd res e.op e.name e.module e.kids.length e.at_) (gy E e.op e.name bd res 0 e.kids):=by cases e;rw[PZ.fI];rfl
theorem yE (E:SE)(op:Int)(nm:List UInt8)(bd:List (List UInt8))(res:Bool)(e:PZ):∀ (l:List PZ) (i:Nat),gy E op nm bd res i (l++[e])=l7 (gy E op nm bd res i l) (e.fI E (Mj op nm bd (i+l.length)) res)
 | [],i=>by rw[List.nil_append,gy,gy,gy,nO];rfl
 | x :: l,i=>by
  rw[List.cons_append,gy,gy,yE E op nm bd res e l (i+1),q9,dI,show i+1+l.length=i+(l.length+1) by omega]
theorem I4 (E:SE)(op:Int)(nm:List UInt8)(bd:List (List UInt8))(res:Bool){l:List PZ}{k:Nat}(h:k<l.length) :
  gy E op nm bd res 0 (l.take (k+1))=l7 (gy E op nm bd res 0 (l.take k)) (l[k].fI E (Mj op nm bd k) res):=by
 rw[List.take_succ_eq_append_getElem h,yE,List.length_take,Nat.min_eq_left (Nat.le_of_lt h),Nat.zero_add]
def bS (E:SE)(bd:List (List UInt8))(res:Bool):List PZ→Fl
 | []=>none
 | e :: l=>l7 (e.fI E bd res) (bS E bd res l)
theorem vV (E:SE)(bd:List (List UInt8))(res:Bool)(e:PZ):∀ l:List PZ,bS E bd res (l++[e])=l7 (bS E bd res l) (e.fI E bd res)
 | []=>by rw[List.nil_append,bS,bS,bS,nO];rfl
 | x :: l=>by rw[List.cons_append,bS,bS,vV E bd res e l,q9]
theorem Fj (E:SE)(bd:List (List UInt8))(res:Bool){l:List PZ}{k:Nat}(h:k<l.length):bS E bd res (l.take (k+1))=l7 (bS E bd res (l.take k)) (l[k].fI E bd res):=by
 rw[List.take_succ_eq_append_getElem h,vV]
def kL (E:SE)(s:List (List UInt8) × Fl):List ZF→List (List UInt8) × Fl
 | []=>s
 | f :: l=>kL E (fF (s.1++[f.name]),l7 (l7 s.2 (if f.name∈s.1 then some (30,f.at_) else none)) (bS E (fF (s.1++[f.name])) false f.clause)) l
theorem AL (E:SE)(f:ZF):∀ (l:List ZF) (s:List (List UInt8) × Fl),kL E s (l++[f])=kL E (kL E s l) [f]
 | [],s=>rfl
 | x :: l,s=>AL E f l _
theorem Mk (E:SE)(s:List (List UInt8) × Fl){l:List ZF}{k:Nat}(h:k<l.length):kL E s (l.take (k+1))=kL E (kL E s (l.take k)) [l[k]]:=by
 rw[List.take_succ_eq_append_getElem h,AL]
def AO (E:SE)(f:Fl)(d:ZD):Fl :=
 l7 (l7 (kL E ([],f) d.params).2 (bS E (kL E ([],f) d.params).1 true d.res.clause)) (d.body.fI E (kL E ([],f) d.params).1 false)
def sw (E:SE)(f:Fl):List ZD→Fl
 | []=>f
 | d :: l=>sw E (AO E f d) l
theorem AP (E:SE)(d:ZD):∀ (l:List ZD) (f:Fl),sw E f (l++[d])=AO E (sw E f l) d
 | [],f=>rfl
 | x :: l,f=>AP E d l _
theorem Ml (E:SE)(f:Fl){l:List ZD}{k:Nat}(h:k<l.length):sw E f (l.take (k+1))=AO E (sw E f (l.take k)) l[k]:=by
 rw[List.take_succ_eq_append_getElem h,AP]
def PG (own:List UInt8)(face:List UInt8→Bool)(s:List (List UInt8) × Fl):List (List UInt8 × Int)→List (List UInt8) × Fl
 | []=>s
 | m :: l=>PG own face (fF (s.1++[m.1]),l7 s.2 (if m.1=own then some (33,m.2) else if m.1∈s.1 then some (30,m.2) else if face m.1=true then none else some (33,m.2))) l
def gB (l:List ZD)(nm:List UInt8):Option Nat:=(l.find? fun d=>decide (d.res.name=nm)).map fun d=>d.params.length
def jm (f:Fl):List (List UInt8)→List ZD→Fl
 | _,[]=>f
 | seen,d :: l=>jm (l7 f (if d.res.name∈seen then some (30,d.res.at_) else none)) (seen++[d.res.name]) l
theorem yF (d:ZD):∀ (l:List ZD) (f:Fl) (seen:List (List UInt8)),jm f seen (l++[d])=l7 (jm f seen l) (if d.res.name∈seen++l.map (fun x=>x.res.name) then some (30,d.res.at_) else none)
 | [],f,seen=>by rw[List.nil_append,jm,jm,jm,List.map_nil,List.append_nil]
 | x :: l,f,seen=>by rw[List.cons_append,jm,jm,yF d l,List.map_cons,List.append_assoc];rfl
theorem I5 (f:Fl){l:List ZD}{k:Nat}(h:k<l.length):jm f [] (l.take (k+1))=l7 (jm f [] (l.take k)) (if l[k].res.name∈(l.take k).map (fun x=>x.res.name) then some (30,l[k].res.at_) else none):=by
 rw[List.take_succ_eq_append_getElem h,yF,List.nil_append]
def ZP.se (p:ZP)(own:List UInt8)(face:List UInt8→Bool)(ext:List UInt8→List UInt8→Option Nat):SE:=⟨(PG own face ([],none) p.imports).1,gB p.defs,ext⟩
def ZP.fI (p:ZP)(own:List UInt8)(face:List UInt8→Bool)(ext:List UInt8→List UInt8→Option Nat):Fl :=
 sw (p.se own face ext) (jm (PG own face ([],none) p.imports).2 [] p.defs) p.defs
end Go.Proofs.YtknicmmigbhpcaaGreatDoor

namespace Go.Proofs.YtknicmmigbhpcaaGreatDoor
open Go.RowKit Go Go.Sort
theorem Tryz.Q8:(Tryz.prog.info? 9).map (fun i=>(i.zero,i.size,i.bytes))=some (some (.string ⟨#[]⟩),1,16):=by kernel_rfl
def Fp (B:Nat)(w:World)(v:Value)(l:List (List UInt8)):Prop:=w.ownsRow B 9 1 v l.length (l.map encStr)
theorem Fp.slice {B:Nat}{w:World}{v:Value}{l:List (List UInt8)}(h:Fp B w v l):∃ ak ck,v=.slice ak l.length ck:=by
 obtain⟨ao,cap,e,_,_⟩:=(fM.owns (P:=fun _=>True) h (fun _ _=>trivial)).slice;exact⟨ao,cap,e⟩
def Mq (w:World)(e:Ending)(w':World):Prop:=∃ v,e=.returned v∧Fp w.heap.size w' v []∧Below w.heap.size w w'
theorem TI (n:Nat)(w:World)(hn:n≤4000000):Calls Tryz.prog 157 #[.slice none 0 0,.int .i64 n] w (Mq w):=by
 rcases Nat.eq_zero_or_pos n with h0|h0
 ·subst h0
  go_enter Tryz.func157,Tryz.ntmps157;go_wp2;go_ret;exact⟨_,rfl,World.ownsRow_nil _ _ _ _,Below.refl _ _⟩
 ·obtain⟨i0,hi,hz0,hz1,hz2⟩:=info_parts Tryz.Q8
  have hrz:=Lib.run_append_grow_zeros (P:=Tryz.prog) w 22 3 22 9 i0 _ .i64 .i64 Tryz.underlying22 Tryz.underlying3 hi hz0 none 0 0 [] (run_firstCells_none _ _ _ _ _) n h0 (by omega) (by omega) (by omega) (by rw[hz2];omega) (by rw[hz2];exact growslice_fits (by omega) (by omega));rw[Nat.zero_add] at hrz;have hG1:=grownCap_ge w n 0 9;have hG2:=grownCap_le_maxLen w n 0 9 (by unfold maxLen;omega);generalize grownCap w n 0 9=G at *
  have hown:((w.alloc (.cells (Builtin.zeroCells #[Value.string ⟨#[]⟩] n++Builtin.zeroCells #[Value.string ⟨#[]⟩] (G - n)) 9)).drew).ownsRow w.heap.size 9 1 (.slice (some ⟨w.heap.size,0,none⟩) 0 G) 0 [] :=
   ⟨rfl,.inr ⟨w.heap.size,G,_,rfl,Nat.le_refl _,heap_alloc_new w _,by omega,hG2,by simp[size_zeroCells];omega,by simp⟩⟩
  have hbel:Below w.heap.size w ((w.alloc (.cells (Builtin.zeroCells #[Value.string ⟨#[]⟩] n++Builtin.zeroCells #[Value.string ⟨#[]⟩] (G - n)) 9)).drew):=((Below.refl _ w).alloc (Nat.le_refl _) _).drew;have HO:=ah hown;have HB:=ah hbel
  have hG3:G≤9223372036854775807:=by unfold maxLen at hG2;omega
  have hnI:(0:Int)<(n:Int):=by omega
  have hn0:¬ ((n:Int)<0):=by omega
  clear hown hbel;go_enter Tryz.func157,Tryz.ntmps157;go_wp2_with (at_builtin;refine Lib.wpList_append_run _ rfl _ _ _ _ rfl _ _ rfl rfl _ _ hrz ?_)
  all_goals (go_ret;exact⟨_,rfl,HO.out,HB.out⟩)
theorem fM.news {P:Nat→Prop}{w:World}{ad:Addr}{n c:Nat}{l:List (List UInt8)}(h:fM P w (.slice (some ad) n c) l):∀ j u,(l.map encStr)[j]?=some u→w.cell? (ad.add j)=some u:=by
 obtain⟨ao,cap,hv,_,hc⟩:=h.slice;simp only[Value.slice.injEq] at hv;obtain⟨rfl,rfl,rfl⟩:=hv;intro j u hj;rw[List.getElem?_map] at hj;obtain⟨x,hx,rfl⟩:=Option.map_eq_some_iff.1 hj;obtain⟨hjl,rfl⟩:=nY hx;obtain⟨b,off,e,_,_,hcell⟩:=hc (by omega)
 injection e with e
 subst e;rw[Addr.add_lit];exact hcell j hjl
def ZV (l:List (List UInt8))(w:World)(e:Ending)(w':World):Prop:=∃ v,e=.returned v∧Fp w.heap.size w' v l∧Below w.heap.size w w'
theorem Q9 (l:List (List UInt8)):∀ u∈l.map encStr,u.oneCell'=true:=by
 intro u hu;obtain⟨x,_,rfl⟩:=List.mem_map.1 hu
 rfl
theorem Fp.app {B:Nat}{w:World}{v:Value}{l a:List (List UInt8)}(h:w.ownsRow B 9 1 v (l.length+a.length) (l.map encStr++a.map encStr)):Fp B w v (l++a):=by
 unfold Fp;rw[bC,List.map_append];exact h
theorem PI (P:Nat→Prop)(v1 v2:Value)(a b:List (List UInt8))(sb:Nat)(w:World)(h1:fM P w v1 a)(h2:fM P w v2 b)(hs:w.heap[sb]?=some (.cells #[v1,v2] 22 (0,0)))(ha:a.length≤1000000)(hb:b.length≤1000000) :
  Calls Tryz.prog 94 #[.slice (some ⟨sb,0,none⟩) 2 2] w (ZV (a++b) w):=by
 obtain⟨i0,hi,hz0,hz1,hz2⟩:=info_parts Tryz.Q8;obtain⟨a1,c1,rfl,hc1,-⟩:=h1.slice;obtain⟨a2,c2,rfl,hc2,-⟩:=h2.slice;have hsl:=(bQ hs).1
 have x0:w.cell? ⟨sb,0,none⟩=some (.slice a1 a.length c1):=by rw[Lib.cell_of_heap hs];rfl
 have x1:w.cell? ⟨sb,1,none⟩=some (.slice a2 b.length c2):=by rw[Lib.cell_of_heap hs];rfl
 have HG:Hid (Calls Tryz.prog 157 #[.slice none 0 0,.int .i64 ((a.length:Int)+(b.length:Int))] w (Mq w)):=ah (by
  have:=TI (a.length+b.length) w (by omega);rw[Int.natCast_add] at this
  exact this)
 have H1:=ah h1;have H2:=ah h2;have HS:=ah hs
 have haI:(a.length:Int)≤1000000:=by omega
 have hbI:(b.length:Int)≤1000000:=by omega
 have hnn:¬ ((a.length:Int)+(b.length:Int)<0):=by omega
 have hn1:¬ ((a.length:Int)<0):=by omega
 clear h1 h2 hs;go_enter Tryz.func94,Tryz.ntmps94;go_wp2
 go_loopw [3,5,11] (fun s _ q wr=>wr=w∧((q=.int .i64 0∧s=.int .i64 0)∨(q=.int .i64 1∧s=.int .i64 a.length)∨(q=.int .i64 2∧s=.int .i64 ((a.length:Int)+(b.length:Int))))) (fun _ _ q _=>(2 - intOf q).toNat)
 case atStart=>exact⟨rfl,.inl ⟨rfl,rfl⟩⟩
 case round =>
  obtain⟨rfl,⟨rfl,rfl⟩|⟨rfl,rfl⟩|⟨rfl,rfl⟩⟩:=hrel
  ·clear HG H1 H2 HS
   go_wp2
   go_roundw
   case rel=>exact⟨by trivial,.inr (.inl ⟨rfl,by simp⟩)⟩
   case measure=>simp[intOf]
  ·clear HG H1 H2 HS
   go_wp2
   go_roundw
   case rel=>exact⟨by trivial,.inr (.inr ⟨rfl,rfl⟩)⟩
   case measure=>simp[intOf]
  ·clear x0 x1
   obtain⟨w0,rfl⟩:∃ w0:World,w0=wr:=⟨_,rfl⟩
   go_upto_region 10 with (go_at_call 157;refine HG.out.mono ?_;rintro e w2 ⟨v,rfl,hown,hb2⟩)
   obtain⟨ak0,ck0,rfl⟩:=hown.slice;have HO:=ah hown;have HB2:=ah hb2;clear hown hb2 HG;go_wp2
   go_loopw [6,8,27] (fun kv _ q w3=>∃ (ak:Option Addr) (ck:Nat) (l:List (List UInt8)),kv=.slice ak l.length ck∧Fp w0.heap.size w3 (.slice ak l.length ck) l∧Below w0.heap.size w0 w3∧((q=.int .i64 0∧l=[])∨(q=.int .i64 1∧l=a)∨(q=.int .i64 2∧l=a++b))) (fun _ _ q _=>(2 - intOf q).toNat)
   case atStart=>exact⟨ak0,ck0,[],rfl,HO.out,HB2.out,.inl ⟨rfl,rfl⟩⟩
   case round =>
    obtain⟨ak,ck,l,rfl,hown,hbl,⟨rfl,rfl⟩|⟨rfl,hla⟩|⟨rfl,rfl⟩⟩:=hrel
    ·-- round 0
     have hsc:wr.cell? ⟨sb,0,none⟩=some (.slice a1 a.length c1):=by rw[Lib.cell_of_heap ((hbl.block sb hsl).trans HS.out)];rfl
     have ht:=H1.out.below hbl;have I6:=hbl.size
     cases a1 with
     | none =>
      obtain rfl:=ht.2 _ _ rfl
      have hl0:a.length=0:=by
       obtain⟨ao,cap,hv,_,hc⟩:=ht.slice
       rcases Nat.eq_zero_or_pos a.length with q|q
       ·exact q
       ·obtain⟨b,off,e,_⟩:=hc q
        simp only[Value.slice.injEq] at hv;rw[← hv.1] at e;cases e
      have he:=List.eq_nil_of_length_eq_zero hl0;rw[hl0] at hsc;have HW:=ah hown;have HE:=ah he;clear ht hown he hl0 H1 H2;go_wp2_with (at_builtin;refine wpList_append_own_none rfl _ _ 22 rfl w0.heap.size 9 i0 1 Tryz.underlying22 hi _ ([]:List (List UInt8)).length _ rfl HW.out rfl ?_)
      go_roundw
      case rel =>
       repeat apply Exists.intro
       exact⟨⟨_,_,_,rfl,HW.out,hbl,.inr (.inl ⟨rfl,HE.out.symm⟩)⟩,rfl⟩
      case measure=>simp[intOf]
     | some ad =>
      have hnews:=ht.news;have HW:=ah hown;clear ht H1 H2;go_wp2_with (at_builtin;refine wpList_append_own _ rfl _ _ 22 rfl w0.heap.size 9 i0 _ 1 16 Tryz.underlying22 hi hz0 hz1 hz2 rfl (by decide) _ ([]:List (List UInt8)).length _ rfl HW.out ad a.length c1 (a.map encStr) rfl ?q1 hnews (Q9 _) ?q2 ?q3 I6 ?_)
      case q1=>simp
      case q2=>unfold maxLen;first|omega|(simp only[List.length_nil];omega)
      case q3=>first|omega|(simp only[List.length_nil];omega)
      intro v' w' hown' hgrow hiff;have hb':=hbl.grown hgrow I6 (fun b q=>(HW.out.lt b q).1);have HO':Hid (Fp w0.heap.size w' v' a):=ah hown';obtain⟨IJ,IL,rfl⟩:=HO'.out.slice;clear hown' hgrow hiff hown HW hnews;go_wp2
      go_roundw
      case rel =>
       repeat apply Exists.intro
       exact⟨⟨_,_,_,rfl,HO'.out,hb',.inr (.inl ⟨rfl,rfl⟩)⟩,rfl⟩
      case measure=>simp[intOf]
    ·-- round 1
     have afU:l.length≤1000000:=by rw[hla];exact ha
     have HLA:=ah hla;clear hla
     have hsc:wr.cell? ⟨sb,1,none⟩=some (.slice a2 b.length c2):=by rw[Lib.cell_of_heap ((hbl.block sb hsl).trans HS.out)];rfl
     have ht:=H2.out.below hbl;have I6:=hbl.size
     cases a2 with
     | none =>
      obtain rfl:=ht.2 _ _ rfl
      have hl0:b.length=0:=by
       obtain⟨ao,cap,hv,_,hc⟩:=ht.slice
       rcases Nat.eq_zero_or_pos b.length with q|q
       ·exact q
       ·obtain⟨b,off,e,_⟩:=hc q
        simp only[Value.slice.injEq] at hv;rw[← hv.1] at e;cases e
      have he:=List.eq_nil_of_length_eq_zero hl0;rw[hl0] at hsc;have HW:=ah hown;have HE:=ah he;clear ht hown he hl0 H1 H2;go_wp2_with (at_builtin;refine wpList_append_own_none rfl _ _ 22 rfl w0.heap.size 9 i0 1 Tryz.underlying22 hi _ l.length _ rfl HW.out rfl ?_)
      go_roundw
      case rel =>
       repeat apply Exists.intro
       exact⟨⟨_,_,_,rfl,HW.out,hbl,.inr (.inr ⟨rfl,by rw[HE.out,List.append_nil,HLA.out]⟩)⟩,rfl⟩
      case measure=>simp[intOf]
     | some ad =>
      have hnews:=ht.news;have HW:=ah hown;clear ht H1 H2;go_wp2_with (at_builtin;refine wpList_append_own _ rfl _ _ 22 rfl w0.heap.size 9 i0 _ 1 16 Tryz.underlying22 hi hz0 hz1 hz2 rfl (by decide) _ l.length _ rfl HW.out ad b.length c2 (b.map encStr) rfl ?q1 hnews (Q9 _) ?q2 ?q3 I6 ?_)
      case q1=>simp
      case q2=>unfold maxLen;first|omega|(simp only[List.length_nil];omega)
      case q3=>first|omega|(simp only[List.length_nil];omega)
      intro v' w' hown' hgrow hiff;have hb':=hbl.grown hgrow I6 (fun b q=>(HW.out.lt b q).1);have HO':=ah (Fp.app (l:=l) (a:=b) hown');obtain⟨IJ,IL,rfl⟩:=HO'.out.slice;clear hown' hgrow hiff hown HW hnews;go_wp2
      go_roundw
      case rel =>
       repeat apply Exists.intro
       exact⟨⟨_,_,_,rfl,HO'.out,hb',.inr (.inr ⟨rfl,by rw[HLA.out]⟩)⟩,rfl⟩
      case measure=>simp[intOf]
    ·have HW:=ah hown
     clear hown H1 H2;go_wp2;go_ret;exact⟨_,rfl,HW.out,hbl⟩
theorem abA {w:World}{b:Nat}{v u:Value}(h:w.heap[b]?=some (.cells #[v] 114 (0,0))):(w.setCell ⟨b,0,none⟩ u).cell? ⟨b,0,none⟩=some u:=by
 have:=heap_setCell_same w b 0 _ _ u h;rw[Lib.cell_of_heap this];rfl
theorem Dy (P:Nat→Prop)(ao:Option Addr)(c:Nat)(v2:Value)(a b:List (List UInt8))(w:World)(h1:fM P w (.slice ao a.length c) a)(h2:fM P w v2 b)(ha:a.length≤500000)(hb:b.length≤500000) :
  Calls Tryz.prog 61 #[.agg #[.slice ao a.length c],v2] w (QA (fF (a++b)) w):=by
 obtain⟨a2,c2,rfl,-,-⟩:=h2.slice;have hal:=(aj w (.cells #[.slice ao a.length c] 114)).alloc (by simp) (.cells #[.slice none 0 0] 114);have hN:=(Lib.alloc_old (w.alloc (.cells #[.slice ao a.length c] 114)) (.cells #[.slice none 0 0] 114) w.heap.size (by simp)).trans (heap_alloc_new w (.cells #[.slice ao a.length c] 114));have hR:=heap_alloc_new (w.alloc (.cells #[.slice ao a.length c] 114)) (.cells #[.slice none 0 0] 114);rw[World.size_alloc] at hR;have HC:=ah (fun W (hW:Below w.heap.size w W)=>PI P (.slice ao a.length c) (.slice a2 b.length c2) a b W.heap.size (W.alloc (.cells #[.slice ao a.length c,.slice a2 b.length c2] 22)) ((h1.below hW).below (aj W _)) ((h2.below hW).below (aj W _)) (heap_alloc_new W _) (by omega) (by omega))
 have hlen:(a++b).length≤1000000:=by rw[bC];omega
 clear h1 h2;go_enter Tryz.func61,Tryz.ntmps61
 go_upto_region 1 with fail
 change Code.wp _ _ _ _ ((w.alloc (.cells #[.slice ao a.length c] 114)).alloc (.cells #[.slice none 0 0] 114));generalize (w.alloc _).alloc _=w1 at hal hN hR ⊢;have hlR:=(bQ hR).1;have c0:=(bA hN).1;have hz1:=hal.size;have EU:=ah (HC.out w1 hal);clear HC hN;go_wp2_with (first|(go_at_call 94;refine EU.out.mono ?_;rintro e w2 ⟨v,rfl,hown,hb2⟩;have oo:=(aj w1 (.cells #[.slice ao a.length c,.slice a2 b.length c2] 22)).trans (hb2.mono (by simp));have hz2:=oo.size;have ZW:=ah (aa2 (fun _=>True) v (a++b) w2 (fM.owns hown (fun _ _=>trivial)) hlen))|(go_at_call 93;refine ZW.out.mono ?_;rintro e w3 ⟨ar,cr,rfl,htx,hb3⟩;have Hg:=oo.trans (hb3.mono hz2);have hR3:=(Hg.block _ hlR).trans hR;have hfz:=(bA hR3).2;have hc0:=(bA hR3).1));have hs0:=abA (u:=.slice ar (fF (a++b)).length cr) hR3;have hbw:Below w.heap.size w (w3.setCell ⟨w.heap.size+1,0,none⟩ (.slice ar (fF (a++b)).length cr)):=(hal.trans (Hg.mono hz1)).setCell (by show w.heap.size≤w.heap.size+1;omega) _
 have aa3:fM (fun b=>w.heap.size≤b) (w3.setCell ⟨w.heap.size+1,0,none⟩ (.slice ar (fF (a++b)).length cr)) (.slice ar (fF (a++b)).length cr) (fF (a++b)):=(htx.frame (aT.set _ fun k hk=>by show k≠w.heap.size+1;omega)).imp fun k hk _=>by omega
 exact bodyPost_ret (v:=.agg #[.slice ar (fF (a++b)).length cr]) (by simp[results,Tryz.results61,go_sem,hs0]) rfl ⟨_,_,rfl,aa3,hbw⟩
end Go.Proofs.YtknicmmigbhpcaaGreatDoor

namespace Go.Proofs.YtknicmmigbhpcaaGreatDoor
open Go.RowKit Go Go.Sort
end Go.Proofs.YtknicmmigbhpcaaGreatDoor

namespace Go.Proofs.YtknicmmigbhpcaaGreatDoor
open Go.RowKit Go
def JE (f:Fl):Int:=match f with
 | none=>0
 | some x=>x.1
def JF (f:Fl):Int:=match f with
 | none=>0
 | some x=>x.2
def gY (f:Fl):Prop:=∀ x,f=some x→x.1≠0
theorem gY.none:gY none:=fun _ h=>by cases h
theorem gY.some {e a:Int}(h:e≠0):gY (some (e,a)):=fun x q=>by injection q with q;subst q;exact h
theorem gY.or {f g:Fl}(h:gY f)(k:gY g):gY (l7 f g):=by cases f<;>assumption
structure TJ where
 md:List UInt8
 pi:Value
 pd:Value
 fs:Value
 db:Nat
def ZX (C:TJ)(im:Value)(f:Fl):Array Value:=#[.string ⟨C.md.toArray⟩,C.pi,C.pd,C.fs,im,.pointer (some ⟨C.db,0,none⟩),.int .i64 (JE f),.int .i64 (JF f)]
def kM (C:TJ)(lb:Nat)(im:Value)(f:Fl)(w:World):Prop:=w.heap[lb]?=some (.cells (ZX C im f) 116 (0,0))
theorem kM.cells {C:TJ}{lb:Nat}{im:Value}{f:Fl}{w:World}(h:kM C lb im f w):(w.cell? ⟨lb,0,none⟩=some (.string ⟨C.md.toArray⟩)∧w.cell? ⟨lb,1,none⟩=some C.pi∧w.cell? ⟨lb,2,none⟩=some C.pd∧w.cell? ⟨lb,3,none⟩=some C.fs∧w.cell? ⟨lb,4,none⟩=some im∧w.cell? ⟨lb,5,none⟩=some (.pointer (some ⟨C.db,0,none⟩))∧w.cell? ⟨lb,6,none⟩=some (.int .i64 (JE f))∧w.cell? ⟨lb,7,none⟩=some (.int .i64 (JF f)))∧∀ i,w.frozen? ⟨lb,i,none⟩=false:=by
 refine⟨⟨?_,?_,?_,?_,?_,?_,?_,?_⟩,fun i=>by rw[kM] at h;simp[World.frozen?,h]⟩
 all_goals (rw[Lib.cell_of_heap h];rfl)
theorem kM.lt {C:TJ}{lb:Nat}{im:Value}{f:Fl}{w:World}(h:kM C lb im f w):lb<w.heap.size:=(bQ h).1
theorem kM.below {C:TJ}{lb:Nat}{im:Value}{f:Fl}{w w':World}(h:kM C lb im f w)(hb:Below w.heap.size w w'):kM C lb im f w':=(hb.block lb h.lt).trans h
def cZ (lb:Nat)(w w':World):Prop:=(∀ B,B≤lb→Below B w w')∧aT (fun b=>b≠lb) w w'
theorem cZ.refl (lb:Nat)(w:World):cZ lb w w:=⟨fun B _=>Below.refl B w,aT.refl _ _⟩
theorem cZ.trans {lb:Nat}{a b c:World}(h:cZ lb a b)(k:cZ lb b c):cZ lb a c:=⟨fun B hB=>(h.1 B hB).trans (k.1 B hB),h.2.trans k.2⟩
theorem cZ.of {lb:Nat}{w w':World}(h:Below w.heap.size w w')(hl:lb<w.heap.size):cZ lb w w':=⟨fun B hB=>h.mono (by omega),aT.of h⟩
theorem cZ.set {lb:Nat}(w:World)(i:Nat)(v:Value):cZ lb w (w.setCell ⟨lb,i,none⟩ v):=⟨fun B hB=>(Below.refl B w).setCell hB v,aT.set v fun b hb=>hb⟩
def wX (C:TJ)(lb:Nat)(im:Value)(f:Fl)(w:World)(r:Ending)(w':World):Prop:=r=.returned (.tuple #[])∧kM C lb im f w'∧cZ lb w w'
theorem vE (C:TJ)(lb:Nat)(im:Value)(f:Fl)(e a:Int)(w:World)(h:kM C lb im f w)(hf:gY f) :
  Calls Tryz.prog 56 #[.pointer (some ⟨lb,0,none⟩),.int .i64 e,.int .i64 a] w (wX C lb im (l7 f (some (e,a))) w):=by
 obtain⟨⟨-,-,-,-,-,-,c6,c7⟩,hz⟩:=h.cells;have z6:=hz 6;have z7:=hz 7;have H:=ah h;clear hz h
 cases f with
 | none =>
  simp only[JE,JF] at c6 c7;have h2:kM C lb im (l7 none (some (e,a))) ((w.setCell ⟨lb,6,none⟩ (.int .i64 e)).setCell ⟨lb,7,none⟩ (.int .i64 a)):=heap_setCell_same _ lb 7 _ _ _ (heap_setCell_same w lb 6 _ _ _ H.out);have H2:=ah h2;clear h2;go_enter Tryz.func56,Tryz.ntmps56;go_wp2
  go_end0
  exact⟨rfl,H2.out,(cZ.set w 6 _).trans (cZ.set _ 7 _)⟩
 | some x =>
  have hx:(x.1 == 0)=false:=by
   have:=hf x rfl
   simpa using this
  simp only[JE,JF] at c6 c7;generalize x.1=xe at c6 hx
  have hx':¬ xe=0:=by simpa using hx
  clear hx c7;go_enter Tryz.func56,Tryz.ntmps56;go_wp2
  go_end0
  exact⟨rfl,H.out,cZ.refl _ _⟩
def sQ:RK (List UInt8) Unit where
 sz:=2
 cells m _:=[.string ⟨m.toArray⟩,.slice none 0 0]
 inn _ _ _ _:=True
 len _ _:=rfl
 frame _ _:=trivial
 imp _ _:=trivial
theorem kN {w:World}{b:Nat}{u v:Value}(h:w.heap[b]?=some (.cells #[u,v] 27 (0,0))):w.cell? ⟨b,0,none⟩=some u∧w.cell? ⟨b,1,none⟩=some v:=⟨by rw[Lib.cell_of_heap h];rfl,by rw[Lib.cell_of_heap h];rfl⟩
theorem TK (P:Nat→Prop)(af:Option Addr)(cf:Nat)(ms:List (List UInt8))(m n:List UInt8)(w:World)(h:RowK sQ P w (.slice af ms.length cf) ms)(hl:ms.length≤1000000) :
  Calls Tryz.prog 11 #[.slice af ms.length cf,.string ⟨m.toArray⟩,.string ⟨n.toArray⟩] w fun e w'=>e=.returned (.tuple #[.agg #[.string ⟨#[]⟩,.slice none 0 0,.int .i64 0,.slice none 0 0],.bool false])∧Below w.heap.size w w':=by
 obtain⟨ao',cap,hv,_,hf⟩:=h.form;simp only[Value.slice.injEq] at hv;obtain⟨rfl,-,rfl⟩:=hv;have hal:=aj w (.cells #[.string ⟨#[]⟩,.slice none 0 0,.int .i64 0,.slice none 0 0] 31);have hR:=heap_alloc_new w (.cells #[.string ⟨#[]⟩,.slice none 0 0,.int .i64 0,.slice none 0 0] 31);have HF:=ah hf;clear h hf;go_enter Tryz.func11,Tryz.ntmps11
 go_upto_region 1 with fail
 change Code.wp _ _ _ _ (w.alloc (.cells #[.string ⟨#[]⟩,.slice none 0 0,.int .i64 0,.slice none 0 0] 31))
 have hz:w.heap.size<(w.alloc (.cells #[.string ⟨#[]⟩,.slice none 0 0,.int .i64 0,.slice none 0 0] 31)).heap.size:=by simp
 generalize w.alloc _=w1 at *;have hz1:=hal.size
 have ac7:Hid (∀ W,Below w1.heap.size w1 W→W.heap[w.heap.size]?=some (.cells #[.string ⟨#[]⟩,.slice none 0 0,.int .i64 0,.slice none 0 0] 31 (0,0))∧Below w.heap.size w W):=ah fun W hW=>⟨(hW.block _ hz).trans hR,hal.trans (hW.mono hz1)⟩
 clear hR;go_wp2
 go_loopw [9,11,14] (fun _ _ q wr=>∃ k:Nat,k≤ms.length∧q=.int .i64 k∧Below w1.heap.size w1 wr) (fun _ _ q _=>ms.length - (intOf q).toNat)
 case atStart=>exact⟨0,Nat.zero_le _,rfl,Below.refl _ _⟩
 case round =>
  obtain⟨k,hk,rfl,hbl⟩:=hrel;have I6:=hbl.size
  by_cases hlt:k<ms.length
  ·obtain⟨b,off,rfl,_,hbw,hcell⟩:=HF.out (by omega)
   obtain⟨_,_,hc⟩:=hcell k hlt;have x0:=((hal.trans (hbl.mono hz1)).cell (p:=⟨b,off+k * 2+0,none⟩) hbw).trans (hc 0 _ rfl);have x1:=((hal.trans (hbl.mono hz1)).cell (p:=⟨b,off+k * 2+1,none⟩) hbw).trans (hc 1 _ rfl);rw[Nat.add_zero] at x0
   have pQ:(k:Int)<(ms.length:Int):=by omega
   clear hc hcell;generalize ms[k]=y at *;have bO:=aj wr (.cells #[.string ⟨y.toArray⟩,.slice none 0 0] 27);have hN:=heap_alloc_new wr (.cells #[.string ⟨y.toArray⟩,.slice none 0 0] 27)
   go_upto_region 4 with fail
   change Code.wp _ _ _ _ (wr.alloc (.cells #[.string ⟨y.toArray⟩,.slice none 0 0] 27));clear x0 x1;generalize wr.alloc (.cells #[.string ⟨y.toArray⟩,.slice none 0 0] 27)=w2 at *;have hb2:=hbl.trans (bO.mono I6);obtain⟨y0,y1⟩:=kN hN
   go_upto_if 21 with fail
   cases hym:y == m with
   | false =>
    clear hym;go_wp2
    go_roundw
    case rel=>exact⟨k+1,by omega,by go_num,hb2⟩
    case measure=>simp[intOf];omega
   | true =>
    clear hym;obtain⟨hRr,hbw2⟩:=ac7.out w2 hb2;obtain⟨⟨c0,c1,c2,c3⟩,f0,f1,f2,f3⟩:=oO hRr;go_wp2
    go_loopw [25] (fun q wr=>q=.int .i64 0∧wr=w2) (fun q _=>0)
    case atStart=>exact⟨rfl,rfl⟩
    case round =>
     obtain⟨rfl,rfl⟩:=hrel;go_wp2;change bodyPost _ _ _ _ _ (sU wr w.heap.size (.string ⟨#[]⟩) (.slice none 0 0) (.int .i64 0) (.slice none 0 0));have hP:=kG hRr (.string ⟨#[]⟩) (.slice none 0 0) (.int .i64 0) (.slice none 0 0);have Sb:=jg hbw2 (Nat.le_refl _) (.string ⟨#[]⟩) (.slice none 0 0) (.int .i64 0) (.slice none 0 0);generalize sU wr _ _ _ _ _=w4 at *;obtain⟨⟨d0,d1,d2,d3⟩,-⟩:=oO hP;exact bodyPost_ret (v:=.tuple #[.agg #[.string ⟨#[]⟩,.slice none 0 0,.int .i64 0,.slice none 0 0],.bool false]) (by simp[results,Tryz.results11,go_sem,d0,d1,d2,d3]) rfl ⟨rfl,Sb⟩
  ·obtain rfl:k=ms.length:=by omega
   have pQ:decide ((ms.length:Int)<(ms.length:Int))=false:=decide_eq_false (by omega);obtain⟨hRr,hbw⟩:=ac7.out wr hbl;obtain⟨⟨c0,c1,c2,c3⟩,f0,f1,f2,f3⟩:=oO hRr;go_wp2;change bodyPost _ _ _ _ _ (sU wr w.heap.size (.string ⟨#[]⟩) (.slice none 0 0) (.int .i64 0) (.slice none 0 0));have hP:=kG hRr (.string ⟨#[]⟩) (.slice none 0 0) (.int .i64 0) (.slice none 0 0);have Sb:=jg hbw (Nat.le_refl _) (.string ⟨#[]⟩) (.slice none 0 0) (.int .i64 0) (.slice none 0 0);generalize sU wr _ _ _ _ _=w4 at *;obtain⟨⟨d0,d1,d2,d3⟩,-⟩:=oO hP;exact bodyPost_ret (v:=.tuple #[.agg #[.string ⟨#[]⟩,.slice none 0 0,.int .i64 0,.slice none 0 0],.bool false]) (by simp[results,Tryz.results11,go_sem,d0,d1,d2,d3]) rfl ⟨rfl,Sb⟩
end Go.Proofs.YtknicmmigbhpcaaGreatDoor
