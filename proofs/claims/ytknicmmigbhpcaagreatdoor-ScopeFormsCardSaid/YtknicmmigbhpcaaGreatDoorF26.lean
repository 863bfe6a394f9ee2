/- Walks and plain laws: ShowPB, ScopeW6, ShowPC. -/
import Derived.Test.YtknicmmigbhpcaaGreatDoorF25
set_option maxHeartbeats 16000000
set_option maxRecDepth 100000
set_option linter.unusedVariables false
set_option linter.unusedSimpArgs false
namespace Go.Proofs.YtknicmmigbhpcaaGreatDoor
open Go.RowKit Go
def iY (d:ZD)(ap:Option Addr)(cp:Nat)(ac:Option Addr)(cc:Nat)(am:Option Addr)(wn cm:Nat)(ae:Option Addr)(ce:Nat):Array Value:=#[.bool d.pub,.string ⟨d.res.name.toArray⟩,.slice ap d.params.length cp,.int .i64 d.res.base,.slice ac d.res.clause.length cc,.int .i64 d.body.op,.string ⟨d.body.name.toArray⟩,.string ⟨d.body.module.toArray⟩,.bool (decide (d.body.num<0)),.slice am wn cm,.bool d.body.yes,.slice ae d.body.kids.length ce,.int .i64 d.body.at_,.int .i64 d.res.at_,.int .i64 d.res.bare]
theorem aS {w:World}{b:Nat}{d:ZD}{ap:Option Addr}{cp:Nat}{ac:Option Addr}{cc:Nat}{am:Option Addr}{wn cm:Nat}{ae:Option Addr}{ce:Nat}(h:w.heap[b]?=some (.cells (iY d ap cp ac cc am wn cm ae ce) 48 (0,0))) :
  w.cell? ⟨b,0,none⟩=some (.bool d.pub)∧w.cell? ⟨b,1,none⟩=some (.string ⟨d.res.name.toArray⟩)∧w.cell? ⟨b,2,none⟩=some (.slice ap d.params.length cp)∧w.cell? ⟨b,3,none⟩=some (.int .i64 d.res.base)∧w.cell? ⟨b,4,none⟩=some (.slice ac d.res.clause.length cc)∧w.cell? ⟨b,5,none⟩=some (.int .i64 d.body.op)∧w.cell? ⟨b,6,none⟩=some (.string ⟨d.body.name.toArray⟩)∧w.cell? ⟨b,7,none⟩=some (.string ⟨d.body.module.toArray⟩)∧w.cell? ⟨b,8,none⟩=some (.bool (decide (d.body.num<0)))∧w.cell? ⟨b,9,none⟩=some (.slice am wn cm)∧w.cell? ⟨b,10,none⟩=some (.bool d.body.yes)∧w.cell? ⟨b,11,none⟩=some (.slice ae d.body.kids.length ce)∧w.cell? ⟨b,12,none⟩=some (.int .i64 d.body.at_)∧w.cell? ⟨b,13,none⟩=some (.int .i64 d.res.at_)∧w.cell? ⟨b,14,none⟩=some (.int .i64 d.res.bare):=by
 refine⟨?_,?_,?_,?_,?_,?_,?_,?_,?_,?_,?_,?_,?_,?_,?_⟩<;>(rw[Lib.cell_of_heap h];rfl)
structure Bd (d:ZD) (B:Nat) (ap:Option Addr) (cp:Nat) (ac:Option Addr) (cc:Nat) (am:Option Addr) (wn cm:Nat) (ae:Option Addr) (ce:Nat) (w:World):Prop where
 kJ:AJ B w ap d.params
 cl:jS B w ac d.res.clause
 body:nM YA (fun k=>k<B) w (.slice am wn cm) (.slice ae d.body.kids.length ce) d.body
 hB:B≤w.heap.size
theorem Bd.qw {d:ZD}{B:Nat}{ap:Option Addr}{cp:Nat}{ac:Option Addr}{cc:Nat}{am:Option Addr}{wn cm:Nat}{ae:Option Addr}{ce:Nat}{w W:World}(h:Bd d B ap cp ac cc am wn cm ae ce w)(hW:Below B w W):Bd d B ap cp ac cc am wn cm ae ce W:=⟨h.kJ.qw hW,h.cl.qw hW,h.body.frame (aT.qw hW fun b hb=>hb),Nat.le_trans h.hB hW.size⟩
theorem Bd.below {d:ZD}{B:Nat}{ap:Option Addr}{cp:Nat}{ac:Option Addr}{cc:Nat}{am:Option Addr}{wn cm:Nat}{ae:Option Addr}{ce:Nat}{w W:World}(h:Bd d B ap cp ac cc am wn cm ae ce w)(hW:Below w.heap.size w W):Bd d B ap cp ac cc am wn cm ae ce W:=h.qw (hW.mono h.hB)
theorem TP (d:ZD)(hf:d.fit)(B:Nat)(ap:Option Addr)(cp:Nat)(ac:Option Addr)(cc:Nat)(am:Option Addr)(wn cm:Nat)(ae:Option Addr)(ce:Nat)(w:World)(h:Bd d B ap cp ac cc am wn cm ae ce w) :
  Calls Tryz.prog 135 #[.agg #[.bool d.pub,.string ⟨d.res.name.toArray⟩,.slice ap d.params.length cp,.int .i64 d.res.base,.slice ac d.res.clause.length cc,.int .i64 d.body.op,.string ⟨d.body.name.toArray⟩,.string ⟨d.body.module.toArray⟩,.bool (decide (d.body.num<0)),.slice am wn cm,.bool d.body.yes,.slice ae d.body.kids.length ce,.int .i64 d.body.at_,.int .i64 d.res.at_,.int .i64 d.res.bare]] w fun r w'=>r=.returned (.bool d.sound)∧Below w.heap.size w w':=by
 obtain⟨f1,f2,f3,f4⟩:=hf;have hal:=aj w (.cells (iY d ap cp ac cc am wn cm ae ce) 48);have hN:=heap_alloc_new w (.cells (iY d ap cp ac cc am wn cm ae ce) 48);have HP:=ah (fun V=>kI ⟨d.res.name.toArray⟩ V (by have:=f3.1;show d.res.name.toArray.size≤_;simp;omega));have HF:=ah (fun V (hV:Below w.heap.size w V)=>Fh 213 #[] (fun x=>!x.right) (enters_of Tryz.func213 (by kernel_rfl) rfl) B ap cp d.params V (h.below hV).kJ (h.below hV).hB (by omega) fun x hx=>Pz x (f2 x hx) B V (h.below hV).hB);have HC:=ah (fun V (hV:Below w.heap.size w V)=>AB d.res.base B ac cc d.res.clause V (h.below hV).cl (h.below hV).hB (by have:=f3.2.1;omega) f3.2.2);have HR:=ah (fun V (hV:Below w.heap.size w V)=>wW false _ d.body (Nat.lt_succ_self _) f4 B am wn cm ae ce V (h.below hV).body (h.below hV).hB (by have:=(PZ.sj f4).2.2.2.1;omega));have eN:(ByteArray.mk d.res.name.toArray).data.toList=d.res.name:=rfl;rw[eN] at HP;rw[ZD.sound];have hpl:d.params.length≤1000000:=f1;clear h f1 f2 f3 f4 eN;generalize aR d.res.name=pl at *;generalize (d.params.any fun f=>!f.right)=an at *;generalize eO d.res.base d.res.clause=cl at *;generalize d.body.right false=rb at *
 obtain⟨res,hres⟩:∃ b:Bool,b=(pl && (decide (d.params.length≤8) && (!an && (cl && rb)))):=⟨_,rfl⟩
 rw[← hres];have nX:=ah hres;clear hres;go_enter Tryz.func135,Tryz.ntmps135
 go_upto_region 2 with fail
 change Code.wp _ _ _ _ (w.alloc (.cells (iY d ap cp ac cc am wn cm ae ce) 48));generalize w.alloc _=w0 at hal hN ⊢;have hl0:=(bQ hN).1;have HN:=ah (fun V (hV:Below w0.heap.size w0 V)=>aS ((hV.block _ hl0).trans hN));obtain⟨y0,y1,y2,y3,y4,y5,y6,y7,y8,y9,rA,rC,rD,-⟩:=HN.out w0 (Below.refl _ _);clear hN
 cases pl with
 | false =>
  have hr:Hid (res=false):=ah (by rw[nX.out];rfl);clear HF HC HR nX;go_wp2_with (go_at_call 48;refine(HP.out _).mono ?_;rintro r w1 ⟨rfl,hb1⟩);go_ret;exact⟨aM hr.out.symm,hal.trans (hb1.mono hal.size)⟩
 | true =>
  by_cases h8:d.params.length≤8
  ·have h8I:(d.params.length:Int)≤8:=by omega
   cases an with
   | true =>
    have hr:Hid (res=false):=ah (by rw[nX.out,decide_eq_true h8];rfl);clear HC HR nX h8;go_wp2_with (first|(go_at_call 48;refine(HP.out _).mono ?_;rintro r w1 ⟨rfl,hb1⟩;have mO:=hal.trans (hb1.mono hal.size);obtain⟨z0,z1,z2,z3,z4,-⟩:=HN.out w1 hb1)|(go_at_call 214;refine(HF.out _ mO).mono ?_;rintro r w2 ⟨rfl,hb2⟩));go_ret;exact⟨aM hr.out.symm,mO.trans (hb2.mono mO.size)⟩
   | false =>
    cases cl with
    | false =>
     have hr:Hid (res=false):=ah (by rw[nX.out,decide_eq_true h8];rfl);clear HR nX h8;go_wp2_with (first|(go_at_call 48;refine(HP.out _).mono ?_;rintro r w1 ⟨rfl,hb1⟩;have mO:=hal.trans (hb1.mono hal.size);obtain⟨z0,z1,z2,z3,z4,-⟩:=HN.out w1 hb1)|(go_at_call 214;refine(HF.out _ mO).mono ?_;rintro r w2 ⟨rfl,hb2⟩;have hbw2:=mO.trans (hb2.mono mO.size);have oo:=hb1.trans (hb2.mono hb1.size);obtain⟨v0,v1,v2,v3,v4,-⟩:=HN.out w2 oo)|(go_at_call 75;refine(HC.out _ hbw2).mono ?_;rintro r w3 ⟨rfl,hb3⟩));go_ret;exact⟨aM hr.out.symm,hbw2.trans (hb3.mono hbw2.size)⟩
    | true =>
     have hr:Hid (res=rb):=ah (by rw[nX.out,decide_eq_true h8];rfl);clear nX h8;go_wp2_with (first|(go_at_call 48;refine(HP.out _).mono ?_;rintro r w1 ⟨rfl,hb1⟩;have mO:=hal.trans (hb1.mono hal.size);obtain⟨z0,z1,z2,z3,z4,-⟩:=HN.out w1 hb1)|(go_at_call 214;refine(HF.out _ mO).mono ?_;rintro r w2 ⟨rfl,hb2⟩;have hbw2:=mO.trans (hb2.mono mO.size);have oo:=hb1.trans (hb2.mono hb1.size);obtain⟨v0,v1,v2,v3,v4,-⟩:=HN.out w2 oo)|(go_at_call 75;refine(HC.out _ hbw2).mono ?_;rintro r w3 ⟨rfl,hb3⟩;have sV:=hbw2.trans (hb3.mono hbw2.size);have Hg:=oo.trans (hb3.mono oo.size);obtain⟨u0,u1,u2,u3,u4,u5,u6,u7,u8,u9,u10,u11,u12,-⟩:=HN.out w3 Hg)|(go_at_call 127;refine(HR.out _ sV).mono ?_;rintro r w4 ⟨rfl,hb4⟩));go_ret;exact⟨aM hr.out.symm,sV.trans (hb4.mono sV.size)⟩
  ·have h8I:(8:Int)<(d.params.length:Int):=by omega
   have hr:Hid (res=false):=ah (by rw[nX.out,decide_eq_false h8];rfl);clear h8 HF HC HR nX;go_wp2_with (go_at_call 48;refine(HP.out _).mono ?_;rintro r w1 ⟨rfl,hb1⟩;have mO:=hal.trans (hb1.mono hal.size);obtain⟨z0,z1,z2,z3,z4,-⟩:=HN.out w1 hb1);go_ret;exact⟨aM hr.out.symm,mO⟩
theorem cZ.low {lb:Nat}{w w5 w7:World}(h:cZ lb w w5)(hb:Below w.heap.size w5 w7)(hl:lb<w.heap.size):cZ lb w w7 :=
 ⟨fun B hB=>(h.1 B hB).trans (hb.mono (by omega)),⟨Nat.le_trans h.2.1 hb.size,fun b hb1 hb2=>(hb.block b hb2).trans (h.2.2 b hb1 hb2)⟩⟩
theorem DI (E:SE):∀ (l:List ZF) (s:List (List UInt8) × Fl),(kL E s l).1.length≤s.1.length+l.length
 | [],s=>Nat.le_refl _
 | f :: l,s=>by
  have h1:=DI E l (fF (s.1++[f.name]),l7 (l7 s.2 (if f.name∈s.1 then some (30,f.at_) else none)) (bS E (fF (s.1++[f.name])) false f.clause));have h2:=qD (s.1++[f.name]);rw[bC,List.length_singleton] at h2;rw[kL,dI];simp only at h1;omega
theorem zT (E:SE):∀ (l:List ZF) (s:List (List UInt8) × Fl),gY s.2→gY (kL E s l).2
 | [],s,h=>h
 | f :: l,s,h=>zT E l _ ((h.or (by split;exact gY.some (by decide);exact gY.none)).or (o9 E _ _ _))
structure ZD.pq (d:ZD):Prop where
 kJ:d.params.length≤1000
 pcl:∀ f∈d.params,f.clause.length≤1000∧∀ e∈f.clause,e.size≤400000
 cl:d.res.clause.length≤1000∧∀ e∈d.res.clause,e.size≤400000
 body:d.body.size≤400000
theorem Xh (E:SE)(C:TJ)(lb B:Nat)(im:Value)(f:Fl)(d:ZD)(ap:Option Addr)(cp:Nat)(ac:Option Addr)(cc:Nat)(am:Option Addr)(wn cm:Nat)(ae:Option Addr)(ce:Nat)(w:World)(hL:kM C lb im f w)(hM:ScM E C lb B im w)(hf:gY f)(hfit:d.pq)
  (hP:RowK ZFK (fun b=>b≠lb) w (.slice ap d.params.length cp) d.params) (hC:RowK (ZK YA) (fun b=>b≠lb) w (.slice ac d.res.clause.length cc) d.res.clause) (hE:nM YA (fun b=>b≠lb) w (.slice am wn cm) (.slice ae d.body.kids.length ce) d.body) :
  Calls Tryz.prog 58 #[.pointer (some ⟨lb,0,none⟩),.agg (iY d ap cp ac cc am wn cm ae ce)] w (wX C lb im (AO E f d) w):=by
 have hal:=(aj w (.cells (iY d ap cp ac cc am wn cm ae ce) 48)).alloc (by simp) (.cells #[.slice none 0 0] 114);have g0:=(Lib.alloc_old (w.alloc (.cells (iY d ap cp ac cc am wn cm ae ce) 48)) (.cells #[.slice none 0 0] 114) w.heap.size (by simp)).trans (heap_alloc_new w (.cells (iY d ap cp ac cc am wn cm ae ce) 48));have g1:=heap_alloc_new (w.alloc (.cells (iY d ap cp ac cc am wn cm ae ce) 48)) (.cells #[.slice none 0 0] 114);rw[World.size_alloc] at g1;obtain⟨ae',ce',hv,_,hform⟩:=hP.form;simp only[Value.slice.injEq] at hv;obtain⟨rfl,-,rfl⟩:=hv;have Zx:=hL.lt;have hL1:=hL.below hal;have HF:=ah hform;have HL0:=ah hL;have HM0:=ah hM;have YB:=ah hf;have DJ:=ah hfit;have WR:=ah hC;have HE0:=ah hE;have hpn:=hfit.kJ;clear hL hM hf hform hP hC hE hfit
 obtain⟨R,hR⟩:∃ R,R=AO E f d:=⟨_,rfl⟩
 rw[← hR];have zR:=ah hR;clear hR;go_enter Tryz.func58,Tryz.ntmps58
 go_upto_region 2 with fail
 change Code.wp _ _ _ _ ((w.alloc (.cells (iY d ap cp ac cc am wn cm ae ce) 48)).alloc (.cells #[.slice none 0 0] 114));generalize (w.alloc (.cells (iY d ap cp ac cc am wn cm ae ce) 48)).alloc (.cells #[.slice none 0 0] 114)=w1 at *;have hz1:=hal.size;have hl1:=(bQ g1).1;have hk1:=cZ.of hal Zx;obtain⟨y0,y1,y2,y3,y4,y5,y6,y7,y8,y9,rA,rC,rD,y13,Xi⟩:=aS g0;have Xf:=ah hL1;have HG:=ah (And.intro g0 g1);clear hL1 g0 g1;generalize hps:d.params=ps at *;go_wp2;clear y0 y1 y2 y3 y4 y5 y6 y7 y8 y9 rA rC rD y13 Xi
 go_loopw [6,10] (fun _ q wr=>∃ (k:Nat) (ab:Option Addr) (cb:Nat) (bd:List (List UInt8)) (fk:Fl),k≤ps.length∧q=.int .i64 k∧kL E ([],f) (ps.take k)=(bd,fk)∧kM C lb im fk wr∧wr.heap[w.heap.size]?=some (.cells (iY d ap cp ac cc am wn cm ae ce) 48 (0,0))∧wr.heap[w.heap.size+1]?=some (.cells #[.slice ab bd.length cb] 114 (0,0))∧fM (fun b=>b≠lb∧b≠w.heap.size+1) wr (.slice ab bd.length cb) bd∧bd.Pairwise (· < ·)∧cZ lb w wr) (fun _ q _=>ps.length - (intOf q).toNat)
 case atStart=>exact⟨0,none,0,[],f,Nat.zero_le _,rfl,rfl,Xf.out,HG.out.1,HG.out.2,fM.nil _ _,List.Pairwise.nil,hk1⟩
 case round =>
  obtain⟨k,ab,cb,bd,fk,hk,rfl,hsc,hlr,gd,gv,htr,hrr,hkr⟩:=hrel;have I6:=hkr.2.1;have Bv:=ah hlr;have Yu:=ah hsc;have hbl:=DI E (ps.take k) ([],f);rw[hsc,List.length_take] at hbl;have I9:=zT E (ps.take k) ([],f) YB.out;rw[hsc] at I9;have Yw:=ah I9
  have hbd:bd.length≤1000:=by simp only[List.length_nil] at hbl;omega
  have hdl:=(bQ gd).1;have hvl:=(bQ gv).1;have hMr:=HM0.out.keep HL0.out hkr.2;have HMR:=ah hMr;have HGD:=ah gd;have HGV:=ah gv;have Oz:=ah htr;have HRR:=ah hrr;clear hlr hsc hbl I9 hMr gd gv htr hrr
  by_cases hlt:k<ps.length
  ·obtain⟨b,off,rfl,hPb,hbw,nN⟩:=HF.out (by omega)
   obtain⟨cv,hcl,hc⟩:=nN k hlt;obtain⟨a2,c2,rfl⟩:=RowK.slice hcl
   have hcr:∀ (j:Nat) (u:Value),w.cell? ⟨b,off+k * 5+j,none⟩=some u→wr.cell? ⟨b,off+k * 5+j,none⟩=some u:=fun j u h=>(World.cell?_of_block (a:=⟨b,off+k * 5+j,none⟩) (hkr.2.2 b hPb hbw)).trans h
   have x0:=hcr 0 _ (hc 0 _ rfl);have x1:=hcr 1 _ (hc 1 _ rfl);have x2:=hcr 2 _ (hc 2 _ rfl);have x3:=hcr 3 _ (hc 3 _ rfl);have x4:=hcr 4 _ (hc 4 _ rfl);rw[Nat.add_zero] at x0;simp only[dM] at x0;have hsn:=Mk E ([],f) hlt;rw[Yu.out] at hsn;have hpf:=DJ.out.pcl _ (by rw[hps];exact List.getElem_mem hlt);have qm:=ah hsn;have HPF:=ah hpf;have NV:=ah hcl;clear nN hcl hc hcr hsn hpf;generalize ps[k]=p at *;have gI:=aj wr (.cells #[.string ⟨p.name.toArray⟩,.int .i64 p.base,.slice a2 p.clause.length c2,.int .i64 p.at_,.int .i64 p.bare] 80);have gk:=heap_alloc_new wr (.cells #[.string ⟨p.name.toArray⟩,.int .i64 p.base,.slice a2 p.clause.length c2,.int .i64 p.at_,.int .i64 p.bare] 80)
   have pQ:(k:Int)<(ps.length:Int):=by omega
   have TN:lb<wr.heap.size:=Bv.out.lt
   go_upto_region 5 with fail
   change Code.wp _ _ _ _ (wr.alloc (.cells #[.string ⟨p.name.toArray⟩,.int .i64 p.base,.slice a2 p.clause.length c2,.int .i64 p.at_,.int .i64 p.bare] 80));clear x0 x1 x2 x3 x4
   have abE:wr.heap.size<(wr.alloc (.cells #[.string ⟨p.name.toArray⟩,.int .i64 p.base,.slice a2 p.clause.length c2,.int .i64 p.at_,.int .i64 p.bare] 80)).heap.size:=by simp
   generalize wr.alloc (.cells #[.string ⟨p.name.toArray⟩,.int .i64 p.base,.slice a2 p.clause.length c2,.int .i64 p.at_,.int .i64 p.bare] 80)=w3 at *;have hz3:=gI.size;have hL3:=Bv.out.below gI;have gd3:=(gI.block _ hdl).trans HGD.out;have gv3:=(gI.block _ hvl).trans HGV.out;obtain⟨p0,p1,p2,p3,p4⟩:=dK gk;obtain⟨q0,qz⟩:=bA gv3;have Nn:=ah hL3;have ac9:=ah gd3;have abF:=ah gv3;have HGK:=ah gk;have VE:=Oz.out.below gI;have HT3:=ah VE;have HH:=ah (Bn _ ab cb bd ⟨p.name.toArray⟩ w3 VE HRR.out (by omega));simp only at HH
   obtain⟨m,hm⟩:∃ m,m=decide (p.name∈bd):=⟨_,rfl⟩
   rw[← hm] at HH;have uI:=ah hm
   obtain⟨f1,hf1⟩:∃ f1,f1=l7 fk (if p.name∈bd then some (30,p.at_) else none):=⟨_,rfl⟩
   have GA:=ah hf1;clear hm hf1 hL3 gd3 gv3 gk VE;clear p0 p1 p2 p3 p4 q0 qz;obtain⟨p0,p1,p2,p3,p4⟩:=dK HGK.out;obtain⟨q0,-⟩:=bA abF.out
   go_upto_if 17 with (go_at_call 60;refine HH.out.mono ?_;rintro e w4 ⟨rfl,hb4⟩)
   clear p0 p1 p2 p3 p4 q0;have zn:=hb4.size;have ada:=ah ((hb4.block _ (by omega)).trans ac9.out);have adb:=ah ((hb4.block _ (by omega)).trans abF.out);have abG:=ah ((hb4.block _ abE).trans HGK.out);have HL4:=ah (Nn.out.below hb4);have HT4:=ah (HT3.out.below hb4);have hk4:cZ lb w w4:=hkr.trans (cZ.of (gI.trans (hb4.mono hz3)) TN);obtain⟨p0,p1,p2,p3,p4⟩:=dK abG.out
   have hne1:w.heap.size≠lb:=by omega
   have hne2:w.heap.size+1≠lb:=by omega
   have PL:wr.heap.size≠lb:=by omega
   have ade:wr.heap.size≠w.heap.size+1:=by omega
   clear ac9 abF HGK Nn HT3 HH HGD HGV Oz Bv
   go_cut [] (fun wc=>kM C lb im f1 wc∧cZ lb w4 wc)
   case first =>
    cases m with
    | true =>
     have HE:Hid (f1=l7 fk (some (30,p.at_))):=ah (by rw[GA.out,if_pos (of_decide_eq_true uI.out.symm)]);have Ra:=ah (vE C lb im fk 30 p.at_ w4 HL4.out Yw.out);clear uI GA;go_wp2_with (go_at_call 56;refine Ra.out.mono ?_;rintro e w5 ⟨rfl,hl5,hk5⟩)
     go_meet
     exact⟨by rw[HE.out];exact hl5,hk5⟩
    | false =>
     have HE:Hid (f1=fk):=ah (by rw[GA.out,if_neg (of_decide_eq_false uI.out.symm),nO]);clear uI GA;go_wp2
     go_meet
     exact⟨by rw[HE.out];exact HL4.out,cZ.refl _ _⟩
   case rest =>
    obtain⟨hl5,hk5⟩:=hcut
    obtain⟨w5,rfl⟩:∃ w5:World,w5=wc:=⟨_,rfl⟩
    clear p0 p1 p2 p3 p4;have Qz:=hk5.2.1;have gd5:=(hk5.2.2 _ hne1 (by omega)).trans ada.out;have gv5:=(hk5.2.2 _ hne2 (by omega)).trans adb.out;have gk5:=(hk5.2.2 _ PL (by omega)).trans abG.out;have hT5:=HT4.out.frame (⟨hk5.2.1,fun b hb hl=>hk5.2.2 b hb.1 hl⟩:aT (fun b=>b≠lb∧b≠w.heap.size+1) w4 w5);have KW:=hk4.trans hk5;have hb6:Below w5.heap.size w5 (w5.alloc (.cells #[.string ⟨p.name.toArray⟩] 9)):=aj w5 _;have hsl:=qD (bd++[p.name]);rw[bC,List.length_singleton] at hsl;have HW:=ah (Dy (fun _=>True) ab cb (.slice (some ⟨w5.heap.size,0,none⟩) 1 1) bd [p.name] (w5.alloc (.cells #[.string ⟨p.name.toArray⟩] 9)) ((hT5.below (aj w5 _)).imp fun _ _ _=>trivial) (I8 w5 p.name) (by omega) (by simp))
    have hstep:kL E ([],f) (ps.take (k+1))=(fF (bd++[p.name]),l7 f1 (bS E (fF (bd++[p.name])) false p.clause)):=by rw[qm.out,GA.out];rfl
    have adf:=ah hstep;have HSR:=ah (tH (bd++[p.name]))
    have Ms:gY f1:=by rw[GA.out];exact Yw.out.or (by split;exact gY.some (by decide);exact gY.none)
    have TM:=ah Ms;have TQ:=ah hl5;have Xj:=ah gd5;have adg:=ah gv5;have adh:=ah gk5;obtain⟨p0,p1,p2,p3,p4⟩:=dK gk5;obtain⟨q0,qz⟩:=bA gv5;have afY:lb<w5.heap.size:=hl5.lt;clear hstep Ms hl5 gd5 gv5 gk5 ada adb abG HL4 HT4 hT5 qm GA uI;generalize fF (bd++[p.name])=S at *
    go_upto_region 8 with (go_at_call 61;refine HW.out.mono ?_;rintro e w6 ⟨a6,c6,rfl,ht6,aeC⟩;have qy:=hb6.trans (aeC.mono (by simp));have gv6:=(qy.block _ (by omega)).trans adg.out;have hfz:=(bA gv6).2;have hc0:=(bA gv6).1)
    have hz6:=qy.size;have gv7:=heap_setCell_same w6 (w.heap.size+1) 0 _ _ (.slice a6 S.length c6) gv6;have hL7:kM C lb im f1 (w6.setCell ⟨w.heap.size+1,0,none⟩ (.slice a6 S.length c6)):=(heap_setCell_other _ _ _ _ (Ne.symm hne2)).trans (TQ.out.below qy);have gd7:=(heap_setCell_other w6 ⟨w.heap.size+1,0,none⟩ w.heap.size (.slice a6 S.length c6) (by show w.heap.size≠w.heap.size+1;omega)).trans ((qy.block _ (by omega)).trans Xj.out);have gk7:=(heap_setCell_other w6 ⟨w.heap.size+1,0,none⟩ wr.heap.size (.slice a6 S.length c6) (by show wr.heap.size≠w.heap.size+1;omega)).trans ((qy.block _ (by omega)).trans adh.out);have tq:Below w.heap.size w5 (w6.setCell ⟨w.heap.size+1,0,none⟩ (.slice a6 S.length c6)):=(qy.mono (by omega)).setCell (by show w.heap.size≤w.heap.size+1;omega) _;have Z5:cZ lb w (w6.setCell ⟨w.heap.size+1,0,none⟩ (.slice a6 S.length c6)):=KW.low tq Zx
    have Xk:fM (fun b=>b≠lb∧b≠w.heap.size+1) (w6.setCell ⟨w.heap.size+1,0,none⟩ (.slice a6 S.length c6)) (.slice a6 S.length c6) S:=(ht6.frame (aT.set _ fun b hb=>by have:=hb6.size;show b≠w.heap.size+1;omega)).imp fun b hb _=>by have:=hb6.size;exact⟨by omega,by omega⟩
    have HCA:=ah (AQ E C lb B im f1 a2 c2 p.clause a6 c6 S false _ hL7 (HM0.out.keep HL0.out Z5.2) TM.out (RowK.frame NV.out Z5.2) (Xk.imp fun b hb _=>hb.1) HSR.out (fun e he=>by have:=HPF.out.2 e he;omega) (by have:=HPF.out.1;omega));clear p0 p1 p2 p3 p4 q0 qz hfz hc0;generalize w6.setCell _ _=w7 at *;obtain⟨p0,p1,p2,p3,p4⟩:=dK gk7;obtain⟨q0,-⟩:=bA gv7;have hz7:=Z5.2.1;have aeD:=ah gd7;have aeE:=ah gv7;have HT7:=ah Xk;have hd7:=(bQ gd7).1;have hv7:=(bQ gv7).1;clear gk7 gd7 gv7 Xk hL7 gv6 TQ Xj adg adh HW ht6;go_wp2_with (go_at_call 85;refine HCA.out.mono ?_;rintro e w8 ⟨rfl,hl8,A9⟩)
    go_roundw
    case rel=>exact⟨k+1,a6,c6,S,l7 f1 (bS E S false p.clause),by omega,by go_num,adf.out,hl8,(A9.2.2 _ hne1 hd7).trans aeD.out,(A9.2.2 _ hne2 hv7).trans aeE.out,HT7.out.frame ⟨A9.2.1,fun b hb hl=>A9.2.2 b hb.1 hl⟩,HSR.out,Z5.trans A9⟩
    case measure=>simp[intOf];omega
  ·obtain rfl:k=ps.length:=by omega
   have pQ:decide ((ps.length:Int)<(ps.length:Int))=false:=decide_eq_false (by omega);have hsc2:=Yu.out;rw[List.take_length,← hps] at hsc2
   have hne1:w.heap.size≠lb:=by omega
   have hne2:w.heap.size+1≠lb:=by omega
   have HCA:=ah (AQ E C lb B im fk ac cc d.res.clause ab cb bd true wr Bv.out HMR.out Yw.out (RowK.frame WR.out hkr.2) (Oz.out.imp fun b hb _=>hb.1) HRR.out (fun e he=>by have:=DJ.out.cl.2 e he;omega) (by have:=DJ.out.cl.1;omega));have adi:gY (l7 fk (bS E bd true d.res.clause)):=Yw.out.or (o9 E _ _ _);have HF2:=ah adi;have HD2:Hid (R=l7 (l7 fk (bS E bd true d.res.clause)) (d.body.fI E bd false)):=ah (by rw[zR.out,AO,hsc2]);obtain⟨y0,y1,y2,y3,y4,y5,y6,y7,y8,y9,rA,rC,rD,y13,Xi⟩:=aS HGD.out;obtain⟨q0,-⟩:=bA HGV.out;clear hsc2 adi Yu
   go_upto_region 11 with (go_at_call 85;refine HCA.out.mono ?_;rintro e w8 ⟨rfl,hl8,A9⟩)
   clear y0 y1 y2 y3 y4 y5 y6 y7 y8 y9 rA rC rD y13 Xi q0;have gd8:=(A9.2.2 _ hne1 hdl).trans HGD.out;have gv8:=(A9.2.2 _ hne2 hvl).trans HGV.out;obtain⟨y0,y1,y2,y3,y4,y5,y6,y7,y8,y9,rA,rC,rD,y13,Xi⟩:=aS gd8;obtain⟨q0,-⟩:=bA gv8;have Z4:=ah (zS d.body E C lb B im (l7 fk (bS E bd true d.res.clause)) am wn cm ae ce ab cb bd false w8 hl8 (HMR.out.keep Bv.out A9.2) HF2.out (nM.frame (hkr.trans A9).2 HE0.out) ((Oz.out.frame ⟨A9.2.1,fun b hb hl=>A9.2.2 b hb.1 hl⟩).imp fun b hb _=>hb.1) HRR.out (by have:=DJ.out.body;omega));unfold aY at Z4;rw[← HD2.out] at Z4;clear gd8 gv8 hl8 HCA;go_wp2_with (go_at_call 86;refine Z4.out.mono ?_;rintro e w9 ⟨rfl,YC,VB⟩)
   go_end0
   exact⟨rfl,YC,(hkr.trans A9).trans VB⟩
theorem uJ {base:Int}{ks:List PZ}(h:eO base ks=true):(base=1∨base=2)∧ks.length≤1∧∀ e∈ks,e.right true=true:=by
 unfold eO at h;simp only[Bool.and_eq_true,Bool.or_eq_true,decide_eq_true_eq] at h;exact⟨h.1,h.2.1,fun e he=>tZ.1 h.2.2 e he⟩
def Xl (f:FuncId)(lb:Array Value)(B' b:Nat)(w:World)(x:ZF):Prop:=∀ (acc:List UInt8) (W:World) (ac:Option Addr) (cc:Nat),gU w B' b acc W→jS B' W ac x.clause→acc.length+x.text.length≤1099511627776 →
 Calls Tryz.prog f (#[.agg #[.string ⟨x.name.toArray⟩,.int .i64 x.base,.slice ac x.clause.length cc,.int .i64 x.at_,.int .i64 x.bare]]++lb) W (bF B' b (acc++x.text) W)
theorem Xm (x:ZF)(hr:x.right=true)(hf:x.fit)(B' b tb:Nat)(acc0:List UInt8)(w:World)(hb0:jE B' b acc0 w 155)(ht:w.heap[tb]?=some (.cells #[.pointer (some ⟨b,0,none⟩)] 149 (0,0)))(hB:B'≤w.heap.size) :
  Xl 216 #[.pointer (some ⟨tb,0,none⟩)] B' b w x:=by
 intro acc W ac cc st hE hn;rw[ZF.right,Bool.and_eq_true] at hr;obtain⟨oo,hk1,hkr⟩:=uJ hr.2;have hT:=st.box hb0 ht (by decide) (by decide);have hal:=aj W (.cells #[.string ⟨x.name.toArray⟩,.int .i64 x.base,.slice ac x.clause.length cc,.int .i64 x.at_,.int .i64 x.bare] 80);have hN:=heap_alloc_new W (.cells #[.string ⟨x.name.toArray⟩,.int .i64 x.base,.slice ac x.clause.length cc,.int .i64 x.at_,.int .i64 x.bare] 80);have hBW:=Nat.le_trans hB st.jT.size;have hT1:=(hal.block tb (bQ hT).1).trans hT;have s1:=(gU.start st.jZ).below hal hBW;have hE1:=hE.below hal;have hB1:=Nat.le_trans hBW hal.size;have HTY:=ah (fun (a:List UInt8) (V:World) hk hbd Rb hl=>Dw x.base oo x.clause B' B' b ac cc a V (fun e he=>vD _ e (Nat.lt_succ_self _) (hkr e he) (hf.2.2 e he)) hk (Nat.le_refl _) hbd Rb hl (by omega))
 have htx:acc++x.text=(acc++(x.name++[58,32]))++jU x.base x.clause:=by rw[ZF.text];simp[List.append_assoc]
 have hln:acc.length+x.name.length+2+(jU x.base x.clause).length≤1099511627776:=by
  have:=congrArg List.length htx;simp only[bC,dI,List.length_nil] at this;omega
 rw[htx];have eN:(ByteArray.mk x.name.toArray).data.toList=x.name:=rfl
 have eN2:(ByteArray.mk x.name.toArray).size=x.name.length:=by show x.name.toArray.size=_;simp
 have HE1:=ah hE1;show Calls _ _ #[_,_] _ _;clear hE hn st hT ht hb0 hr hkr hf htx hE1;generalize jU x.base x.clause=ty at *;go_enter Tryz.func216,Tryz.ntmps216
 go_upto_region 1 with fail
 change Code.wp _ _ _ _ (W.alloc (.cells #[.string ⟨x.name.toArray⟩,.int .i64 x.base,.slice ac x.clause.length cc,.int .i64 x.at_,.int .i64 x.bare] 80));generalize W.alloc _=w1 at hal hN hT1 s1 HE1 hB1 ⊢;obtain⟨y0,y1,y2,y3,y4⟩:=dK hN
 have yt:w1.cell? ⟨tb,0,none⟩=some (.pointer (some ⟨b,0,none⟩)):=by rw[Lib.cell_of_heap hT1];rfl
 have HW:=ah (vB ⟨x.name.toArray⟩ ⟨#[58,32]⟩ B' b acc w1 s1.jZ hB1 (by rw[eN2];show _+2≤_;omega));have EG:=ah s1;have HN:=ah hN;have HT1:=ah hT1;clear hN hT1 s1 eN eN2
 go_upto_region 2 with (go_at_call 128;refine HW.out.mono ?_;rintro r w2 h2;obtain rfl:=h2.eq)
 have s2:=(gU.start EG.out.jZ).write h2;have hz2:=s2.jT.size;clear y0 y1 y2 y3 y4 yt;obtain⟨y0,y1,y2,y3,y4⟩:=dK (s2.box EG.out.jZ HN.out (by decide) (by decide))
 have yt:w2.cell? ⟨tb,0,none⟩=some (.pointer (some ⟨b,0,none⟩)):=by rw[Lib.cell_of_heap (s2.box EG.out.jZ HT1.out (by decide) (by decide))];rfl
 have HY:=ah (HTY.out (acc++(x.name++[58,32])) w2 (HE1.out.qw s2.jT) s2.jZ (by omega) (by simp only[bC,dI,List.length_nil];omega));have HS2:=ah s2;clear HTY HW h2 s2 HN HT1 HE1;go_wp2_with (go_at_call 76;refine HY.out.mono ?_;rintro r w3 h3;obtain rfl:=h3.eq)
 go_end0
 exact bF.from hal hBW (HS2.out.write h3)
theorem TR (f:FuncId)(lb:Array Value)(eg:∀ args w,(callFunc f args).run Tryz.prog w=.ok (.enter f args) w)(ks:List ZF)(B B' b:Nat)(ae:Option Addr)(ce:Nat)(acc:List UInt8)(w:World)(hk:∀ x∈ks,Xl f lb B' b w x)(h:AJ B w ae ks)(lu:B≤B')(hbd:jE B' b acc w 155)(hB:B'≤w.heap.size)(hn:acc.length+(bB (ks.map ZF.text)).length≤1099511627776)(hkl:ks.length≤1000000) :
  Calls Tryz.prog 215 #[.pointer (some ⟨b,0,none⟩),.slice ae ks.length ce,.func (.func f) #[] lb] w (bF B' b (acc++bB (ks.map ZF.text)) w):=by
 have HH:=ah h;have HK:=ah hk;have HB:=ah hbd;clear h hk hbd;go_enter Tryz.func215,Tryz.ntmps215;go_wp2
 go_loopw [6,10] (fun _ q wr=>∃ k:Nat,k≤ks.length∧q=.int .i64 k∧gU w B' b (acc++bB ((ks.map ZF.text).take k)) wr) (fun _ q _=>ks.length - (intOf q).toNat)
 case atStart=>exact⟨0,Nat.zero_le _,rfl,by simpa [bB] using gU.start HB.out⟩
 case round =>
  obtain⟨k,hkk,rfl,st⟩:=hrel;have hz:=st.jT.size
  by_cases hlt:k<ks.length
  ·have hlm:k<(ks.map ZF.text).length:=by simpa using hlt
   have hts:(ks.map ZF.text).take (k+1)=(ks.map ZF.text).take k++[ks[k].text]:=by rw[List.take_succ_eq_append_getElem hlm];simp
   have hsn:=qo ((ks.map ZF.text).take k) ks[k].text;rw[← hts] at hsn;have hle:=zM ((ks.map ZF.text).take (k+1)) ((ks.map ZF.text).drop (k+1));rw[List.take_append_drop] at hle
   have hnil:((ks.map ZF.text).take k=[])↔k=0:=by
    constructor
    ·intro q
     have:=congrArg List.length q;rw[List.length_take,List.length_nil] at this;omega
    ·rintro rfl;rfl
   simp only[hnil] at hsn;have HD:=ah (HK.out _ (List.getElem_mem hlt));obtain⟨kb,off,rfl,hkB,hkw,nN⟩:=HH.out.qw (st.jT.mono lu) (by omega);obtain⟨ac,cc,hE,x0,x1,x2,x3,x4⟩:=nN k hlt;have qm:=ah hsn;have HST:=ah st
   have hc0:k=0→bB ((ks.map ZF.text).take k)=[]:=by rintro rfl;rfl
   have WR:=ah hc0;clear hsn hts hlm hnil st hc0 nN;generalize bB ((ks.map ZF.text).take k)=c at qm HST WR;generalize hcc:bB ((ks.map ZF.text).take (k+1))=c2 at hle qm;have ZT:=ah hcc;clear hcc;generalize ks[k]=x at *
   have pQ:(k:Int)<(ks.length:Int):=by omega
   have hln:acc.length+c2.length≤1099511627776:=by omega
   have hal:=aj wr (.cells #[.string ⟨x.name.toArray⟩,.int .i64 x.base,.slice ac x.clause.length cc,.int .i64 x.at_,.int .i64 x.bare] 80);have hN:=heap_alloc_new wr (.cells #[.string ⟨x.name.toArray⟩,.int .i64 x.base,.slice ac x.clause.length cc,.int .i64 x.at_,.int .i64 x.bare] 80);have s1:=HST.out.below hal hB
   have hE1:jS B' (wr.alloc (.cells #[.string ⟨x.name.toArray⟩,.int .i64 x.base,.slice ac x.clause.length cc,.int .i64 x.at_,.int .i64 x.bare] 80)) ac x.clause:=fun h0=>by
    obtain⟨q,o,q1,q2,q3,q4⟩:=hE.below hal h0;refine⟨q,o,q1,by omega,q3,fun i hi=>?_⟩;obtain⟨Jy,wn',Jz,IJ,IL,q5,q6⟩:=q4 i hi;exact⟨Jy,wn',Jz,IJ,IL,q5.imp fun b hb _=>by omega,q6⟩
   clear hle hE
   go_upto_region 3 with fail
   change Code.wp _ _ _ _ (wr.alloc (.cells #[.string ⟨x.name.toArray⟩,.int .i64 x.base,.slice ac x.clause.length cc,.int .i64 x.at_,.int .i64 x.bare] 80));clear x0 x1 x2 x3 x4;generalize wr.alloc _=w1 at hal hN s1 hE1 ⊢;have hz1:=hal.size
   by_cases h0:k=0
   ·have WS:Hid (c2=x.text):=ah (by rw[qm.out,if_pos h0])
    have hc0:=WR.out h0;subst hc0;rw[List.append_nil] at s1;have HX:=ah (HD.out acc w1 ac cc s1 hE1 (by rw[← WS.out];exact hln));have zi:Hid (bB ((ks.map ZF.text).take (k+1))=c2):=ZT;have EG:=ah s1;obtain⟨y0,y1,y2,y3,y4⟩:=dK hN
    have ZU:(k:Int)≤0:=by omega
    clear qm HST HD hal hN s1 hE1 WR ZT h0;go_wp2_with (go_at_fn f;refine HX.out.mono ?_;rintro r w3 h3;obtain rfl:=h3.eq);refine⟨⟨k+1,by omega,by go_num,?_⟩,by simp[intOf];omega⟩;rw[zi.out,WS.out];exact EG.out.write h3
   ·have WS:Hid (c2=c++[44,32]++x.text):=ah (by rw[qm.out,if_neg h0])
    have hl2:acc.length+c.length+2+x.text.length≤1099511627776:=by
     have:=congrArg List.length WS.out;simp only[bC,dI,List.length_nil] at this;omega
    have ZU:(0:Int)<(k:Int):=by omega
    have zi:Hid (bB ((ks.map ZF.text).take (k+1))=c2):=ZT;clear h0 qm WR ZT hln
    go_upto_region 5 with (go_at_call 128;refine(dA ⟨#[44,32]⟩ B' b (acc++c) w1 s1.jZ (by omega) (by show (acc++c).length+2≤_;rw[bC];omega)).mono ?_;rintro r w2 h2;obtain rfl:=h2.eq)
    have s2:=s1.write h2;obtain⟨y0,y1,y2,y3,y4⟩:=dK (s1.jZ.block h2.2.2.2 hN (by decide) (by decide));have HX:=ah (HD.out (acc++c++[44,32]) w2 ac cc s2 (hE1.qw h2.2.2.1) (by simp only[bC,dI,List.length_nil];omega));have EG:=ah s2;clear HST HD hal hN s1 hE1 s2 h2;go_wp2_with (go_at_fn f;refine HX.out.mono ?_;rintro r w3 h3;obtain rfl:=h3.eq);refine⟨⟨k+1,by omega,by go_num,?_⟩,by simp[intOf];omega⟩;have:=EG.out.write h3;rw[zi.out,WS.out]
    simpa [List.append_assoc] using this
  ·obtain rfl:k=ks.length:=by omega
   have pQ:decide ((ks.length:Int)<(ks.length:Int))=false:=decide_eq_false (by omega);rw[show (ks.map ZF.text).take ks.length=ks.map ZF.text by rw[List.take_of_length_le (by simp)]] at st;have HST:=ah st;clear st;go_wp2
   go_end0
   exact⟨rfl,HST.out.jZ,HST.out.jT,HST.out.kept⟩
end Go.Proofs.YtknicmmigbhpcaaGreatDoor
