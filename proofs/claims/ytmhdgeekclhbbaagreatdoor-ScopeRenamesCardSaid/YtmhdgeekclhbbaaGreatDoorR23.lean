/- Walks and plain laws: RenLaw2. -/
import Derived.Test.YtmhdgeekclhbbaaGreatDoorR22
set_option maxHeartbeats 16000000
set_option maxRecDepth 100000
set_option linter.unusedVariables false
set_option linter.unusedSimpArgs false
namespace Go.Proofs.YtmhdgeekclhbbaaGreatDoor
open Go.RowKit Go
theorem GD {α β:Type}{K:RK α β}{P:Nat→Prop}{w:World}{v:Value}{z:α}(h:RowK K P w v [z]):∃ b off cap x,v=.slice (some ⟨b,off,none⟩) 1 cap∧P b∧b<w.heap.size∧K.inn P w z x∧∀ j u,(K.cells z x)[j]?=some u→w.cell? ⟨b,off+j,none⟩=some u:=by
 obtain⟨ao,cap,rfl,_,hf⟩:=h.form;obtain⟨b,off,rfl,h2,h3,h4⟩:=hf (by simp);obtain⟨x,h5,h6⟩:=h4 0 (by simp);exact⟨b,off,cap,x,rfl,h2,h3,h5,fun j u hu=>by have:=h6 j u hu;simpa using this⟩
theorem aaQ (s nm:ByteArray)(w:World)(hs:s.size≤400)(hm:nm.size≤30)(h:bf nm.data.toList=true)(d:ZD)(f:ZF)(HP:∀ W,Calls Tryz.prog 17 #[.string (Lp s)] W (Ao ⟨[],[d]⟩ W))(hz:ZP.mid ⟨[],[d]⟩)(hp:d.params=[f])(hx:f.name=[120])(hc:f.aC=[])(hr:d.res.aC=[]):kV s nm w:=by
 unfold kV
 have hI:¬ ((400:Int)<(s.size:Int)):=by omega
 have h2:decide ((400:Int)<(s.size:Int))=false:=dA (by omega)
 have hJ:¬ ((30:Int)<(nm.size:Int)):=by omega
 have h3:decide ((30:Int)<(nm.size:Int))=false:=dA (by omega);have TK:=ay (fun W=>oO nm W (by omega));have HB:=ay HP;rw[h] at TK;have HN:=ay h;have hfit:=(hz.defs d vB).body.1;have HU:=ay (fun (l:List UInt8)=>Po l _ d.body (Nat.lt_succ_self _) hfit);have HL:=ay (fun (l:List UInt8)=>Pp l _ d.body (Nat.lt_succ_self _) hfit);have HR:=ay (T9 nm.data.toList _ d.body (Nat.lt_succ_self _) hfit);have HZ:=ay hz;have HDP:=ay (And.intro hp (And.intro hx (And.intro hc hr)));clear h HP hp hx hc hr hz hfit;go_enter Tryz.func4,Tryz.ntmps4
 go_upto_region 6 with (first|(go_at_call 16;refine(kU _).mono ?_;rintro e w1 ⟨rfl,hb1⟩)|(go_at_call 11;refine(TK.out _).mono ?_;rintro e w2 ⟨rfl,hb2⟩)|(go_at_call 17;refine Calls.mono (HB.out _) ?_;rintro e w3 ⟨ai,ci,ad,cd,rfl,hb3,ho3⟩))
 have qR:=hb1.trans (hb2.mono hb1.size);have su:=qR.trans (hb3.mono qR.size);have hb4:=su.alloc su.size (.cells #[.slice ai 0 ci,.slice ad 1 cd] 26);have g3:=aY w3 (.cells #[.slice ai 0 ci,.slice ad 1 cd] 26);have hD:=ho3.adZ
 have hl3:w3.heap.size<(w3.alloc (.cells #[.slice ai 0 ci,.slice ad 1 cd] 26)).heap.size:=by simp
 have hz3:=su.size;obtain⟨b,off,cap,x,hv,hB,hb,⟨hP,hC,hE⟩,hcell⟩:=GD hD;simp only[dR,gX,Value.slice.injEq] at hv;obtain⟨rfl,-,rfl⟩:=hv;have hbn:=aB w3 (.cells #[.slice ai 0 ci,.slice (some ⟨b,off,none⟩) 1 cd] 26);clear qR ho3 hb3 hb1 su;change Code.wp _ _ _ _ (w3.alloc (.cells #[.slice ai 0 ci,.slice (some ⟨b,off,none⟩) 1 cd] 26));obtain⟨am,wn,cm,ae,ce,e1,e2⟩:=hE.slX;rw[e1,e2] at hE;obtain⟨pv,cv,xm,xk⟩:=x;dsimp only at e1 e2 hP hC hE;subst e1 e2;rw[HDP.out.1] at hP;obtain⟨pb,po,pc,fv,rfl,hpB,hpb,hfv,aaR⟩:=GD hP;have hE4:=hE.frame (aW.of hbn);have HC4:=ay (hC.frame (aW.of hbn));have HP4:=ay (hP.frame (aW.of hbn));have HV4:=ay (ZFK.frame hfv (aW.of hbn));have hD4:=ay (hD.frame (aW.of hbn));have AU:=ay (fun j u q=>(hbn.cell (p:=⟨b,off+j,none⟩) hb).trans (hcell j u q));have HPC:=ay (fun j u q=>(hbn.cell (p:=⟨pb,po+j,none⟩) hpb).trans (aaR j u q));clear hcell aaR hD hP hC hE hbn hfv;generalize w3.alloc (.cells #[.slice ai 0 ci,.slice (some ⟨b,off,none⟩) 1 cd] 26)=w4 at *;generalize hX:w3.heap.size=X at *;clear hX
 have HU1:Hid (∀ W,Below w4.heap.size w4 W→Calls Tryz.prog 18 #[.agg #[.int .i64 d.body.op,.string ⟨d.body.name.toArray⟩,.string ⟨d.body.module.toArray⟩,.bool (decide (d.body.num<0)),.slice am wn cm,.bool d.body.yes,.slice ae d.body.aA.length ce,.int .i64 d.body.at_],.string nm] W fun r w'=>r=.returned (.bool (d.body.j6 nm.data.toList))∧Below W.heap.size W w'):=ay fun W hW=>HU.out nm.data.toList X am wn cm ae ce W (hE4.frame (aW.of hW)) (by have:=hW.size;omega)
 have HU2:Hid (∀ W,Below w4.heap.size w4 W→Calls Tryz.prog 18 #[.agg #[.int .i64 d.body.op,.string ⟨d.body.name.toArray⟩,.string ⟨d.body.module.toArray⟩,.bool (decide (d.body.num<0)),.slice am wn cm,.bool d.body.yes,.slice ae d.body.aA.length ce,.int .i64 d.body.at_],.string ⟨#[120]⟩] W fun r w'=>r=.returned (.bool (d.body.j6 [120]))∧Below W.heap.size W w'):=ay fun W hW=>HU.out [120] X am wn cm ae ce W (hE4.frame (aW.of hW)) (by have:=hW.size;omega)
 have HL2:Hid (∀ W,Below w4.heap.size w4 W→Calls Tryz.prog 19 #[.agg #[.int .i64 d.body.op,.string ⟨d.body.name.toArray⟩,.string ⟨d.body.module.toArray⟩,.bool (decide (d.body.num<0)),.slice am wn cm,.bool d.body.yes,.slice ae d.body.aA.length ce,.int .i64 d.body.at_],.string ⟨#[120]⟩] W fun r w'=>r=.returned (.bool (d.body.pI [120]))∧Below W.heap.size W w'):=ay fun W hW=>HL.out [120] X am wn cm ae ce W (hE4.frame (aW.of hW)) (by have:=hW.size;omega)
 have HE4:=ay hE4;clear hE4 HU HL;have HUN:Hid (d.body.j6 nm.data.toList=d.body.j6 nm.data.toList):=ay rfl;generalize hu1:d.body.j6 nm.data.toList=u1 at HU1 HUN;generalize d.body.j6 [120]=u2 at HU2;generalize d.body.pI [120]=u3 at HL2;obtain⟨c0,c1,-⟩:=aU g3;have y5:=AU.out 5 _ rfl;have y6:=AU.out 6 _ rfl;have y7:=AU.out 7 _ rfl;have y8:=AU.out 8 _ rfl;have y9:=AU.out 9 _ rfl;have rA:=AU.out 10 _ rfl;have rC:=AU.out 11 _ rfl;have rD:=AU.out 12 _ rfl;simp only[dJ] at y6 y7;generalize SX:decide (d.body.num<0)=ng at *
 have HYS:Hid (∀ W:World,Below w4.heap.size w4 W→W.cell? ⟨X,0,none⟩=some (.slice ai 0 ci)∧W.cell? ⟨X,1,none⟩=some (.slice (some ⟨b,off,none⟩) 1 cd)∧W.cell? ⟨b,off+5,none⟩=some (.int .i64 d.body.op)∧W.cell? ⟨b,off+6,none⟩=some (.string ⟨d.body.name.toArray⟩)∧W.cell? ⟨b,off+7,none⟩=some (.string ⟨d.body.module.toArray⟩)∧W.cell? ⟨b,off+8,none⟩=some (.bool ng)∧W.cell? ⟨b,off+9,none⟩=some (.slice am wn cm)∧W.cell? ⟨b,off+10,none⟩=some (.bool d.body.yes)∧W.cell? ⟨b,off+11,none⟩=some (.slice ae d.body.aA.length ce)∧W.cell? ⟨b,off+12,none⟩=some (.int .i64 d.body.at_)):=ay fun W hW=>⟨(hW.cell (p:=⟨X,0,none⟩) hl3).trans c0,(hW.cell (p:=⟨X,1,none⟩) hl3).trans c1,(hW.cell (p:=⟨b,off+5,none⟩) (Nat.lt_trans hb hl3)).trans y5,(hW.cell (p:=⟨b,off+6,none⟩) (Nat.lt_trans hb hl3)).trans y6,(hW.cell (p:=⟨b,off+7,none⟩) (Nat.lt_trans hb hl3)).trans y7,(hW.cell (p:=⟨b,off+8,none⟩) (Nat.lt_trans hb hl3)).trans y8,(hW.cell (p:=⟨b,off+9,none⟩) (Nat.lt_trans hb hl3)).trans y9,(hW.cell (p:=⟨b,off+10,none⟩) (Nat.lt_trans hb hl3)).trans rA,(hW.cell (p:=⟨b,off+11,none⟩) (Nat.lt_trans hb hl3)).trans rC,(hW.cell (p:=⟨b,off+12,none⟩) (Nat.lt_trans hb hl3)).trans rD⟩
 cases u1 with
 | true =>
  go_wp2_with (go_at_call 18;refine(HU1.out _ (bI _ _)).mono ?_;rintro r w5 ⟨rfl,hb5⟩);go_ret;exact⟨rfl,hb4.trans (hb5.mono hb4.size)⟩
 | false =>
 obtain⟨g,hg⟩:∃ g,g=(u2 && u3):=⟨_,rfl⟩
 cases g with
 | true =>
  obtain⟨rfl,rfl⟩:u2=true∧u3=true:=by cases u2<;>cases u3<;>first|exact⟨rfl,rfl⟩|exact absurd hg (by decide)
  clear hg;go_wp2_with (first|(go_at_call 18;refine(HU2.out _ hb5).mono ?_;rintro r w6 ⟨rfl,hb6⟩;have Aq:=hb5.trans (hb6.mono hb5.size);obtain⟨p0,p1,p2,p3,p4,p5,p6,p7,p8,p9⟩:=HYS.out _ Aq)|(go_at_call 18;refine(HU1.out _ (bI _ _)).mono ?_;rintro r w5 ⟨rfl,hb5⟩;obtain⟨q0,q1,q2,q3,q4,q5,q6,q7,q8,q9⟩:=HYS.out _ hb5)|(go_at_call 19;refine(HL2.out _ Aq).mono ?_;rintro r w7 ⟨rfl,wR⟩));go_ret;exact⟨rfl,hb4.trans ((Aq.trans (wR.mono Aq.size)).mono hb4.size)⟩
 | false =>
 have hor:u2=false∨(u2=true∧u3=false):=by cases u2<;>cases u3<;>first|exact .inl rfl|exact .inr ⟨rfl,rfl⟩|exact absurd hg (by decide)
 clear hg
 rcases hor with rfl|⟨rfl,rfl⟩
 go_upto_region 8 with (first|(go_at_call 18;refine(HU2.out _ hb5).mono ?_;rintro r w6 ⟨rfl,hb6⟩;have Aq:=hb5.trans (hb6.mono hb5.size);obtain⟨p0,p1,p2,p3,p4,p5,p6,p7,p8,p9⟩:=HYS.out _ Aq)|(go_at_call 18;refine(HU1.out _ (bI _ _)).mono ?_;rintro r w5 ⟨rfl,hb5⟩;obtain⟨q0,q1,q2,q3,q4,q5,q6,q7,q8,q9⟩:=HYS.out _ hb5)|(go_at_call 19;refine(HL2.out _ Aq).mono ?_;rintro r w7 ⟨rfl,wR⟩))
 obtain⟨wz,rfl⟩:∃ wz:World,wz=w6:=⟨_,rfl⟩
 have hbz:=Aq
 rotate_left
 go_upto_region 8 with (first|(go_at_call 18;refine(HU2.out _ hb5).mono ?_;rintro r w6 ⟨rfl,hb6⟩;have Aq:=hb5.trans (hb6.mono hb5.size);obtain⟨p0,p1,p2,p3,p4,p5,p6,p7,p8,p9⟩:=HYS.out _ Aq)|(go_at_call 18;refine(HU1.out _ (bI _ _)).mono ?_;rintro r w5 ⟨rfl,hb5⟩;obtain⟨q0,q1,q2,q3,q4,q5,q6,q7,q8,q9⟩:=HYS.out _ hb5)|(go_at_call 19;refine(HL2.out _ Aq).mono ?_;rintro r w7 ⟨rfl,wR⟩))
 obtain⟨wz,rfl⟩:∃ wz:World,wz=w7:=⟨_,rfl⟩
 have hbz:=Aq.trans (wR.mono Aq.size);clear wR
 rotate_left
 all_goals
  clear p0 p1 p2 p3 p4 p5 p6 p7 p8 p9 q0 q1 q2 q3 q4 q5 q6 q7 q8 q9 y5 y6 y7 y8 y9 rA rC rD c0 c1 hb5 hb6 Aq HU1 HU2 HL2 TK HB h2 h3;have zF:=hbz.size
  have hl4:X<wz.heap.size:=by omega
  obtain⟨c0,c1,-⟩:=aU ((hbz.block X hl3).trans g3);have hQ:=aY wz (.cells #[.slice ai 0 ci,.slice (some ⟨b,off,none⟩) 1 cd] 26);have hbQ:=aB wz (.cells #[.slice ai 0 ci,.slice (some ⟨b,off,none⟩) 1 cd] 26)
  have hlQ:wz.heap.size<(wz.alloc (.cells #[.slice ai 0 ci,.slice (some ⟨b,off,none⟩) 1 cd] 26)).heap.size:=by simp
  go_upto_region 9 with fail
  clear c0 c1;change Code.wp _ _ _ _ (wz.alloc (.cells #[.slice ai 0 ci,.slice (some ⟨b,off,none⟩) 1 cd] 26));generalize wz.alloc (.cells #[.slice ai 0 ci,.slice (some ⟨b,off,none⟩) 1 cd] 26)=wa at *;generalize wz.heap.size=Q at *;have hba:=hbz.trans (hbQ.mono zF)
  have hY:=fun j u q=>(hba.cell (p:=⟨b,off+j,none⟩) (Nat.lt_trans hb hl3)).trans (AU.out j u q)
  have y0:=hY 0 _ rfl;have y1:=hY 1 _ rfl;have y2:=hY 2 _ rfl;have y3:=hY 3 _ rfl;have y4:=hY 4 _ rfl;have y5:=hY 5 _ rfl;have y6:=hY 6 _ rfl;have y7:=hY 7 _ rfl;have y8:=hY 8 _ rfl;have y9:=hY 9 _ rfl;have rA:=hY 10 _ rfl;have rC:=hY 11 _ rfl;have rD:=hY 12 _ rfl;have y13:=hY 13 _ rfl;have VN:=hY 14 _ rfl;simp only[dJ,SX] at y1 y6 y7 y8;rw[Nat.add_zero] at y0;clear hY;obtain⟨c0,c1,-⟩:=aU ((hba.block X hl3).trans g3);obtain⟨r0,r1,rz⟩:=aU hQ;have r1z:=rz 1
  go_upto_region 10 with fail
  have hzQ:w4.heap.size≤Q:=by omega
  have hs:(wa.setCell ⟨Q,1,none⟩ (.slice (some ⟨wa.heap.size,0,none⟩) 1 1)).heap.size=wa.heap.size:=by simp
  have hN1:=aY (wa.setCell ⟨Q,1,none⟩ (.slice (some ⟨wa.heap.size,0,none⟩) 1 1)) (.cells #[.bool d.pub,.string ⟨d.res.name.toArray⟩,.slice (some ⟨pb,po,none⟩) 1 pc,.int .i64 d.res.base,cv,.int .i64 d.body.op,.string ⟨d.body.name.toArray⟩,.string ⟨d.body.module.toArray⟩,.bool ng,.slice am wn cm,.bool d.body.yes,.slice ae d.body.aA.length ce,.int .i64 d.body.at_,.int .i64 d.res.at_,.int .i64 d.res.bare] 66);rw[hs] at hN1;have hQ1:=(gY (wa.setCell ⟨Q,1,none⟩ (.slice (some ⟨wa.heap.size,0,none⟩) 1 1)) (.cells #[.bool d.pub,.string ⟨d.res.name.toArray⟩,.slice (some ⟨pb,po,none⟩) 1 pc,.int .i64 d.res.base,cv,.int .i64 d.body.op,.string ⟨d.body.name.toArray⟩,.string ⟨d.body.module.toArray⟩,.bool ng,.slice am wn cm,.bool d.body.yes,.slice ae d.body.aA.length ce,.int .i64 d.body.at_,.int .i64 d.res.at_,.int .i64 d.res.bare] 66) Q (by rw[hs];exact hlQ)).trans (heap_setCell_same _ _ 1 _ _ _ hQ);have hbb:=(hba.setCell (p:=⟨Q,1,none⟩) hzQ (.slice (some ⟨wa.heap.size,0,none⟩) 1 1)).alloc (by rw[hs];exact hba.size) (.cells #[.bool d.pub,.string ⟨d.res.name.toArray⟩,.slice (some ⟨pb,po,none⟩) 1 pc,.int .i64 d.res.base,cv,.int .i64 d.body.op,.string ⟨d.body.name.toArray⟩,.string ⟨d.body.module.toArray⟩,.bool ng,.slice am wn cm,.bool d.body.yes,.slice ae d.body.aA.length ce,.int .i64 d.body.at_,.int .i64 d.res.at_,.int .i64 d.res.bare] 66);change Code.wp _ _ _ _ ((wa.setCell ⟨Q,1,none⟩ (.slice (some ⟨wa.heap.size,0,none⟩) 1 1)).alloc (.cells #[.bool d.pub,.string ⟨d.res.name.toArray⟩,.slice (some ⟨pb,po,none⟩) 1 pc,.int .i64 d.res.base,cv,.int .i64 d.body.op,.string ⟨d.body.name.toArray⟩,.string ⟨d.body.module.toArray⟩,.bool ng,.slice am wn cm,.bool d.body.yes,.slice ae d.body.aA.length ce,.int .i64 d.body.at_,.int .i64 d.res.at_,.int .i64 d.res.bare] 66));clear y0 y1 y2 y3 y4 y5 y6 y7 y8 y9 rA rC rD y13 VN c0 c1 r0 r1 rz r1z hQ hbQ hba hs
  generalize (wa.setCell ⟨Q,1,none⟩ (.slice (some ⟨wa.heap.size,0,none⟩) 1 1)).alloc (.cells #[.bool d.pub,.string ⟨d.res.name.toArray⟩,.slice (some ⟨pb,po,none⟩) 1 pc,.int .i64 d.res.base,cv,.int .i64 d.body.op,.string ⟨d.body.name.toArray⟩,.string ⟨d.body.module.toArray⟩,.bool ng,.slice am wn cm,.bool d.body.yes,.slice ae d.body.aA.length ce,.int .i64 d.body.at_,.int .i64 d.res.at_,.int .i64 d.res.bare] 66)=wb at *;generalize wa.heap.size=N at *
  have hY:=fun j u q=>(hbb.cell (p:=⟨b,off+j,none⟩) (Nat.lt_trans hb hl3)).trans (AU.out j u q)
  have hZ:=fun j u q=>(hbb.cell (p:=⟨pb,po+j,none⟩) (Nat.lt_trans hpb hl3)).trans (HPC.out j u q)
  have y2:=hY 2 _ rfl;have z0:=hZ 0 _ rfl;have z1:=hZ 1 _ rfl;have z2:=hZ 2 _ rfl;have z3:=hZ 3 _ rfl;have z4:=hZ 4 _ rfl;simp only[dJ] at z0;rw[Nat.add_zero] at z0;clear hY hZ;obtain⟨c0,c1,-⟩:=aU ((hbb.block X hl3).trans g3);obtain⟨r0,r1,-⟩:=aU hQ1
  have n2:wb.cell? ⟨N,2,none⟩=some (.slice (some ⟨pb,po,none⟩) 1 pc):=by rw[aV hN1];rfl
  have n2z:wb.frozen? ⟨N,2,none⟩=false:=by simp[World.frozen?,hN1]
  have p3:wb.cell? ⟨Q,1,none⟩=some (.slice (some ⟨N,0,none⟩) 1 1)∧wb.cell? ⟨X,1,none⟩=some (.slice (some ⟨b,off,none⟩) 1 cd)∧wb.cell? ⟨b,off+2,none⟩=some (.slice (some ⟨pb,po,none⟩) 1 pc)∧wb.cell? ⟨pb,po,none⟩=some (.string ⟨f.name.toArray⟩)∧wb.cell? ⟨pb,po+1,none⟩=some (.int .i64 f.base)∧wb.cell? ⟨pb,po+2,none⟩=some fv∧wb.cell? ⟨pb,po+3,none⟩=some (.int .i64 f.at_)∧wb.cell? ⟨pb,po+4,none⟩=some (.int .i64 f.bare):=⟨r1,c1,y2,z0,z1,z2,z3,z4⟩
  have n2o:=fun o=>Lib.cell?_alloc_some o n2
  have n2f:∀ o,(wb.alloc o).frozen? ⟨N,2,none⟩=false:=fun o=>by simp only[World.frozen?];rw[gY wb o N (bS hN1).1,hN1];rfl
  have n2d:∀ o,(wb.alloc o).drew.cell? ⟨N,2,none⟩=some (.slice (some ⟨pb,po,none⟩) 1 pc):=n2o;have n2g:∀ o,(wb.alloc o).drew.frozen? ⟨N,2,none⟩=false:=n2f;have n2e:∀ o,(wb.drew.alloc o).cell? ⟨N,2,none⟩=some (.slice (some ⟨pb,po,none⟩) 1 pc):=n2o;have n2h:∀ o,(wb.drew.alloc o).frozen? ⟨N,2,none⟩=false:=n2f;have hNl:=(bS hN1).1
  have hQN:Q≠N:=by omega
  have hst:∀ (a:Addr) (u v:Value) (o:Obj),a.block≠N→wb.cell? a=some u→((wb.setCell ⟨N,2,none⟩ v).alloc o).drew.cell? a=some u:=fun a u v o hne q=>Lib.cell?_alloc_some o ((World.cell?_setCell_far _ _ a v (fun e=>hne e.symm)).trans q)
  have hSt:∀ (o:Obj) (v:Value),(fun W:World=>W.cell? ⟨Q,1,none⟩=some (.slice (some ⟨N,0,none⟩) 1 1)∧W.cell? ⟨X,1,none⟩=some (.slice (some ⟨b,off,none⟩) 1 cd)∧W.cell? ⟨b,off+2,none⟩=some (.slice (some ⟨pb,po,none⟩) 1 pc)∧W.cell? ⟨pb,po,none⟩=some (.string ⟨f.name.toArray⟩)∧W.cell? ⟨pb,po+1,none⟩=some (.int .i64 f.base)∧W.cell? ⟨pb,po+2,none⟩=some fv∧W.cell? ⟨pb,po+3,none⟩=some (.int .i64 f.at_)∧W.cell? ⟨pb,po+4,none⟩=some (.int .i64 f.bare)) ((wb.setCell ⟨N,2,none⟩ v).alloc o).drew:=fun o v=>⟨hst _ _ _ _ hQN p3.1,hst _ _ _ _ (show X≠N by omega) p3.2.1,hst _ _ _ _ (show b≠N by omega) p3.2.2.1,hst _ _ _ _ (show pb≠N by omega) p3.2.2.2.1,hst _ _ _ _ (show pb≠N by omega) p3.2.2.2.2.1,hst _ _ _ _ (show pb≠N by omega) p3.2.2.2.2.2.1,hst _ _ _ _ (show pb≠N by omega) p3.2.2.2.2.2.2.1,hst _ _ _ _ (show pb≠N by omega) p3.2.2.2.2.2.2.2⟩
  go_region_held3 (fun W=>W.cell? ⟨Q,1,none⟩=some (.slice (some ⟨N,0,none⟩) 1 1)∧W.cell? ⟨X,1,none⟩=some (.slice (some ⟨b,off,none⟩) 1 cd)∧W.cell? ⟨b,off+2,none⟩=some (.slice (some ⟨pb,po,none⟩) 1 pc)∧W.cell? ⟨pb,po,none⟩=some (.string ⟨f.name.toArray⟩)∧W.cell? ⟨pb,po+1,none⟩=some (.int .i64 f.base)∧W.cell? ⟨pb,po+2,none⟩=some fv∧W.cell? ⟨pb,po+3,none⟩=some (.int .i64 f.at_)∧W.cell? ⟨pb,po+4,none⟩=some (.int .i64 f.bare)) (first|(with_reducible exact p3)|(exact hSt _ _)|(go_keep;done)) (fail)
  clear p3 hst hSt n2 n2z n2o n2f n2d n2g n2e n2h c0 c1 r0 r1 y2 z0 z1 z2 z3 z4
  have hs:(wb.setCell ⟨N,2,none⟩ (.slice (some ⟨wb.heap.size,0,none⟩) 1 1)).heap.size=wb.heap.size:=by simp
  have hM0:=aY (wb.setCell ⟨N,2,none⟩ (.slice (some ⟨wb.heap.size,0,none⟩) 1 1)) (.cells #[.string ⟨f.name.toArray⟩,.int .i64 f.base,fv,.int .i64 f.at_,.int .i64 f.bare] 68);rw[hs] at hM0;have Il:((wb.setCell ⟨N,2,none⟩ (.slice (some ⟨wb.heap.size,0,none⟩) 1 1)).alloc (.cells #[.string ⟨f.name.toArray⟩,.int .i64 f.base,fv,.int .i64 f.at_,.int .i64 f.bare] 68)).heap[N]?=some (.cells #[.bool d.pub,.string ⟨d.res.name.toArray⟩,.slice (some ⟨wb.heap.size,0,none⟩) 1 1,.int .i64 d.res.base,cv,.int .i64 d.body.op,.string ⟨d.body.name.toArray⟩,.string ⟨d.body.module.toArray⟩,.bool ng,.slice am wn cm,.bool d.body.yes,.slice ae d.body.aA.length ce,.int .i64 d.body.at_,.int .i64 d.res.at_,.int .i64 d.res.bare] 66 (0,0)):=(gY (wb.setCell ⟨N,2,none⟩ (.slice (some ⟨wb.heap.size,0,none⟩) 1 1)) _ N (by rw[hs];exact hNl)).trans (heap_setCell_same _ _ 2 _ _ _ hN1);have hQ2:=(gY (wb.setCell ⟨N,2,none⟩ (.slice (some ⟨wb.heap.size,0,none⟩) 1 1)) (.cells #[.string ⟨f.name.toArray⟩,.int .i64 f.base,fv,.int .i64 f.at_,.int .i64 f.bare] 68) Q (by rw[hs];omega)).trans (((aW.set (w:=wb) (a:=⟨N,2,none⟩) (P:=fun k=>k≠N) (.slice (some ⟨wb.heap.size,0,none⟩) 1 1) fun k hk=>hk).2 Q hQN (by omega)).trans hQ1);have hbc:=((hbb.setCell (p:=⟨N,2,none⟩) (show w4.heap.size≤N by omega) (.slice (some ⟨wb.heap.size,0,none⟩) 1 1)).alloc (by rw[hs];exact hbb.size) (.cells #[.string ⟨f.name.toArray⟩,.int .i64 f.base,fv,.int .i64 f.at_,.int .i64 f.bare] 68)).drew;have hM1:((wb.setCell ⟨N,2,none⟩ (.slice (some ⟨wb.heap.size,0,none⟩) 1 1)).alloc (.cells #[.string ⟨f.name.toArray⟩,.int .i64 f.base,fv,.int .i64 f.at_,.int .i64 f.bare] 68)).drew.heap[wb.heap.size]?=_:=hM0;have Qi:((wb.setCell ⟨N,2,none⟩ (.slice (some ⟨wb.heap.size,0,none⟩) 1 1)).alloc (.cells #[.string ⟨f.name.toArray⟩,.int .i64 f.base,fv,.int .i64 f.at_,.int .i64 f.bare] 68)).drew.heap[N]?=_:=Il
  have hQ3:((wb.setCell ⟨N,2,none⟩ (.slice (some ⟨wb.heap.size,0,none⟩) 1 1)).alloc (.cells #[.string ⟨f.name.toArray⟩,.int .i64 f.base,fv,.int .i64 f.at_,.int .i64 f.bare] 68)).drew.heap[Q]?=_:=hQ2;clear hM0 Il hQ2 hs hbb hN1 hQ1
  go_upto_region 11 with fail
  change Code.wp _ _ _ _ ((wb.setCell ⟨N,2,none⟩ (.slice (some ⟨wb.heap.size,0,none⟩) 1 1)).alloc (.cells #[.string ⟨f.name.toArray⟩,.int .i64 f.base,fv,.int .i64 f.at_,.int .i64 f.bare] 68)).drew;generalize ((wb.setCell ⟨N,2,none⟩ (.slice (some ⟨wb.heap.size,0,none⟩) 1 1)).alloc (.cells #[.string ⟨f.name.toArray⟩,.int .i64 f.base,fv,.int .i64 f.at_,.int .i64 f.bare] 68)).drew=wc at *;generalize wb.heap.size=M at *;obtain⟨r0,r1,-⟩:=aU hQ3
  have n2:wc.cell? ⟨N,2,none⟩=some (.slice (some ⟨M,0,none⟩) 1 1):=by rw[aV Qi];rfl
  have m0:wc.cell? ⟨M,0,none⟩=some (.string ⟨f.name.toArray⟩):=by rw[aV hM1];rfl
  have m0z:wc.frozen? ⟨M,0,none⟩=false:=by simp[World.frozen?,hM1]
  go_upto_region 12 with fail
  have hM2:(wc.setCell ⟨M,0,none⟩ (.string nm)).heap[M]?=some (.cells #[.string nm,.int .i64 f.base,fv,.int .i64 f.at_,.int .i64 f.bare] 68 (0,0)):=heap_setCell_same _ _ 0 _ _ _ hM1;have hal:=(aW.set (w:=wc) (a:=⟨M,0,none⟩) (P:=fun k=>k≠M) (.string nm) fun k hk=>hk).2;have UA:=(hal N (by omega) (bS Qi).1).trans Qi;have hQ4:=(hal Q (by omega) (bS hQ3).1).trans hQ3;have hbd:=hbc.setCell (p:=⟨M,0,none⟩) (show w4.heap.size≤M by omega) (.string nm);clear r0 r1 n2 m0 m0z hM1 Qi hQ3 hbc hal;generalize wc.setCell ⟨M,0,none⟩ (.string nm)=wd at *
  have HR1:Hid (∀ W,Below w4.heap.size w4 W→Calls Tryz.prog 20 #[.agg #[.int .i64 d.body.op,.string ⟨d.body.name.toArray⟩,.string ⟨d.body.module.toArray⟩,.bool ng,.slice am wn cm,.bool d.body.yes,.slice ae d.body.aA.length ce,.int .i64 d.body.at_],.string nm] W (RnP d.body.op ⟨(pY nm.data.toList d.body.op d.body.name).toArray⟩ ⟨d.body.module.toArray⟩ ng (.slice am wn cm) d.body.yes d.body.aA.length d.body.at_ (d.body.ren nm.data.toList) X W)):=ay fun W hW=>by
   have q:=HR.out X am wn cm ae ce W (HE4.out.frame (aW.of hW)) (by have:=hW.size;omega);rw[SX] at q;exact q
  have hl4:N<wd.heap.size:=(bS UA).1;have ad5:Q<wd.heap.size:=(bS hQ4).1
  have hS:∀ W:World,Below w4.heap.size w4 W→W.heap[Q]?=wd.heap[Q]?→W.cell? ⟨Q,1,none⟩=some (.slice (some ⟨N,0,none⟩) 1 1)∧W.cell? ⟨X,1,none⟩=some (.slice (some ⟨b,off,none⟩) 1 cd)∧W.cell? ⟨b,off+5,none⟩=some (.int .i64 d.body.op)∧W.cell? ⟨b,off+6,none⟩=some (.string ⟨d.body.name.toArray⟩)∧W.cell? ⟨b,off+7,none⟩=some (.string ⟨d.body.module.toArray⟩)∧W.cell? ⟨b,off+8,none⟩=some (.bool ng)∧W.cell? ⟨b,off+9,none⟩=some (.slice am wn cm)∧W.cell? ⟨b,off+10,none⟩=some (.bool d.body.yes)∧W.cell? ⟨b,off+11,none⟩=some (.slice ae d.body.aA.length ce)∧W.cell? ⟨b,off+12,none⟩=some (.int .i64 d.body.at_):=fun W hW hq=>by
   have hY:=fun j u q=>(hW.cell (p:=⟨b,off+j,none⟩) (Nat.lt_trans hb hl3)).trans (AU.out j u q)
   have y6:=hY 6 _ rfl;have y7:=hY 7 _ rfl;have y8:=hY 8 _ rfl;simp only[dJ,SX] at y6 y7 y8;obtain⟨-,c1,-⟩:=aU ((hW.block X hl3).trans g3);obtain⟨-,r1,-⟩:=aU (hq.trans hQ4);exact⟨r1,c1,hY 5 _ rfl,y6,y7,y8,hY 9 _ rfl,hY 10 _ rfl,hY 11 _ rfl,hY 12 _ rfl⟩
  have p3:=hS wd hbd rfl;have HS:=ay hS;have Lv:=ay hbd;have HQ4:=ay hQ4;have HN4:=ay UA;have GR:=ay hM2
  have hNw:w4.heap.size≤N:=by omega
  have HP8:=ay (fun (we:World) (hW:Below w4.heap.size w4 we) (hq:we.heap[Q]?=wd.heap[Q]?) (v0 v1 v2 v3 v4 v5 v6 v7:Value)=>HS.out _ (wL hW hNw v0 v1 v2 v3 v4 v5 v6 v7) (((BM (fun k=>k≠N) we N v0 v1 v2 v3 v4 v5 v6 v7 fun k hk=>hk).2 Q (by omega) (bS (hq.trans HQ4.out)).1).trans hq));have HNZ:=ay (fun (W:World) (cs:Array Value) (h:W.heap[N]?=some (.cells cs 66 (0,0))) (j:Nat)=>(by simp[World.frozen?,h]:W.frozen? ⟨N,j,none⟩=false));clear hS UA hM2 hQ4 hbd
  go_region_held3 (fun W=>W.cell? ⟨Q,1,none⟩=some (.slice (some ⟨N,0,none⟩) 1 1)∧W.cell? ⟨X,1,none⟩=some (.slice (some ⟨b,off,none⟩) 1 cd)∧W.cell? ⟨b,off+5,none⟩=some (.int .i64 d.body.op)∧W.cell? ⟨b,off+6,none⟩=some (.string ⟨d.body.name.toArray⟩)∧W.cell? ⟨b,off+7,none⟩=some (.string ⟨d.body.module.toArray⟩)∧W.cell? ⟨b,off+8,none⟩=some (.bool ng)∧W.cell? ⟨b,off+9,none⟩=some (.slice am wn cm)∧W.cell? ⟨b,off+10,none⟩=some (.bool d.body.yes)∧W.cell? ⟨b,off+11,none⟩=some (.slice ae d.body.aA.length ce)∧W.cell? ⟨b,off+12,none⟩=some (.int .i64 d.body.at_))
   (first|(with_reducible exact p3)|(with_reducible exact p4)|(with_reducible exact p8 _ _ _ _ _ _ _ _)|(go_keep;done))
   (first|(go_at_call 20;refine(HR1.out _ Lv.out.drew).mono ?_;rintro r we ⟨ak,ck,rfl,hze,hbe⟩;have aco:=Lv.out.drew.trans (hbe.mono Lv.out.size);have p4:=HS.out we aco (hbe.block Q ad5);have hNe:=(hbe.block N hl4).trans HN4.out;obtain⟨-,-,-,-,-,n5,n6,n7,n8,n9,n10,n11,n12,-⟩:=WS hNe;have nz:=HNZ.out we _ hNe;have p8:=HP8.out we aco (hbe.block Q ad5)))
  clear p3 p4 p8 n5 n6 n7 n8 n9 n10 n11 n12 nz HP8 HNZ HR1 HS;have hMe:=(hbe.block M (bS GR.out).1).trans GR.out;have hQe:=(hbe.block Q ad5).trans HQ4.out;have ah6:=hbe.size
  have hNX:X<N:=by omega
  have hlM:N<M:=by omega
  have hMd:=(bS GR.out).1;have hNf:=Gf hNe (.int .i64 d.body.op) (.string ⟨(pY nm.data.toList d.body.op d.body.name).toArray⟩) (.string ⟨d.body.module.toArray⟩) (.bool ng) (.slice am wn cm) (.bool d.body.yes) (.slice ak d.body.aA.length ck) (.int .i64 d.body.at_)
  have hch:=fun (P:Nat→Prop) (hP:∀ k,P k→k≠N)=>BM P we N (.int .i64 d.body.op) (.string ⟨(pY nm.data.toList d.body.op d.body.name).toArray⟩) (.string ⟨d.body.module.toArray⟩) (.bool ng) (.slice am wn cm) (.bool d.body.yes) (.slice ak d.body.aA.length ck) (.int .i64 d.body.at_) hP
  have hbf:=wL aco hNw (.int .i64 d.body.op) (.string ⟨(pY nm.data.toList d.body.op d.body.name).toArray⟩) (.string ⟨d.body.module.toArray⟩) (.bool ng) (.slice am wn cm) (.bool d.body.yes) (.slice ak d.body.aA.length ck) (.int .i64 d.body.at_);have hQf:=((hch (fun k=>k≠N) fun k hk=>hk).2 Q (by omega) (bS hQe).1).trans hQe;have hMf:=((hch (fun k=>k≠N) fun k hk=>hk).2 M (by omega) (bS hMe).1).trans hMe;have hzf:=hze.frame (hch _ fun k hk=>by have:wd.drew.heap.size=wd.heap.size:=rfl;omega);clear hMe hQe hch hNe hze hbe aco
  go_upto_region 13 with fail
  change Code.wp _ _ _ _ ((((((((we.setCell ⟨N,5,none⟩ (.int .i64 d.body.op)).setCell ⟨N,6,none⟩ (.string ⟨(pY nm.data.toList d.body.op d.body.name).toArray⟩)).setCell ⟨N,7,none⟩ (.string ⟨d.body.module.toArray⟩)).setCell ⟨N,8,none⟩ (.bool ng)).setCell ⟨N,9,none⟩ (.slice am wn cm)).setCell ⟨N,10,none⟩ (.bool d.body.yes)).setCell ⟨N,11,none⟩ (.slice ak d.body.aA.length ck)).setCell ⟨N,12,none⟩ (.int .i64 d.body.at_));generalize ((((((((we.setCell ⟨N,5,none⟩ (.int .i64 d.body.op)).setCell ⟨N,6,none⟩ (.string ⟨(pY nm.data.toList d.body.op d.body.name).toArray⟩)).setCell ⟨N,7,none⟩ (.string ⟨d.body.module.toArray⟩)).setCell ⟨N,8,none⟩ (.bool ng)).setCell ⟨N,9,none⟩ (.slice am wn cm)).setCell ⟨N,10,none⟩ (.bool d.body.yes)).setCell ⟨N,11,none⟩ (.slice ak d.body.aA.length ck)).setCell ⟨N,12,none⟩ (.int .i64 d.body.at_))=wf at *;have hlf:X<wf.heap.size:=Nat.lt_of_lt_of_le hl3 hbf.size;have hlq:Q<wf.heap.size:=(bS hQf).1
  have hD1:RowK Py (fun b=>b<wf.heap.size) wf (.slice (some ⟨b,off,none⟩) 1 cd) [d]:=(hD4.out.frame (aW.of hbf)).imp fun k hk _=>by omega
  have hD2:RowK Py (fun b=>b<wf.heap.size) wf (.slice (some ⟨N,0,none⟩) 1 1) [d.ren nm.data.toList]:=by
   rw[← SX] at hNf;exact acn HDP.out.1 hNf hMf ((RowK.frame HV4.out (aW.of hbf)).imp fun k hk _=>by omega) ((HC4.out.frame (aW.of hbf)).imp fun k hk _=>by omega) (hzf.imp fun k _ hl=>hl) (bS hNf).1 (bS hMf).1
  have hq:ZP.check ⟨[],[d.ren nm.data.toList]⟩ [109] []=ZP.check ⟨[],[d]⟩ [109] []:=WG HDP.out.1 HDP.out.2.1 HDP.out.2.2.1 HDP.out.2.2.2 HN.out hu1
  have J6:Hid (∀ W,Below wf.heap.size wf W→Calls Tryz.prog 21 #[.string ⟨#[109]⟩,.agg #[.slice ai 0 ci,.slice (some ⟨b,off,none⟩) 1 cd],.slice none 0 0] W (Lc (ZP.check ⟨[],[d]⟩ [109] []) W)):=ay fun W hW=>yU [109] ⟨[],[d]⟩ ai ci (some ⟨b,off,none⟩) cd none 0 [] W rfl HZ.out.tV (by decide) ((hD1.frame (aW.of hW)).imp fun _ _ hl=>hl) (RowK.nil _ _ _) ⟨by decide,fun m hm=>by cases hm⟩
  have zB:Hid (∀ W,Below wf.heap.size wf W→Calls Tryz.prog 21 #[.string ⟨#[109]⟩,.agg #[.slice ai 0 ci,.slice (some ⟨N,0,none⟩) 1 1],.slice none 0 0] W (Lc (ZP.check ⟨[],[d]⟩ [109] []) W)):=ay fun W hW=>by
   have q:=yU [109] ⟨[],[d.ren nm.data.toList]⟩ ai ci (some ⟨N,0,none⟩) 1 none 0 [] W rfl (acj (by rw[aR];omega) HZ.out).tV (by decide) ((hD2.frame (aW.of hW)).imp fun _ _ hl=>hl) (RowK.nil _ _ _) ⟨by decide,fun m hm=>by cases hm⟩;rw[hq] at q;exact q
  have hbw:=hb4.trans (hbf.mono hb4.size)
  have hS:∀ W:World,Below wf.heap.size wf W→(W.cell? ⟨X,0,none⟩=some (.slice ai 0 ci)∧W.cell? ⟨X,1,none⟩=some (.slice (some ⟨b,off,none⟩) 1 cd))∧W.cell? ⟨Q,0,none⟩=some (.slice ai 0 ci)∧W.cell? ⟨Q,1,none⟩=some (.slice (some ⟨N,0,none⟩) 1 1):=fun W hW=>by
   obtain⟨c0,c1,-⟩:=aU ((hW.block X hlf).trans ((hbf.block X hl3).trans g3));obtain⟨r0,r1,-⟩:=aU ((hW.block Q hlq).trans hQf);exact⟨⟨c0,c1⟩,r0,r1⟩
  have p3:=hS wf (bI _ _);have HS:=ay hS;generalize ZP.check ⟨[],[d]⟩ [109] []=fl at *;have hq0:=(bI wf.heap.size wf).drew;clear hq hD1 hD2 hS hNf hMf hQf hzf hbf hu1
  go_region_held3 (fun W=>(W.cell? ⟨X,0,none⟩=some (.slice ai 0 ci)∧W.cell? ⟨X,1,none⟩=some (.slice (some ⟨b,off,none⟩) 1 cd))∧W.cell? ⟨Q,0,none⟩=some (.slice ai 0 ci)∧W.cell? ⟨Q,1,none⟩=some (.slice (some ⟨N,0,none⟩) 1 1))
   (first|(with_reducible exact p3)|(with_reducible exact p5)|(with_reducible exact p4)|(go_keep;done))
   (first|(go_at_call 21;refine(zB.out _ hqg).mono ?_;rintro r wh ⟨rfl,hbh⟩;have hqh:=hqg.trans (hbh.mono hqg.size);have p5:=HS.out wh hqh)|(go_at_call 21;refine(J6.out _ hq0).mono ?_;rintro r wg ⟨rfl,hbg⟩;have hqg:=hq0.trans (hbg.mono hq0.size);have p4:=HS.out wg hqg))
  go_wp2;go_ret;exact⟨rfl,hbw.trans (hqh.mono hbw.size)⟩
theorem acp (s nm:ByteArray)(w:World)(hs:s.size≤maxLen)(hm:nm.size≤maxLen):kV s nm w:=by
 by_cases h4:s.size≤400
 ·by_cases h3:nm.size≤30
  ·cases hpl:bf nm.data.toList with
   | false=>exact WR s nm w h4 h3 hpl
   | true =>
    cases hf:je (Lp s).data.toList 60 with
    | bad c a=>exact aci s nm w h4 h3 hpl c a hf
    | good ah aj =>
     obtain⟨p,F,hmk⟩:=F3 (by omega) hf
     have HP:=fun W=>BP (Lp s) W (by rw[BR];omega) ah aj p hf F
     have hmid:=F.mid (by rw[aR,BR];omega)
     by_cases h1:(p.pp ah).defs.length=1
     ·rw[Jz] at F
      obtain⟨hi,d,f,hd,hp,hx,hc,hr⟩:=aaN F hmk h1
      have hz:(p.pp ah).z=⟨[],[d.z]⟩:=by
       show ZP.mk ((p.pp ah).aG.map _) ((p.pp ah).defs.map _)=_;rw[hi,hd]
       rfl
      rw[hz] at HP hmid;exact aaQ s nm w h4 h3 hpl d.z f.z HP hmid (by show d.params.map _=_;rw[hp];rfl) hx (by show f.aC.map _=_;rw[hc];rfl) (by show d.res.aC.map _=_;rw[hr];rfl)
     ·refine aaP s nm w h4 h3 hpl _ HP ?_ hmid.Kl
      show ((p.pp ah).defs.map _).length≠1;rw[List.length_map];exact h1
  ·exact aaO s nm w h4 hm (by omega)
 ·exact ach s nm w hs (by omega)
theorem aaS (s nm:ByteArray)(w:World)(hs:s.size≤maxLen)(hm:nm.size≤maxLen):Calls Tryz.prog 4 #[.string s,.string nm] w fun r w'=>r=.returned (.bool true)∧Below w.heap.size w w':=acp s nm w hs hm
