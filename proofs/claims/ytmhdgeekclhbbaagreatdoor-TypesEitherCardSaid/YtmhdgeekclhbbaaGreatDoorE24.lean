/- Walks and plain laws, without a condition. -/
import Derived.Test.YtmhdgeekclhbbaaGreatDoorE23
set_option maxHeartbeats 16000000
set_option maxRecDepth 100000
set_option linter.unusedVariables false
set_option linter.unusedSimpArgs false
namespace Go.Proofs.YtmhdgeekclhbbaaGreatDoor
open Go.RowKit Go
variable{b c:Nat}{W:World}
theorem aeV {x y:Value}(h:W.heap[b]?=some (.cells #[x,y] 71 (0,0))):(∀ v u,(W.alloc (.cells #[v,u] 71)).cell? ⟨b,0,none⟩=some x)/\(∀ v u,(W.alloc (.cells #[v,u] 71)).cell? ⟨b,1,none⟩=some y)/\(∀ v u,(W.alloc (.cells #[v,u] 71)).frozen? ⟨b,0,none⟩=false)/\∀ v u,(W.alloc (.cells #[v,u] 71)).frozen? ⟨b,1,none⟩=false:=by
 have q:=λv u=>dF ((iB W (.cells #[v,u] 71) b (bU h).1).trans h)
 exact⟨λv u=>(q v u).1.1,λv u=>(q v u).1.2,λv u=>(q v u).2.1,λv u=>(q v u).2.2⟩
theorem Ka (h:b≠c):(∀ (W:World) i j v,(W.setCell ⟨c,i,none⟩ v).cell? ⟨b,j,none⟩=W.cell? ⟨b,j,none⟩)/\∀ (W:World) i j v,(W.setCell ⟨c,i,none⟩ v).frozen? ⟨b,j,none⟩=W.frozen? ⟨b,j,none⟩ :=
 ⟨λW i j v=>AJ (a:=⟨b,j,none⟩) (qo W ⟨c,i,none⟩ b v h),λW i j v=>by simp only[World.frozen?,qo W ⟨c,i,none⟩ b v h]⟩
theorem rR {o p:Obj}(_:W.heap[b]?=some o)(_:W.heap[c]?=some p)(h:b≠c):b≠c:=h
theorem V6 (w:World)(o p:Obj):((w.alloc o).alloc p).heap[w.heap.size+1]?=some p:=by have:=aZ (w.alloc o) p;rwa [oU] at this
theorem Jy (w:World)(o:Obj):w.heap.size<(w.alloc o).heap.size:=by simp
theorem ac5 (w:World)(o p:Obj):w.heap.size<((w.alloc o).alloc p).heap.size:=by simp;omega
theorem ac6 (w:World)(o p:Obj):w.heap.size+1<((w.alloc o).alloc p).heap.size:=by simp
theorem UW {α β:Type}{K:RK α β}{P:Nat->Prop}{w:World}{v:Value}{z:α}(h:RowK K P w v [z]):∃ b off cap x,v=.slice (some ⟨b,off,none⟩) 1 cap/\P b/\b<w.heap.size/\K.inn P w z x/\∀ j u,(K.cells z x)[j]?=some u->w.cell? ⟨b,off+j,none⟩=some u:=by
 obtain⟨ao,cap,rfl,_,hf⟩:=h.form;obtain⟨b,off,rfl,h2,h3,h4⟩:=hf (by simp);obtain⟨x,h5,h6⟩:=h4 0 (by simp);exact⟨b,off,cap,x,rfl,h2,h3,h5,λj u hu=>by have:=h6 j u hu;simpa using this⟩
theorem ac7 (s:ByteArray)(w:World)(hs:s.size<=400)(d d':ZD)(HP:∀ W,Calls Tryz.prog 23 #[.string (Cq s)] W (sW ⟨[],[d]⟩ W))(HQ:∀ W,Calls Tryz.prog 23 #[.string (Jw s)] W (sW ⟨[],[d']⟩ W))
  (hz:ZP.mid ⟨[],[d]⟩) (hz':ZP.mid ⟨[],[d']⟩) (hcl:(∀ f∈d.params,f.aC=[])/\d.res.aC=[]) (hcl':(∀ f∈d'.params,f.aC=[])/\d'.res.aC=[]) (hcc:d'.body.jY=d.body.jY) (hty:ZP.types ⟨[],[d]⟩ [109]=none->∃ a:Int,0<=a/\ZP.types ⟨[],[d']⟩ [109]=some (34,a)):wI s w:=by
 unfold wI
 have hI:¬ ((400:Int)<(s.size:Int)):=by omega
 have h2:decide ((400:Int)<(s.size:Int))=false:=fu (by omega);have HP1:=ay HP;have HQ1:=ay HQ;have HZ:=ay (iq hz hz');have KY:=ay (iq hcl hcl');have Vr:=ay hcc;have Rx:=ay hty;have hfit:=(hz.defs d xq).body.1;have HU:=ay (Jv _ d.body (Nat.lt_succ_self _) hfit);clear HP HQ hz hz' hcl hcl' hcc hty hfit;go_enter Tryz.func5,Tryz.ntmps5
 go_upto_region 6 with (first|(go_at_call 22;refine(wH _).mono ?_;rintro e w1 ⟨rfl,hb1⟩)|(go_at_call 23;refine(HP1.out _).mono ?_;rintro e w3 ⟨ai,ci,ad,cd,rfl,hb3,ho3⟩))
 have xC:=hb1.trans (hb3.mono hb1.size);have hb4:=xC.alloc xC.size (.cells #[.slice ai 0 ci,.slice ad 1 cd] 26);have g3:=aZ w3 (.cells #[.slice ai 0 ci,.slice ad 1 cd] 26);have hD:=(ho3.below (aB w3 (.cells #[.slice ai 0 ci,.slice ad 1 cd] 26))).aex
 have hl3:w3.heap.size<(w3.alloc (.cells #[.slice ai 0 ci,.slice ad 1 cd] 26)).heap.size:=by simp
 change Code.wp _ _ _ _ (w3.alloc (.cells #[.slice ai 0 ci,.slice ad 1 cd] 26));clear hb3 hb1 xC ho3;generalize w3.alloc (.cells #[.slice ai 0 ci,.slice ad 1 cd] 26)=w4 at *;generalize w3.heap.size=X at *
 go_upto_region 7 with (go_at_call 23;refine(HQ1.out _).mono ?_;rintro e w5 ⟨JC,JD,JE,JF,rfl,hb5,WX⟩)
 have Ay:=hb4.trans (hb5.mono hb4.size);have hbw:=Ay.alloc Ay.size (.cells #[.slice JC 0 JD,.slice JE 1 JF] 26);have hal:=aB w5 (.cells #[.slice JC 0 JD,.slice JE 1 JF] 26);have agt:=hb5.trans (hal.mono hb5.size);have g6:=(agt.block X hl3).trans g3;have g7:=aZ w5 (.cells #[.slice JC 0 JD,.slice JE 1 JF] 26);have hD':=(WX.below hal).aex
 have hD6:=(hD.frame (bA.of agt)).imp λb hb _=>hb
 change Code.wp _ _ _ _ (w5.alloc (.cells #[.slice JC 0 JD,.slice JE 1 JF] 26))
 have hl5:w5.heap.size<(w5.alloc (.cells #[.slice JC 0 JD,.slice JE 1 JF] 26)).heap.size:=by simp
 have hX5:X<w5.heap.size:=by have:=hb5.size;omega
 clear g3 hb4 hb5 Ay hal HP1 HQ1 WX hD;generalize w5.alloc (.cells #[.slice JC 0 JD,.slice JE 1 JF] 26)=w6 at *;generalize w5.heap.size=Q at *;have ajA:=agt.size;obtain⟨b,off,cap,x,hv,hB,hbl,⟨-,-,hE⟩,hcell⟩:=UW hD6;simp only[dN,iF,Value.slice.injEq] at hv;obtain⟨rfl,-,rfl⟩:=hv;obtain⟨am,wn,cm,ae,ce,e1,e2⟩:=hE.Xt;rw[e1,e2] at hE;obtain⟨pv,cv,xm,xk⟩:=x;dsimp only at e1 e2;subst e1 e2;obtain⟨c0,c1,-⟩:=bX g6;have x5:=hcell 5 _ rfl;have x6:=hcell 6 _ rfl;have x7:=hcell 7 _ rfl;have x8:=hcell 8 _ rfl;have x9:=hcell 9 _ rfl;have x10:=hcell 10 _ rfl;have YT:=hcell 11 _ rfl;have VA:=hcell 12 _ rfl;simp only[dX] at x6 x7;have Gh:=ay (HU.out w4.heap.size am wn cm ae ce w6 (hE.imp λb hb _=>hb) ajA);have HD6:=ay hD6;have HDQ:=ay hD';have HG:=ay (iq g6 g7);clear hcell hE hD6 hD' g6 g7 HU hB
 cases hc:d.body.jY with
 | true =>
  rw[hc] at Gh;clear Vr;go_wp2_with (go_at_call 24;refine Gh.out.mono ?_;rintro r w8 ⟨rfl,lF⟩);go_ret;exact⟨rfl,hbw.trans (lF.mono hbw.size)⟩
 | false =>
  rw[hc] at Gh Vr
  go_upto_region 9 with (go_at_call 24;refine Gh.out.mono ?_;rintro r w8 ⟨rfl,lF⟩)
  clear x5 x6 x7 x8 x9 x10 YT VA c0 c1 Gh
  obtain⟨f,hf⟩:∃ f,f=ZP.types ⟨[],[d]⟩ [109]:=⟨_,rfl⟩
  obtain⟨g,hg⟩:∃ g,g=ZP.types ⟨[],[d']⟩ [109]:=⟨_,rfl⟩
  have aez:=hbw.trans (lF.mono hbw.size)
  have HPC:Hid (∀ W,Below w8.heap.size w8 W->Calls Tryz.prog 25 #[.string ⟨#[109]⟩,.agg #[.slice ai 0 ci,.slice (some ⟨b,off,none⟩) 1 cd],.slice none 0 0] W (Fz f W)):=ay λW hW=>by
   rw[hf];exact Aw [109] ⟨[],[d]⟩ ai ci (some ⟨b,off,none⟩) cd W rfl HZ.out.1.uw (by decide) ((RowK.frame HD6.out (bA.of (lF.trans (hW.mono lF.size)))).imp λk hk hl=>hl) (λx hx=>by rw[DN] at hx;subst hx;exact⟨KY.out.1,hc⟩)
  have HQC:Hid (∀ W,Below w8.heap.size w8 W->Calls Tryz.prog 25 #[.string ⟨#[109]⟩,.agg #[.slice JC 0 JD,.slice JE 1 JF],.slice none 0 0] W (Fz g W)):=ay λW hW=>by
   rw[hg];exact Aw [109] ⟨[],[d']⟩ JC JD JE JF W rfl HZ.out.2.uw (by decide) ((RowK.frame HDQ.out (bA.of (lF.trans (hW.mono lF.size)))).imp λk hk hl=>hl) (λx hx=>by rw[DN] at hx;subst hx;exact⟨KY.out.2,Vr.out⟩)
  have HFG:Hid (f=none->∃ a:Int,0<=a/\g=some (34,a)):=ay (by rw[hf,hg];exact Rx.out);have hX8:=lF.size
  have HS:Hid (∀ W,Below w8.heap.size w8 W->(W.cell? ⟨X,0,none⟩=some (.slice ai 0 ci)/\W.cell? ⟨X,1,none⟩=some (.slice (some ⟨b,off,none⟩) 1 cd)/\W.cell? ⟨Q,0,none⟩=some (.slice JC 0 JD)/\W.cell? ⟨Q,1,none⟩=some (.slice JE 1 JF))):=ay λW hW=>by
   have h68:=lF.trans (hW.mono lF.size);obtain⟨q0,q1,-⟩:=bX ((h68.block X (by omega)).trans HG.out.1);obtain⟨r0,r1,-⟩:=bX ((h68.block Q hl5).trans HG.out.2);exact⟨q0,q1,r0,r1⟩
  have JB:Hid (bT f):=ay (by
   rw[hf];unfold ZP.types
   split
   ·rename_i x hx
    have:=LQ (p:=⟨[],[d]⟩) rfl [109] [];rw[hx] at this;exact this
   ·exact DF _ _ bT.none)
  clear hf hg Rx Vr KY HD6 HDQ HG HZ
  go_cut [7,8] (λv7 v8 wc=>∃ n7 n8,v7=.pointer (some ⟨n7,0,none⟩)/\v8=.pointer (some ⟨n8,0,none⟩)/\wc.cell? ⟨n7,0,none⟩=some (.int .i64 (EA f))/\wc.cell? ⟨n8,0,none⟩=some (.int .i64 (EA g))/\wc.cell? ⟨n8,1,none⟩=some (.int .i64 (JA g))/\Below w8.heap.size w8 wc)
  case first =>
   have B0:=(bY w8.heap.size w8).drew;have B1:=((bY w8.heap.size w8).alloc (bI _) (.cells #[.int .i64 0,.int .i64 0] 71)).drew;have B2:=(((bY w8.heap.size w8).alloc (bI _) (.cells #[.int .i64 0,.int .i64 0] 71)).alloc (by simp) (.cells #[.int .i64 0,.int .i64 0] 71)).drew;have p3:=HS.out w8 (bY _ _)
   go_region_held3 (λW=>W.cell? ⟨X,0,none⟩=some (.slice ai 0 ci)/\W.cell? ⟨X,1,none⟩=some (.slice (some ⟨b,off,none⟩) 1 cd)/\W.cell? ⟨Q,0,none⟩=some (.slice JC 0 JD)/\W.cell? ⟨Q,1,none⟩=some (.slice JE 1 JF))
    (first|(with_reducible exact p3)|(with_reducible exact p4)|(with_reducible exact p5)|(go_keep;done)|(refine HS.out _ ?_;(repeat' first|exact Vb|(refine Below.setCell ?_ ?_ _)|(refine Below.alloc ?_ ?_ _)|omega|(dsimp only;omega)|(simp only[oU,World.size_setCell];omega));done))
    (first
     | (have hgo:=hbA;go_at_call 25;refine Calls.mono (HQC.out _ (by first|exact hbA|exact hbA.alloc hbA.size _|exact(hbA.alloc hbA.size _).alloc (iY hbA.size (Nat.le_of_lt (Jy wa _))) _)) ?_;rintro r wb ⟨rfl,hbb⟩;have hAB:Below wa.heap.size wa wb:=(by first|exact hbb|exact(aB wa _).trans (hbb.mono (aB wa _).size)|exact((aB wa _).alloc (aB wa _).size _).trans (hbb.mono ((aB wa _).alloc (aB wa _).size _).size));have Vb:=hbA.trans (hAB.mono hbA.size);have p5:=HS.out wb Vb;have zA:=hbA.size;(try (have l9:=(bU ga1).1));have zB:=Vb.size;(try (have gb1:=(hAB.block _ (bU ga1).1).trans ga1));(try (have gb2:=(hAB.block _ (bU ga2).1).trans ga2));(try (have gc1:=(hbb.block wa.heap.size (Jy wa _)).trans (aZ wa (.cells #[.int .i64 0,.int .i64 0] 71))));(try (have gc1:=(hbb.block wa.heap.size (ac5 wa _ _)).trans ((iB (wa.alloc (.cells #[.int .i64 0,.int .i64 0] 71)) (.cells #[.int .i64 0,.int .i64 0] 71) wa.heap.size (Jy wa _)).trans (aZ wa (.cells #[.int .i64 0,.int .i64 0] 71)))));(try (have gc2:=(hbb.block (wa.heap.size+1) (ac6 wa _ _)).trans (V6 wa (.cells #[.int .i64 0,.int .i64 0] 71) (.cells #[.int .i64 0,.int .i64 0] 71))));(try (have lk:=(bU gb1).1;have q:=aeV gb1;obtain⟨a00,a01,a02,a03⟩:=q;have q:=Ka (Nat.ne_of_lt lk);obtain⟨b00,b01⟩:=q;have q:=Ka (Nat.ne_of_gt lk);obtain⟨b02,b03⟩:=q));(try (have lk:=(bU gc1).1;have q:=aeV gc1;obtain⟨a10,a11,a12,a13⟩:=q;have q:=Ka (Nat.ne_of_lt lk);obtain⟨b10,b11⟩:=q;have q:=Ka (Nat.ne_of_gt lk);obtain⟨b12,b13⟩:=q));(try (have q:=dF gb1;obtain⟨⟨c00,c01⟩,c02,c03⟩:=q));(try (have q:=dF gb2;obtain⟨⟨c10,c11⟩,c12,c13⟩:=q));(try (have q:=dF gc1;obtain⟨⟨c20,c21⟩,c22,c23⟩:=q));(try (have q:=dF gc2;obtain⟨⟨c30,c31⟩,c32,c33⟩:=q));(try (have q:=Ka (rR gb1 gb2 (by omega));obtain⟨d00,d01⟩:=q;have q:=Ka (rR gb2 gb1 (by omega));obtain⟨f00,f01⟩:=q));(try (have q:=Ka (rR gb1 gc1 (by omega));obtain⟨d10,d11⟩:=q;have q:=Ka (rR gc1 gb1 (by omega));obtain⟨f10,f11⟩:=q));(try (have q:=Ka (rR gc1 gc2 (by omega));obtain⟨d20,d21⟩:=q;have q:=Ka (rR gc2 gc1 (by omega));obtain⟨f20,f21⟩:=q)))
     | (go_at_call 25;refine Calls.mono (HPC.out _ (by first|exact B0|exact B1|exact B2)) ?_;rintro r wa ⟨rfl,hba⟩;have hbA:Below w8.heap.size w8 wa:=(by first|exact B0.trans (hba.mono B0.size)|exact B1.trans (hba.mono B1.size)|exact B2.trans (hba.mono B2.size));have p4:=HS.out wa hbA;(try (have ga1:=(hba.block w8.heap.size (Jy w8 _)).trans (aZ w8 (.cells #[.int .i64 0,.int .i64 0] 71))));(try (have ga1:=(hba.block w8.heap.size (ac5 w8 _ _)).trans ((iB (w8.alloc (.cells #[.int .i64 0,.int .i64 0] 71)) (.cells #[.int .i64 0,.int .i64 0] 71) w8.heap.size (Jy w8 _)).trans (aZ w8 (.cells #[.int .i64 0,.int .i64 0] 71)))));(try (have ga2:=(hba.block (w8.heap.size+1) (ac6 w8 _ _)).trans (V6 w8 (.cells #[.int .i64 0,.int .i64 0] 71) (.cells #[.int .i64 0,.int .i64 0] 71))))))
   all_goals
    go_wp2_with fail
    go_meet
    refine⟨_,_,rfl,rfl,?_,?_,?_,?_⟩
    all_goals first
     | ((repeat' first|exact Vb|(refine Below.setCell ?_ ?_ _)|(refine Below.alloc ?_ ?_ _)|omega|(dsimp only;omega)|(simp only[oU,World.size_setCell];omega));done)
     | (go_simp;done)
  case rest =>
   obtain⟨n7,n8,rfl,rfl,t7,t8,t9,hbc⟩:=hcut
   obtain⟨w9,rfl⟩:∃ w9:World,w9=wc:=⟨_,rfl⟩
   have HF:=HFG.out
   cases f with
   | some x =>
    have hx:(x.1 != 0)=true:=bne_iff_ne.2 (JB.out x rfl);simp only[EA] at t7;obtain⟨xe,xa⟩:=x;simp only at t7 hx;clear t8 t9;go_wp2;go_ret;exact⟨rfl,aez.trans (hbc.mono aez.size)⟩
   | none =>
    obtain⟨a,ha,rfl⟩:=HF rfl;simp only[EA,JA] at t7 t8 t9;go_wp2;go_ret;exact⟨by simp,aez.trans (hbc.mono aez.size)⟩
theorem aeA (s:ByteArray)(w:World)(hs:s.size<=maxLen):wI s w:=by
 by_cases h4:s.size<=400
 ·have hbT:∀ c a,gF (Cq s).data.toList 60=.bad c a->∀ W,Calls Tryz.prog 23 #[.string (Cq s)] W (PrB 0 false W):=λc a h W=>(zG (Cq s) W (by rw[ze];omega) c a h).mono λe w' q=>⟨none,0,0,none,0,q⟩
  have hbQ:∀ c a,gF (Jw s).data.toList 60=.bad c a->∀ W,Calls Tryz.prog 23 #[.string (Jw s)] W (PrB 0 false W):=λc a h W=>(zG (Jw s) W (by rw[zf];omega) c a h).mono λe w' q=>⟨none,0,0,none,0,q⟩
  have hgT:∀ ah aj,gF (Cq s).data.toList 60=.good ah aj->∃ p,mM (Cq s).data.toList ah aj p/\p.marks ah/\(∀ W,Calls Tryz.prog 23 #[.string (Cq s)] W (sW (p.pp ah).z W)):=λah aj h=>by
   obtain⟨p,F,hmk⟩:=Ac (by omega) h;exact⟨p,F,hmk,λW=>vK (Cq s) W (by rw[ze];omega) ah aj p h F⟩
  cases hq:gF (Jw s).data.toList 60 with
  | bad c a =>
   cases hp:gF (Cq s).data.toList 60 with
   | bad c' a'=>exact NW s w h4 0 0 false false (by omega) (hbT _ _ hp) (hbQ _ _ hq) (.inl rfl)
   | good ah aj =>
    obtain⟨p,F,-,HP⟩:=hgT _ _ hp;exact NW s w h4 _ 0 true false (F.mid (by rw[aS,ze];omega)).MI (λW=>(HP W).mono λ_ _ q=>q.b) (hbQ _ _ hq) (.inr (.inl rfl))
  | good aeW nodes' =>
   obtain⟨p',F',-⟩:=Ac (by omega) hq
   have HQ0:=λW=>(vK (Jw s) W (by rw[zf];omega) aeW nodes' p' hq F').mono λ_ _ q=>q.b
   cases hp:gF (Cq s).data.toList 60 with
   | bad c a=>exact NW s w h4 0 _ false true (by omega) (hbT _ _ hp) HQ0 (.inl rfl)
   | good ah aj =>
    obtain⟨p,F,hmk,HP⟩:=hgT _ _ hp;have hmid:=F.mid (by rw[aS,ze];omega)
    by_cases h1:(p.pp ah).defs.length=1
    ·have hlT:=F.GL
     have hlQ:=F'.GL;rw[DJ] at hlT;rw[LX] at hlQ;obtain⟨A,hA⟩:=QE hlT hlQ;obtain⟨c,rfl⟩:=X9 (by rw[<- DJ];exact F) hmk h1;have hq2:=PG F'.GL A hp;have F2:=Q0 F A hq2 (Yv A F.okk)
     have HQ:=λW=>vK (Jw s) W (by rw[zf];omega) _ _ _ hq2 F2
     have aeX:=F2.mid (by rw[aS,zf];omega);obtain⟨a1,b1,a2,b2,a3,b3,e1⟩:=VF (.inl rfl) hlT c;obtain⟨c1,d1,c2,d2,c3,d3,e2⟩:=VF (.inr rfl) hlQ c;rw[e1] at HP hmid;rw[e2] at HQ aeX;have hna:=CE.vG hA c 14 (by omega)
     refine ac7 s w h4 _ _ HP HQ hmid aeX ⟨λf hf=>?_,rfl⟩ ⟨λf hf=>?_,rfl⟩ ?_ λhk=>?_
     ·simp only[kC,oo,List.not_mem_nil,or_false] at hf
      rcases hf with rfl|rfl<;>rfl
     ·simp only[kC,oo,List.not_mem_nil,or_false] at hf
      rcases hf with rfl|rfl<;>rfl
     ·show (c.pe aeW 14).z.jY=(c.pe ah 14).z.jY
      rw[<- PZ.Ng,hna,PZ.Ng]
     ·refine⟨_,?_,NP hna hk⟩
      rw[PE.ajg];omega
    ·refine NW s w h4 _ _ true true hmid.MI (λW=>(HP W).mono λ_ _ q=>q.b) HQ0 (.inr (.inr ?_))
     show ((p.pp ah).defs.map _).length≠1;rw[vL];exact h1
 ·exact aey s w hs (by omega)
theorem ac8 (s:ByteArray)(w:World)(hs:s.size<=maxLen):Calls Tryz.prog 5 #[.string s] w λr w'=>r=.returned (.bool true)/\Below w.heap.size w w':=aeA s w hs
