/- Walks and plain laws: SigW4, ScopeAnc, SigAnc, SigAncW, FindsW. -/
import Derived.Test.YtknicmmigbhpcaaGreatDoorF37
set_option maxHeartbeats 16000000
set_option maxRecDepth 100000
set_option linter.unusedVariables false
set_option linter.unusedSimpArgs false
namespace Go.Proofs.YtknicmmigbhpcaaGreatDoor
open Go.RowKit Go Go.Sort
mutual
theorem PE.LA:∀ e:PE,e.size≤e.iR
 | .mk _ _ _ _ _ _ kids _=>by
  rw[PE.size,PE.iR];have:=Gu kids;omega
theorem Gu:∀ l:List PE,jT l≤eZ l
 | []=>Nat.le_refl _
 | e :: l=>by
  rw[jT,eZ];have h1:=PE.LA e;have h2:=Gu l;omega
end
theorem FF.P8 {f:FF}(hn:f.name.length≤65536)(hc:f.clause.length≤1)(ha:∀ e∈f.clause,Lr e.z∧e.size≤400000):f.z.known:=by
 refine⟨hn,by show (f.clause.map PE.z).length≤_;rw[List.length_map];omega,fun x hx=>?_,?_⟩
 ·obtain⟨e,he,rfl⟩:=List.mem_map.1 hx
  exact⟨(ha e he).1.1,e,rfl,(ha e he).2⟩
 ·have:=wC f.z.base f.z.clause (by show (f.clause.map PE.z).length≤1;rw[List.length_map];exact hc) fun x hx=>by
   obtain⟨e,he,rfl⟩:=List.mem_map.1 hx;exact(ha e he).1.text
  omega
structure ZD.known (d:ZD):Prop where
 res:d.res.known
 jS:∀ f∈d.params,f.known
 few:d.params.length≤8
 text:(bg (d.params.map ZF.text)).length≤140737488355328
 fit:d.uV
theorem oD.Xp {S:List UInt8}{toks:List Tok}{nodes:List Nd}{p:kG}(F:oD S toks nodes p)(hs:S.length≤1200):∀ d∈(p.pp toks).z.defs,d.known:=by
 have hm:=F.mid hs
 have ha:(p.pp toks).all fun e=>Lr e.z∧e.size≤400000:=PP.Io F.fits F.few F.few fun e h1 h2 _=>by
  have h3:=F.nd;have h4:=F.count;have h5:=e.LA;exact⟨⟨PE.Wu (by omega) e h1 (by omega),by rw[PE.Oc];omega⟩,by omega⟩
 intro d hd;have h1:=hm.defs d hd;obtain⟨x,hx,rfl⟩:=List.mem_map.1 hd;have h2:=ha x hx;have h3:=F.N7.defs x hx;refine⟨FF.P8 (Nat.le_trans h3.res.name (by omega)) h3.res.clause h2.2.1,fun f hf=>?_,h1.few,?_,h1.uV⟩
 ·obtain⟨y,hy,rfl⟩:=List.mem_map.1 hf
  exact FF.P8 (Nat.le_trans (h3.params y hy).name (by omega)) (h3.params y hy).clause (h2.1 y hy)
 ·have h4:=wB 750065545 (x.z.params.map ZF.text) fun t ht=>by
   obtain⟨f,hf,rfl⟩:=List.mem_map.1 ht;exact(h1.jS f hf).text
  have h5:(x.z.params.map ZF.text).length * (750065545+2)≤8 * (750065545+2):=Nat.mul_le_mul_right _ (by rw[List.length_map];exact h1.few);omega
def Ah (s:ByteArray):ByteArray:=ByteArray.mk #[102,117,110,32]++s++ByteArray.mk #[61,48,59]
theorem OG (s:ByteArray):(Ah s).size=s.size+7:=by
 show (ByteArray.mk #[102,117,110,32]++s++ByteArray.mk #[61,48,59]).size=_;rw[ByteArray.size_append,ByteArray.size_append];show 4+s.size+3=_;omega
def SY (T:List UInt8)(d:ZD)(w:World)(e:Ending)(w':World):Prop :=
 if d.gX=true∧d.mE=T then ∃ a c ac cc,e=.returned (.tuple #[.agg #[.string ⟨d.res.name.toArray⟩,.slice a d.params.length c,.int .i64 d.res.base,.slice ac d.res.clause.length cc],.int .i64 0])∧tY (fun b=>w.heap.size≤b) w' (.slice a d.params.length c) (.slice ac d.res.clause.length cc) d.params d.res.clause∧Below w.heap.size w w'
 else e=.returned (.tuple #[.agg #[.string ⟨#[]⟩,.slice none 0 0,.int .i64 0,.slice none 0 0],.int .i64 10])∧Below w.heap.size w w'
theorem Ai (s:ByteArray)(w:World)(hs:s.size≤900)(toks:List Tok)(nodes:List Nd)(p:kG)(h:nA (Ah s).data.toList 200=.good toks nodes)(F:oD (Ah s).data.toList toks nodes p)(d:ZD)(hd:(p.pp toks).z=⟨[],[d]⟩)(Y5:d.pub=false) :
  Calls Tryz.prog 34 #[.string s] w (SY s.data.toList d w):=by
 have hsz:=OG s;have HF:=ah (fun W=>Gt (Ah s) 200 W (by omega) (by omega) (by omega));rw[h] at HF;have HO:=ah (fun B at_ ct an cn W hT hB=>abB B at_ ct an cn (Ah s) toks nodes p W hT hB F);have hkn:=F.Xp (by rw[aK];omega) d (by rw[hd];exact List.mem_singleton.2 rfl)
 have hil:(p.pp toks).imports.length=0:=by
  have:(p.pp toks).z.imports.length=0:=by rw[hd];rfl
  simpa [PP.z] using this
 have hdl:(p.pp toks).defs.length=1:=by
  have:(p.pp toks).z.defs.length=1:=by rw[hd];rfl
  simpa [PP.z] using this
 have hdz:(p.pp toks).defs.map DD.z=[d]:=by
  have:(p.pp toks).z.defs=[d]:=by rw[hd]
  exact this
 have HDZ:=ah hdz;have yD:=ah hkn;have HIL:=ah hil;have HDL:=ah hdl;clear hil hdl;generalize p.pp toks=pp at *
 have hsI:¬ (32768:Int)<(s.size:Int):=by omega
 have Xq:=aj w (.cells #[.string ⟨#[]⟩,.slice none 0 0,.int .i64 0,.slice none 0 0] 31);have e0:=heap_alloc_new w (.cells #[.string ⟨#[]⟩,.slice none 0 0,.int .i64 0,.slice none 0 0] 31)
 have hq1:¬ 9223372036854775807<4+s.size:=by omega
 have hq2:¬ 9223372036854775807<4+s.size+3:=by omega
 clear h F hdz hkn hd;unfold Ah at HF;go_enter Tryz.func34,Tryz.ntmps34
 go_upto_region 4 with (go_at_call 36;refine(HF.out _).mono ?_;rintro e w2 ⟨hb2,at_,ct,an,cn,rfl,hty⟩)
 have hb3:=(aj w2 (.cells #[.slice at_ toks.length ct,.slice an nodes.length cn] 89)).alloc (by simp) (.cells #[.int .i64 0,.int .i64 0] 75);have e1:=(Lib.alloc_old (w2.alloc (.cells #[.slice at_ toks.length ct,.slice an nodes.length cn] 89)) (.cells #[.int .i64 0,.int .i64 0] 75) w2.heap.size (by simp)).trans (heap_alloc_new w2 (.cells #[.slice at_ toks.length ct,.slice an nodes.length cn] 89));have e2:=heap_alloc_new (w2.alloc (.cells #[.slice at_ toks.length ct,.slice an nodes.length cn] 89)) (.cells #[.int .i64 0,.int .i64 0] 75);rw[World.size_alloc] at e2;have e02:=(hb2.block w.heap.size (by simp)).trans e0;have hl2:=(bG e02).1;have e03:=(hb3.block w.heap.size hl2).trans e02;have hbw:=(Xq.trans (hb2.mono Xq.size)).trans (hb3.mono (Xq.trans (hb2.mono Xq.size)).size);have hT:=hty.at.below hb3
 have hs3:w2.heap.size+1<((w2.alloc (.cells #[.slice at_ toks.length ct,.slice an nodes.length cn] 89)).alloc (.cells #[.int .i64 0,.int .i64 0] 75)).heap.size:=by simp
 clear hb2 hb3 HF hty e02 e0 Xq;generalize (w2.alloc _).alloc _=w3 at e1 e2 e03 hbw hT hs3 ⊢;generalize w2.heap.size=tb at e1 e2 hT hs3 hl2 ⊢;obtain⟨c0,c1⟩:=dn e1;have HOx:=ah (HO.out tb at_ ct an cn w3 hT (by omega));clear e1 HO hq1 hq2
 go_upto_region 5 with (go_at_call 37;refine HOx.out.mono ?_;rintro e w4 ⟨ai,ci,ad,cd,rfl,hn4,nW,hb4,Qq⟩)
 have qP:=hbw.trans (hb4.mono hbw.size);have hb5:=qP.alloc qP.size (.cells #[.slice ai pp.imports.length ci,.slice ad pp.defs.length cd] 38);have abE:=hb4.alloc hb4.size (.cells #[.slice ai pp.imports.length ci,.slice ad pp.defs.length cd] 38);have g5:=heap_alloc_new w4 (.cells #[.slice ai pp.imports.length ci,.slice ad pp.defs.length cd] 38);have f5:=(abE.block (tb+1) hs3).trans e2;have r5:=(abE.block w.heap.size (by omega)).trans e03;have Rq:=Y9 (Qq.below (aj w4 (.cells #[.slice ai pp.imports.length ci,.slice ad pp.defs.length cd] 38)))
 have hs5:w4.heap.size<(w4.alloc (.cells #[.slice ai pp.imports.length ci,.slice ad pp.defs.length cd] 38)).heap.size:=by simp
 rw[HDZ.out] at Rq
 have hw3:w.heap.size<w3.heap.size:=by omega
 have aeV:=hb4.size;clear c0 c1 HOx hT nW hb4 qP hbw hn4 Qq abE e2 e03 hl2;change Code.wp _ _ _ _ (w4.alloc (.cells #[.slice ai pp.imports.length ci,.slice ad pp.defs.length cd] 38));generalize w4.alloc _=w5 at hb5 g5 f5 r5 Rq hs5 ⊢;have hil:=HIL.out;have hdl:=HDL.out;rw[hil,hdl];generalize hpb:w4.heap.size=pb at g5 hs5 aeV ⊢;rw[hil,hdl] at g5;rw[hdl] at Rq;clear hpb;obtain⟨ae',ce',hv,_,hform⟩:=Rq.row.form;simp only[Value.slice.injEq] at hv;obtain⟨rfl,-,rfl⟩:=hv;obtain⟨b,off,rfl,hb3,Qw,qy⟩:=hform (by simp);obtain⟨⟨pv,cv,bm,bk⟩,⟨hpr,hcr,hbe⟩,hc⟩:=qy 0 (by simp);simp only[List.getElem_cons_zero] at hpr hcr hbe hc;obtain⟨am,wn,cm,ae,ce,rfl,rfl⟩:=hbe.slX;obtain⟨ap,cp,rfl⟩:=hpr.slice;obtain⟨ac,cc,rfl⟩:=hcr.slice
 have hcl:∀ (c:Nat) (u:Value),w5.cell? ⟨b,off+0 * 15+c,none⟩=some u→w5.cell? ⟨b,off+c,none⟩=some u:=fun c u h=>by rw[Nat.zero_mul,Nat.add_zero] at h;exact h
 have y0:=hcl 0 _ (hc 0 _ rfl);have y1:=hcl 1 _ (hc 1 _ rfl);have y2:=hcl 2 _ (hc 2 _ rfl);have y3:=hcl 3 _ (hc 3 _ rfl);have y4:=hcl 4 _ (hc 4 _ rfl);have y5:=hcl 5 _ (hc 5 _ rfl);have y6:=hcl 6 _ (hc 6 _ rfl);have y7:=hcl 7 _ (hc 7 _ rfl);have y8:=hcl 8 _ (hc 8 _ rfl);have y9:=hcl 9 _ (hc 9 _ rfl);have y10:=hcl 10 _ (hc 10 _ rfl);have y11:=hcl 11 _ (hc 11 _ rfl);have y12:=hcl 12 _ (hc 12 _ rfl);have y13:=hcl 13 _ (hc 13 _ rfl);have y14:=hcl 14 _ (hc 14 _ rfl);rw[Nat.add_zero,Y5] at y0;simp only[bY] at y1 y2 y4 y6 y7 y9 y11
 have hor:¬ (Value.slice (some ⟨b,off,none⟩) 1 cd=.slice none 0 0):=by simp
 have PO:=ah (Sv (fun k=>w3.heap.size≤k) d ap cp ac cc am wn cm ae ce w5 yD.out.fit hpr hcr);unfold ED at PO;rw[Y5] at PO;obtain⟨a0,a1,-⟩:=gY g5;obtain⟨f0,f1,-⟩:=iV f5;have HR5:=ah r5;have Mr:=hb5.size;clear hc hcl qy hform hpr hcr hbe Rq g5 f5 r5 HDZ hil hdl HIL HDL
 go_upto_region 7 with fail
 clear f0 f1
 go_upto_region 8 with (go_at_call 13;refine PO.out.mono ?_;rintro e w6 ⟨a6,c6,a7,c7,rfl,hsg,hb6⟩)
 have pI:=hb6.alloc hb6.size (.cells #[.string ⟨d.res.name.toArray⟩,.slice a6 d.params.length c6,.int .i64 d.res.base,.slice a7 d.res.clause.length c7] 31);have g7:=heap_alloc_new w6 (.cells #[.string ⟨d.res.name.toArray⟩,.slice a6 d.params.length c6,.int .i64 d.res.base,.slice a7 d.res.clause.length c7] 31);have ZG:=hsg.frame (aQ.of (aj w6 (.cells #[.string ⟨d.res.name.toArray⟩,.slice a6 d.params.length c6,.int .i64 d.res.base,.slice a7 d.res.clause.length c7] 31)))
 have hs7:w6.heap.size<(w6.alloc (.cells #[.string ⟨d.res.name.toArray⟩,.slice a6 d.params.length c6,.int .i64 d.res.base,.slice a7 d.res.clause.length c7] 31)).heap.size:=by simp
 have hz6:=hb6.size;clear hsg hb6 y0 y1 y2 y3 y4 y5 y6 y7 y8 y9 y10 y11 y12 y13 y14 a0 a1 PO;change Code.wp _ _ _ _ (w6.alloc (.cells #[.string ⟨d.res.name.toArray⟩,.slice a6 d.params.length c6,.int .i64 d.res.base,.slice a7 d.res.clause.length c7] 31));generalize w6.alloc _=w7 at pI g7 ZG hs7 ⊢;generalize w6.heap.size=qb at g7 hs7 hz6 ⊢;have xX:=hb5.trans (pI.mono Mr);have UZ:=ah (OA d.res d.params w7.heap.size a6 c6 a7 c7 w7 (ZG.imp fun _ _ hl=>hl) (Nat.le_refl _) yD.out.res yD.out.jS yD.out.text);unfold Oz at UZ;have hR7:=(pI.block _ (by omega)).trans HR5.out;have Tq:=ah (ZG.imp (Q:=fun k=>w.heap.size<k) fun k hk _=>by rcases hk with hk|hk<;>omega);have HG7:=ah (And.intro g7 hR7);obtain⟨⟨x0,x1,x2,x3⟩,-⟩:=fA g7;have Sj:=(bG hR7).1;clear ZG pI g7 hR7 HR5 hb5
 have hTT:ByteArray.mk s.data.toList.toArray=s:=by cases s;simp
 obtain⟨rt,hrt⟩:∃ rt,rt=d.gX:=⟨_,rfl⟩
 obtain⟨tx,htx⟩:∃ tx,tx=d.mE:=⟨_,rfl⟩
 rw[show gX d.res.name d.params d.res.base d.res.clause=rt from hrt.symm,show mE d.res.name d.params d.res.base d.res.clause=tx from htx.symm] at UZ;have Zu:=ah (And.intro hrt htx);clear hrt htx
 cases rt with
 | false =>
  have HS2:Hid (Calls Tryz.prog 21 #[.agg #[.string ⟨d.res.name.toArray⟩,.slice a6 d.params.length c6,.int .i64 d.res.base,.slice a7 d.res.clause.length c7]] w7 fun e w'=>e=.returned (.tuple #[.string ⟨#[]⟩,.int .i64 10])∧Below w7.heap.size w7 w'):=ah UZ.out;clear UZ
  go_upto_region 10 with (go_at_call 21;refine HS2.out.mono ?_;rintro e w8 ⟨rfl,jr⟩)
  have JF:=(jr.block _ Sj).trans HG7.out.2;have Xr:=xX.trans (jr.mono xX.size);obtain⟨⟨r0,r1,r2,r3⟩,z0,z1,z2,z3⟩:=fA JF;have hP:=fI JF (.string ⟨#[]⟩) (.slice none 0 0) (.int .i64 0) (.slice none 0 0);have Ef:=eF Xr (Nat.le_refl w.heap.size) (.string ⟨#[]⟩) (.slice none 0 0) (.int .i64 0) (.slice none 0 0);have HP:=ah hP;have HB:=ah Ef;clear hP Ef JF;go_wp2;change bodyPost _ _ _ _ _ (jN w8 w.heap.size (.string ⟨#[]⟩) (.slice none 0 0) (.int .i64 0) (.slice none 0 0));generalize jN w8 _ _ _ _ _=w9 at *;obtain⟨⟨d0,d1,d2,d3⟩,-⟩:=fA HP.out;exact bodyPost_ret (v:=.tuple #[.agg #[.string ⟨#[]⟩,.slice none 0 0,.int .i64 0,.slice none 0 0],.int .i64 10]) (by simp[results,Tryz.results34,go_sem,d0,d1,d2,d3]) rfl (by unfold SY;rw[if_neg (fun q=>by rw[← Zu.out.1] at q;cases q.1)];exact⟨rfl,HB.out⟩)
 | true =>
  have HS2:Hid (Calls Tryz.prog 21 #[.agg #[.string ⟨d.res.name.toArray⟩,.slice a6 d.params.length c6,.int .i64 d.res.base,.slice a7 d.res.clause.length c7]] w7 fun e w'=>e=.returned (.tuple #[.string ⟨tx.toArray⟩,.int .i64 0])∧Below w7.heap.size w7 w'):=ah UZ.out;clear UZ
  by_cases heq:tx=s.data.toList
  ·have HEQ:=ah heq
   have HS3:Hid (Calls Tryz.prog 21 #[.agg #[.string ⟨d.res.name.toArray⟩,.slice a6 d.params.length c6,.int .i64 d.res.base,.slice a7 d.res.clause.length c7]] w7 fun e w'=>e=.returned (.tuple #[.string s,.int .i64 0])∧Below w7.heap.size w7 w'):=ah (by have q:=HS2.out;rw[heq,hTT] at q;exact q);clear HS2 heq hTT
   go_upto_region 11 with (go_at_call 21;refine HS3.out.mono ?_;rintro e w8 ⟨rfl,jr⟩)
   have JF:=(jr.block _ Sj).trans HG7.out.2;have hS8:=(jr.block _ hs7).trans HG7.out.1;have Xr:=xX.trans (jr.mono xX.size);obtain⟨⟨r0,r1,r2,r3⟩,z0,z1,z2,z3⟩:=fA JF;obtain⟨⟨x0',x1',x2',x3'⟩,-⟩:=fA hS8;have hcmp:(s.toList == s.toList)=true:=beq_self_eq_true _;have hP:=fI JF (.string ⟨d.res.name.toArray⟩) (.slice a6 d.params.length c6) (.int .i64 d.res.base) (.slice a7 d.res.clause.length c7);have Ef:=eF Xr (Nat.le_refl w.heap.size) (.string ⟨d.res.name.toArray⟩) (.slice a6 d.params.length c6) (.int .i64 d.res.base) (.slice a7 d.res.clause.length c7)
   have hsP:tY (fun k=>w.heap.size≤k) (jN w8 w.heap.size (.string ⟨d.res.name.toArray⟩) (.slice a6 d.params.length c6) (.int .i64 d.res.base) (.slice a7 d.res.clause.length c7)) (.slice a6 d.params.length c6) (.slice a7 d.res.clause.length c7) d.params d.res.clause :=
    ((Tq.out.frame (aQ.of jr)).frame (tZ _ _ _ _ fun k hk=>by omega)).imp fun k hk _=>by omega
   have HP:=ah hP;have HB:=ah (And.intro Ef hsP);clear hP Ef JF hS8 x0 x1 x2 x3 hsP;go_wp2;change bodyPost _ _ _ _ _ (jN w8 w.heap.size (.string ⟨d.res.name.toArray⟩) (.slice a6 d.params.length c6) (.int .i64 d.res.base) (.slice a7 d.res.clause.length c7));generalize jN w8 _ _ _ _ _=w9 at *;obtain⟨⟨d0,d1,d2,d3⟩,-⟩:=fA HP.out;exact bodyPost_ret (v:=.tuple #[.agg #[.string ⟨d.res.name.toArray⟩,.slice a6 d.params.length c6,.int .i64 d.res.base,.slice a7 d.res.clause.length c7],.int .i64 0]) (by simp[results,Tryz.results34,go_sem,d0,d1,d2,d3]) rfl (by unfold SY;rw[if_pos ⟨Zu.out.1.symm,by rw[← Zu.out.2];exact HEQ.out⟩];exact⟨a6,c6,a7,c7,rfl,HB.out.2,HB.out.1⟩)
  ·have HNE:=ah heq
   have hcmp:(tx == s.toList)=false:=by rw[Go.ByteArray.toList_eq];exact beq_eq_false_iff_ne.2 heq
   clear heq hTT
   go_upto_region 9 with (go_at_call 21;refine HS2.out.mono ?_;rintro e w8 ⟨rfl,jr⟩)
   have JF:=(jr.block _ Sj).trans HG7.out.2;have hS8:=(jr.block _ hs7).trans HG7.out.1;have Xr:=xX.trans (jr.mono xX.size);obtain⟨⟨r0,r1,r2,r3⟩,z0,z1,z2,z3⟩:=fA JF;obtain⟨⟨x0,x1,x2,x3⟩,-⟩:=fA hS8;have hP:=fI JF (.string ⟨#[]⟩) (.slice none 0 0) (.int .i64 0) (.slice none 0 0);have Ef:=eF Xr (Nat.le_refl w.heap.size) (.string ⟨#[]⟩) (.slice none 0 0) (.int .i64 0) (.slice none 0 0);have HP:=ah hP;have HB:=ah Ef;clear hP Ef JF hS8;go_wp2;change bodyPost _ _ _ _ _ (jN w8 w.heap.size (.string ⟨#[]⟩) (.slice none 0 0) (.int .i64 0) (.slice none 0 0));generalize jN w8 _ _ _ _ _=w9 at *;obtain⟨⟨d0,d1,d2,d3⟩,-⟩:=fA HP.out;exact bodyPost_ret (v:=.tuple #[.agg #[.string ⟨#[]⟩,.slice none 0 0,.int .i64 0,.slice none 0 0],.int .i64 10]) (by simp[results,Tryz.results34,go_sem,d0,d1,d2,d3]) rfl (by unfold SY;rw[if_neg (fun q=>HNE.out (by rw[Zu.out.2];exact q.2))];exact⟨rfl,HB.out⟩)
end Go.Proofs.YtknicmmigbhpcaaGreatDoor

namespace Go.Proofs.YtknicmmigbhpcaaGreatDoor
theorem yx {S:List UInt8}{d:Nat}{toks:List Tok}{nodes:List Nd}{p:kG}(hd:d≤200)(h:nA S d=.good toks nodes)(hl:bW S=.ok toks)(he:nodes=p.pt.em 0 0)(hok:p.ok toks)(hlv:p.pt.lv=toks.length)(hn:nodes.length≤2 * toks.length):oD S toks nodes p:=by
 have hs:S.length≤65536:=by
  unfold bW at hl
  split at hl
  ·cases hl
  ·omega
 have hL:=jy hl
 have hM:∀ u,(aI toks u).length≤S.length+1:=fun u=>Nat.le_succ_of_le (KS hl u)
 have hN:=sV hl
 have hnd:nodes.length=p.pt.nd:=by rw[he,PT.sj]
 exact⟨hs,hl,he,hok,hlv,hL.count,by omega,V7 hl he p.wf hlv (by omega),hL.TI,Hl hd h,kG.Na (fun cl e u ho _=>CE.fits hL.some hN hM (by omega) e u ho) hok,kG.Na (fun cl e u ho _=>CE.told (Eu hl) e u ho) hok,kG.Na (fun cl e u ho hn=>Nat.le_trans (CE.gU toks e u) hn) hok,kG.UM hM hok⟩
def ZH:List UInt8:=[102,117,110,32,102,40,120,58,32,105,110,116,32,123,120,32,62,32,48,125,41,58,32,105,110,116,32,123,114,101,115,32,62,32,120,125,61,48,59]
def OH:List Tok:=[⟨2,[],[102,117,110],0⟩,⟨1,[32],[102],4⟩,⟨4,[],[40],5⟩,⟨1,[],[120],6⟩,⟨4,[],[58],7⟩,⟨2,[32],[105,110,116],9⟩,⟨4,[32],[123],13⟩,⟨1,[],[120],14⟩,⟨4,[32],[62],16⟩,⟨3,[32],[48],18⟩,⟨4,[],[125],19⟩,⟨4,[],[41],20⟩,⟨4,[],[58],21⟩,⟨2,[32],[105,110,116],23⟩,⟨4,[32],[123],27⟩,⟨2,[],[114,101,115],28⟩,⟨4,[32],[62],32⟩,⟨1,[32],[120],34⟩,⟨4,[],[125],35⟩,⟨4,[],[61],36⟩,⟨3,[],[48],37⟩,⟨4,[],[59],38⟩,⟨5,[],[],39⟩]
def ZI:List UInt8:=[102,117,110,32,102,40,120,58,105,110,116,41,58,105,110,116,61,48,59]
def OI:List Tok:=[⟨2,[],[102,117,110],0⟩,⟨1,[32],[102],4⟩,⟨4,[],[40],5⟩,⟨1,[],[120],6⟩,⟨4,[],[58],7⟩,⟨2,[],[105,110,116],8⟩,⟨4,[],[41],11⟩,⟨4,[],[58],12⟩,⟨2,[],[105,110,116],13⟩,⟨4,[],[61],16⟩,⟨3,[],[48],17⟩,⟨4,[],[59],18⟩,⟨5,[],[],19⟩]
def LB:kG:=⟨0,[⟨false,[⟨some (.bin .Jj .num)⟩],⟨some (.bin .res .Jj)⟩,.num⟩]⟩
def LC:kG:=⟨0,[⟨false,[⟨none⟩],⟨none⟩,.num⟩]⟩
theorem ZJ:bW ZH=.ok OH:=by rfl
theorem ZL:bW ZI=.ok OI:=by rfl
theorem LD:nA ZH 200=.good OH (LB.pt.em 0 0):=by kernel_rfl
theorem LG:nA ZI 200=.good OI (LC.pt.em 0 0):=by kernel_rfl
theorem abF:LB.ok OH:=by
 refine⟨by decide,by decide,trivial,⟨fun h=>?_,rfl,rfl,by decide,⟨⟨rfl,?_,?_⟩,trivial⟩,⟨?_,?_⟩,?_⟩,trivial⟩
 ·cases h
 ·exact .head _
 ·simp only[CE.ok];exact⟨by decide,rfl,rfl⟩
 ·exact .head _
 ·simp only[CE.ok];exact⟨by decide,⟨trivial,rfl⟩,rfl⟩
 ·simp only[CE.ok];rfl
theorem abG:LC.ok OI:=by
 refine⟨by decide,by decide,trivial,⟨fun h=>?_,rfl,rfl,by decide,⟨⟨rfl,?_,trivial⟩,trivial⟩,⟨?_,trivial⟩,?_⟩,trivial⟩
 ·cases h
 ·exact .head _
 ·exact .head _
 ·simp only[CE.ok];rfl
theorem LH:oD ZH OH (LB.pt.em 0 0) LB:=yx (d:=200) (by omega) LD ZJ rfl abF (by decide) (by decide)
theorem Xt:oD ZI OI (LC.pt.em 0 0) LC:=yx (d:=200) (by omega) LG ZL rfl abG (by decide) (by decide)
def Xu (z:ZP):ZD:=match z.defs with|d :: _=>d | []=>⟨false,[],⟨[],0,[],0,0⟩,.mk 0 [] [] 0 false [] 0⟩
def oH:ZD:=Xu (LB.pp OH).z
def ZM:ZD:=Xu (LC.pp OI).z
theorem aau:(LB.pp OH).z=⟨[],[oH]⟩:=by rfl
theorem adu:(LC.pp OI).z=⟨[],[ZM]⟩:=by rfl
theorem Gv:oH.gX=true:=by kernel_rfl
theorem Xv:oH.mE=[102,40,120,58,32,105,110,116,32,123,120,32,62,32,48,125,41,58,32,105,110,116,32,123,114,101,115,32,62,32,120,125]:=by kernel_rfl
theorem Xw:¬ ZM.mE=[102,40,120,58,105,110,116,41,58,105,110,116]:=by
 have:(ZM.mE == [102,40,120,58,105,110,116,41,58,105,110,116])=false:=by kernel_rfl
 exact beq_eq_false_iff_ne.1 this
theorem Xx:Gq (1 - (oH.res.clause.length:Int)) oH.params=0:=by kernel_rfl
theorem ZN:oH.params.length=1:=by kernel_rfl
end Go.Proofs.YtknicmmigbhpcaaGreatDoor

namespace Go.Proofs.YtknicmmigbhpcaaGreatDoor
open Go.RowKit Go Go.Sort
theorem rD (w:World):Calls Tryz.prog 10 #[] w fun r w'=>r=.returned (.bool true)∧Below w.heap.size w w':=by
 have t1:(Ah ⟨#[102,40,120,58,32,105,110,116,32,123,120,32,62,32,48,125,41,58,32,105,110,116,32,123,114,101,115,32,62,32,120,125]⟩).data.toList=ZH:=rfl
 have HR1:Hid (∀ W,Calls Tryz.prog 34 #[.string ⟨#[102,40,120,58,32,105,110,116,32,123,120,32,62,32,48,125,41,58,32,105,110,116,32,123,114,101,115,32,62,32,120,125]⟩] W fun e w'=>∃ a c ac cc,e=.returned (.tuple #[.agg #[.string ⟨oH.res.name.toArray⟩,.slice a oH.params.length c,.int .i64 oH.res.base,.slice ac oH.res.clause.length cc],.int .i64 0])∧tY (fun b=>W.heap.size≤b) w' (.slice a oH.params.length c) (.slice ac oH.res.clause.length cc) oH.params oH.res.clause∧Below W.heap.size W w'):=ah fun W=>by
  refine(Ai ⟨#[102,40,120,58,32,105,110,116,32,123,120,32,62,32,48,125,41,58,32,105,110,116,32,123,114,101,115,32,62,32,120,125]⟩ W (by decide) OH (LB.pt.em 0 0) LB (by rw[t1];exact LD) (by rw[t1];exact LH) oH aau rfl).mono fun e w' q=>?_
  unfold SY at q;rw[if_pos ⟨Gv,by rw[Xv]⟩] at q;exact q
 have t2:(Ah ⟨#[102,40,120,58,105,110,116,41,58,105,110,116]⟩).data.toList=ZI:=rfl
 have HR2:Hid (∀ W,Calls Tryz.prog 34 #[.string ⟨#[102,40,120,58,105,110,116,41,58,105,110,116]⟩] W fun e w'=>e=.returned (.tuple #[.agg #[.string ⟨#[]⟩,.slice none 0 0,.int .i64 0,.slice none 0 0],.int .i64 10])∧Below W.heap.size W w'):=ah fun W=>by
  refine(Ai ⟨#[102,40,120,58,105,110,116,41,58,105,110,116]⟩ W (by decide) OI (LC.pt.em 0 0) LC (by rw[t2];exact LG) (by rw[t2];exact Xt) ZM adu rfl).mono fun e w' q=>?_
  unfold SY at q;rw[if_neg (fun q=>Xw q.2)] at q;exact q
 have hkn:oH.known:=LH.Xp (by decide) oH (by rw[aau];exact List.mem_singleton.2 rfl);have yD:=ah hkn;have h1:=ZN;have Zu:Hid (gX oH.res.name oH.params oH.res.base oH.res.clause=true):=ah Gv;have HBR:=ah Xx
 have hone:((oH.params.length:Int) == 1)=true:=by rw[h1];rfl
 clear hkn t1 t2 h1;generalize oH=d at *;go_enter Tryz.func10,Tryz.ntmps10
 go_upto_region 2 with (go_at_call 34;refine(HR1.out _).mono ?_;rintro r w1 ⟨a1,c1,a2,c2,rfl,hs1,hb1⟩)
 have g1:=heap_alloc_new w1 (.cells #[.string ⟨d.res.name.toArray⟩,.slice a1 d.params.length c1,.int .i64 d.res.base,.slice a2 d.res.clause.length c2] 31);have hb2:=hb1.alloc hb1.size (.cells #[.string ⟨d.res.name.toArray⟩,.slice a1 d.params.length c1,.int .i64 d.res.base,.slice a2 d.res.clause.length c2] 31);have hs2:=hs1.frame (aQ.of (aj w1 (.cells #[.string ⟨d.res.name.toArray⟩,.slice a1 d.params.length c1,.int .i64 d.res.base,.slice a2 d.res.clause.length c2] 31)))
 have hl2:w1.heap.size<(w1.alloc (.cells #[.string ⟨d.res.name.toArray⟩,.slice a1 d.params.length c1,.int .i64 d.res.base,.slice a2 d.res.clause.length c2] 31)).heap.size:=by simp
 change Code.wp _ _ _ _ (w1.alloc (.cells #[.string ⟨d.res.name.toArray⟩,.slice a1 d.params.length c1,.int .i64 d.res.base,.slice a2 d.res.clause.length c2] 31));clear hb1 hs1 HR1;generalize w1.alloc _=w2 at g1 hb2 hs2 hl2 ⊢;generalize w1.heap.size=q1 at g1 hl2 ⊢
 go_upto_region 3 with (go_at_call 34;refine(HR2.out _).mono ?_;rintro r w3 ⟨rfl,hb3⟩)
 have hb4:=hb3.alloc hb3.size (.cells #[.string ⟨#[]⟩,.slice none 0 0,.int .i64 0,.slice none 0 0] 31);change Code.wp _ _ _ _ (w3.alloc (.cells #[.string ⟨#[]⟩,.slice none 0 0,.int .i64 0,.slice none 0 0] 31));clear hb3 HR2;generalize w3.alloc _=w4 at hb4 ⊢;have hz2:=hb2.size;have hbw:=hb2.trans (hb4.mono hz2);have g4:=(hb4.block q1 hl2).trans g1;have hl4:=(bG g4).1;have HS:=ah ((hs2.frame (aQ.of hb4)).imp (Q:=fun b=>b<w4.heap.size) fun _ _ hl=>hl);have G4:=ah g4;obtain⟨⟨x0,x1,x2,x3⟩,-⟩:=fA g4;have hRT:=Af d.res d.params w4.heap.size a1 c1 a2 c2 w4 HS.out (Nat.le_refl _) yD.out.res yD.out.jS;rw[Zu.out] at hRT;have HR:=ah hRT;have HB:=ah (fun W (hW:Below w4.heap.size w4 W)=>OB d.res d.params (fun b=>b<w4.heap.size) a1 c1 a2 c2 W (HS.out.1.frame (aQ.of hW)) (fun f hf=>(yD.out.jS f hf).few) (by have:=yD.out.few;omega) yD.out.res.few);rw[HBR.out] at HB;clear hRT g4 g1 hs2;go_wp2_with (first|(go_at_call 35;refine HR.out.mono ?_;rintro r w5 ⟨rfl,hb5⟩;obtain⟨⟨z0,z1,z2,z3⟩,-⟩:=fA ((hb5.block q1 hl4).trans G4.out))|(go_at_call 14;refine(HB.out _ hb5).mono ?_;rintro r w6 ⟨rfl,hb6⟩));go_ret;exact⟨rfl,hbw.trans ((hb5.trans (hb6.mono hb5.size)).mono hbw.size)⟩
theorem Tryz.Xy:(Tryz.prog.info? 31).map (fun i=>(i.zero,i.size,i.bytes))=some (some (.agg #[.string ⟨#[]⟩,.slice none 0 0,.int .i64 0,.slice none 0 0]),4,72):=by kernel_rfl
theorem Tryz.Ta:(Tryz.prog.info? 27).map (fun i=>(i.zero,i.size,i.bytes))=some (some (.agg #[.string ⟨#[]⟩,.slice none 0 0]),2,40):=by kernel_rfl
theorem Ed {w:World}{b:Nat}{x y:Value}(h:w.heap[b]?=some (.cells #[x,y] 27 (0,0))):w.cell? ⟨b,0,none⟩=some x∧w.cell? ⟨b,1,none⟩=some y∧w.frozen? ⟨b,1,none⟩=false:=by
 refine⟨by rw[Lib.cell_of_heap h];rfl,by rw[Lib.cell_of_heap h];rfl,by simp[World.frozen?,h]⟩
def mg (vm vn:Value)(md nm:List UInt8)(w:World):Prop:=Calls Tryz.prog 3 #[vm,vn,.string ⟨md.toArray⟩,.string ⟨nm.toArray⟩] w fun r w'=>r=.returned (.bool true)∧Below w.heap.size w w'
theorem LJ (P:Nat→Prop)(ms ns:List (List UInt8))(am:Option Addr)(cm:Nat)(an:Option Addr)(cn:Nat)(md nm:List UInt8)(w:World)(hM:bC P w (.slice am ms.length cm) ms)(hN:bC P w (.slice an ns.length cn) ns)(hml:ms.length≤10)(hnl:ns.length≤10):mg (.slice am ms.length cm) (.slice an ns.length cn) md nm w:=by
 unfold mg
 have Tg:¬ ((10:Int)<(ms.length:Int)):=by omega
 have Vk:¬ ((10:Int)<(ns.length:Int)):=by omega
 have hmD:decide ((10:Int)<(ms.length:Int))=false:=decide_eq_false Tg;have hnD:decide ((10:Int)<(ns.length:Int))=false:=decide_eq_false Vk;obtain⟨BU,BX,hv,_,hcm⟩:=hM.slice;simp only[Value.slice.injEq] at hv;obtain⟨rfl,-,rfl⟩:=hv;obtain⟨an',cn',hv,_,hcn⟩:=hN.slice;simp only[Value.slice.injEq] at hv;obtain⟨rfl,-,rfl⟩:=hv;have HM:=ah hcm;have HN:=ah hcn;obtain⟨is_,his,hs0,hs1,hs2⟩:=info_parts Tryz.Xy;obtain⟨if_,hif,hf0,hf1,hf2⟩:=info_parts Tryz.Ta;clear hcm hcn hM hN;go_enter Tryz.func3,Tryz.ntmps3
 go_upto_region 5 with (go_at_call 10;refine(rD _).mono ?_;rintro e w1 ⟨rfl,hb1⟩)
 have hz1:=hb1.size;go_wp2
 go_loopw [9,33] (fun lv q wr=>∃ (i:Nat) (al:Option Addr) (cl:Nat),i≤ms.length∧q=.int .i64 i∧lv=.slice al i cl∧kH FcK (fun b=>w1.heap.size≤b) w1.heap.size 27 wr (.slice al i cl) (dN ns 0 (ms.take i))∧Below w1.heap.size w1 wr) (fun _ q _=>ms.length - (intOf q).toNat)
 case atStart=>exact⟨0,none,0,Nat.zero_le _,rfl,rfl,by rw[List.take_zero];exact kH.nil _ _ _ _ _,Below.refl _ _⟩
 case round =>
  obtain⟨i,al,cl,hi,rfl,rfl,hown,hbl⟩:=hrel
  obtain⟨wq,rfl⟩:∃ wq:World,wq=wr:=⟨_,rfl⟩
  have uU:=hbl.size;have HOW:=ah hown;clear hown
  by_cases hlt:i<ms.length
  ·obtain⟨b,off,rfl,_,hbw,hcell⟩:=HM.out (by omega)
   have x0:=((hb1.trans (hbl.mono hz1)).cell (p:=⟨b,off+i,none⟩) hbw).trans (hcell i hlt);have hsn:=Li (ns:=ns) hlt;have pQ:=ah hsn
   have nJ:(i:Int)<(ms.length:Int):=by omega
   clear hcell hsn;generalize ms[i]=m at *;have bq:=aj wq (.cells #[.string ⟨m.toArray⟩,.slice none 0 0] 27);have hX:=heap_alloc_new wq (.cells #[.string ⟨m.toArray⟩,.slice none 0 0] 27)
   go_upto_region 10 with fail
   change Code.wp _ _ _ _ (wq.alloc (.cells #[.string ⟨m.toArray⟩,.slice none 0 0] 27));clear x0
   have hXl:wq.heap.size<(wq.alloc (.cells #[.string ⟨m.toArray⟩,.slice none 0 0] 27)).heap.size:=by simp
   generalize wq.alloc (.cells #[.string ⟨m.toArray⟩,.slice none 0 0] 27)=w5 at *;have Mr:=bq.size;have hb5:=hbl.trans (bq.mono uU);have hXw:w1.heap.size≤wq.heap.size:=uU
   have aeW:Hid (∀ b,some b=(Value.slice al i cl).ownBlock→b<wq.heap.size):=ah fun b q=>(HOW.out.choose_spec.2.1.lt b q.symm).2
   have HBL:=ah hbl;clear hbl uU hb5;generalize hXq:wq.heap.size=X at *;have HXQ:=ah hXq;have HX:=ah hX;have HQ5:=ah bq;clear hX hXq bq;go_wp2
   go_loopw [42] (fun q wi=>∃ (k:Nat) (Gi:Option Addr) (Gj:Nat),k≤ns.length∧q=.int .i64 k∧wi.heap[X]?=some (.cells #[.string ⟨m.toArray⟩,.slice Gi (jQ i 0 (ns.take k)).length Gj] 27 (0,0))∧kH SgK (fun _=>False) w5.heap.size 31 wi (.slice Gi (jQ i 0 (ns.take k)).length Gj) (jQ i 0 (ns.take k))∧aQ (fun b=>b<w5.heap.size∧b≠X) w5 wi∧Below X wq wi) (fun q _=>ns.length - (intOf q).toNat)
   case atStart=>exact⟨0,none,0,Nat.zero_le _,rfl,HX.out,kH.nil _ _ _ _ _,aQ.refl _ _,HQ5.out⟩
   case round =>
    obtain⟨k,Gi,Gj,hk,rfl,Wq,Lh,dW,hbi⟩:=hrel;have yP:Below w1.heap.size w1 wr:=HBL.out.trans (hbi.mono hXw);have hzi:=yP.size;have afQ:=dW.1;have HXR:=ah Wq;have HOQ:=ah Lh;have HAL:=ah dW;clear Wq Lh dW
    by_cases hlt2:k<ns.length
    ·obtain⟨b2,off2,rfl,_,hbw2,hcell2⟩:=HN.out (by omega)
     have x0:=((hb1.trans (yP.mono hz1)).cell (p:=⟨b2,off2+k,none⟩) hbw2).trans (hcell2 k hlt2);have SC:=Sw (i:=i) hlt2;have ZO:=ah SC
     have Kz:(k:Int)<(ns.length:Int):=by omega
     have hsl:=DY i (ns.take k) 0;rw[List.length_take,Nat.min_eq_left hk] at hsl;clear hcell2 SC;generalize ns[k]=n at *;generalize hzs:jQ i 0 (ns.take k)=zs at *;clear hzs
     by_cases hq:k % 3=i % 3
     ·have HE:Hid (jQ i 0 (ns.take (k+1))=zs):=ah (by rw[ZO.out,if_pos hq,List.append_nil])
      have Vj:((k:Int) % 3 != (i:Int) % 3)=false:=by rw[bne,beq_iff_eq.2 (show (k:Int) % 3=(i:Int) % 3 by omega)];rfl
      clear ZO;go_wp2
      go_roundw
      case rel=>exact⟨k+1,Gi,Gj,by omega,by go_num,by rw[HE.out];exact HXR.out,by rw[HE.out];exact HOQ.out,HAL.out,hbi⟩
      case measure=>simp[intOf];omega
     ·have HE:Hid (jQ i 0 (ns.take (k+1))=zs++[uf i k n]):=ah (by rw[ZO.out,if_neg hq])
      have Vj:((k:Int) % 3 != (i:Int) % 3)=true:=by rw[bne,beq_eq_false_iff_ne.2 (show (k:Int) % 3≠(i:Int) % 3 by omega)];rfl
      clear ZO;obtain⟨c0,c1,cz⟩:=Ed HXR.out;obtain⟨vX,hr1,uX,hes⟩:=HOQ.out;have uX:wr.ownsRow w5.heap.size 31 4 (.slice Gi zs.length Gj) zs.length (SgK.flat vX):=uX;have HOR:=ah uX;have Je:=ah (And.intro hr1 hes);have adv:=(bG HXR.out).1
      have afR:(10:Int) * (i:Int)≤1000:=by omega
      have aeX:(10:Int) * (i:Int)+(k:Int)≤1000:=by omega
      clear hr1 hes uX;go_wp2_with (at_builtin;refine wpList_append_lies _ rfl _ _ 25 rfl w5.heap.size 31 is_ _ 4 72 Tryz.underlying25 his hs0 hs1 hs2 rfl (by decide) (.slice Gi zs.length Gj) zs.length _ rfl (HOR.out.alloc _) ⟨wr.heap.size,0,none⟩ 1 1 [.string ⟨n.toArray⟩,.slice none 0 0,.int .i64 (10 * (i:Int)+(k:Int)),.slice none 0 0] rfl rfl (World.news_of_block (cs:=#[.string ⟨n.toArray⟩,.slice none 0 0,.int .i64 (10 * (i:Int)+(k:Int)),.slice none 0 0]) (t:=31) (fr:=(0,0)) (heap_alloc_new wr _)) (by simp[Value.oneCell']) (by omega) (by unfold maxLen;omega) (by omega) (by simp;omega) (wr.heap.size+1) (by simp) ?_);intro gg OJ wN LK wD Xz abH;have hXN:=fU (HOR.out.alloc _) wD ((Lib.alloc_old wr _ X adv).trans HXR.out) (by decide);obtain⟨e0,e1,ez⟩:=Ed hXN;obtain⟨o1,o2,o3⟩:=kH.round (K:=SgK) (Q:=fun _=>False) (w1:=w5) (wr:=wr) (W2:=wr) (kv:=.slice Gi zs.length Gj) (QM:=.slice (some ⟨gg,0,none⟩) (zs.length+1) OJ) (acc:=zs) (a:=uf i k n) (x:=(.slice none 0 0,.slice none 0 0)) (l:=vX) HAL.out hXl (fun q=>q) Je.out.1 HOR.out Je.out.2 ⟨RowK.nil _ _ _,RowK.nil _ _ _⟩ (Below.refl _ _) LK wD rfl Xz 1 (.slice (some ⟨gg,0,none⟩) (zs.length+1) OJ);have hset:=heap_setCell_same wN X 1 _ _ (.slice (some ⟨gg,0,none⟩) (zs.length+1) OJ) hXN
      have hl1:(zs++[uf i k n]).length=zs.length+1:=by rw[bP];rfl
      have tu:=ah (And.intro hset (And.intro o1 (And.intro o2 (And.intro (o3 X wq (Nat.le_refl _) hbi) hl1))));clear LK wD Xz abH hXN o1 o2 o3 hset hl1 c0 c1 cz HOR Je;go_wp2
      go_roundw
      case rel=>exact⟨k+1,some ⟨gg,0,none⟩,OJ,by omega,by go_num,by rw[HE.out,tu.out.2.2.2.2];exact tu.out.1,by rw[HE.out,tu.out.2.2.2.2];exact tu.out.2.1,tu.out.2.2.1,tu.out.2.2.2.1⟩
      case measure=>simp[intOf];omega
    ·obtain rfl:k=ns.length:=by omega
     have Kz:decide ((ns.length:Int)<(ns.length:Int))=false:=decide_eq_false (by omega);rw[List.take_length] at HXR HOQ;have HOL:Hid (kH FcK (fun b=>w1.heap.size≤b) w1.heap.size 27 wr (.slice al i cl) (dN ns 0 (ms.take i))):=ah (HOW.out.below (by rw[HXQ.out];exact hbi))
     have XU:(dN ns 0 (ms.take i)).length=i:=by rw[wh,List.length_take,Nat.min_eq_left hi]
     have Tq:Hid (RowK SgK (fun b=>w1.heap.size≤b∧some b≠(Value.slice al i cl).ownBlock) wr (.slice Gi (jQ i 0 ns).length Gj) (jQ i 0 ns)):=ah (HOQ.out.row (fun b hb=>⟨by omega,fun q=>by have:=aeW.out b q;omega⟩) (fun b hb=>False.elim hb));generalize jQ i 0 ns=zs at *;obtain⟨c0,c1,cz⟩:=Ed HXR.out;obtain⟨vX,hr1,uX,hes⟩:=HOL.out;rw[XU] at uX;have uX:wr.ownsRow w1.heap.size 27 2 (.slice al i cl) i (FcK.flat vX):=uX;have HOR:=ah uX;have Je:=ah (And.intro hr1 hes);have HLF:=ah XU;have adv:=(bG HXR.out).1;clear hr1 hes uX XU;go_wp2_with (at_builtin;refine wpList_append_lies _ rfl _ _ 24 rfl w1.heap.size 27 if_ _ 2 40 Tryz.underlying24 hif hf0 hf1 hf2 rfl (by decide) (.slice al i cl) i _ rfl (HOR.out.alloc _) ⟨wr.heap.size,0,none⟩ 1 1 [.string ⟨m.toArray⟩,.slice Gi zs.length Gj] rfl rfl (World.news_of_block (cs:=#[.string ⟨m.toArray⟩,.slice Gi zs.length Gj]) (t:=27) (fr:=(0,0)) (heap_alloc_new wr _)) (by simp[Value.oneCell']) (by omega) (by unfold maxLen;omega) (by omega) (by simp;omega) (wr.heap.size+1) (by simp) ?_);intro gg OJ wN LK wD Xz abH;have tN:=aj wr (.cells #[.string ⟨m.toArray⟩,.slice Gi zs.length Gj] 27);have NS:FcK.inn (fun b=>w1.heap.size≤b∧some b≠(Value.slice al i cl).ownBlock) (wr.alloc (.cells #[.string ⟨m.toArray⟩,.slice Gi zs.length Gj] 27)) ⟨m,zs⟩ (.slice Gi zs.length Gj):=RowK.frame Tq.out (aQ.of tN);have hN9:=kH.snoc (K:=FcK) (Q:=fun b=>w1.heap.size≤b) (w:=wr.alloc (.cells #[.string ⟨m.toArray⟩,.slice Gi zs.length Gj] 27)) (kv:=.slice al i cl) (kv':=.slice (some ⟨gg,0,none⟩) (i+1) OJ) (zs:=dN ns 0 (ms.take i)) (a:=⟨m,zs⟩) (x:=.slice Gi zs.length Gj) (g:=gg) (H:=wr.heap.size+1) (l:=vX) Je.out.1 (fun p hp=>FcK.frame (Je.out.2 p hp) (aQ.of tN)) NS (by rw[HLF.out];exact LK) wD rfl Xz (by simp);have Cz:Below w1.heap.size w1 wN:=(yP.alloc hzi _).grown wD (by simp;omega) (fun b q=>(HOR.out.lt b q).1);have tu:=ah (And.intro hN9 Cz)
     clear LK wD Xz abH tN NS hN9 Cz c0 c1 cz HOR Je;go_wp2
     go_roundw
     case rel=>exact⟨i+1,some ⟨gg,0,none⟩,OJ,by omega,by go_num,rfl,by rw[pQ.out];exact tu.out.1,tu.out.2⟩
     case measure=>simp[intOf];omega
  ·obtain rfl:i=ms.length:=by omega
   have nJ:decide ((ms.length:Int)<(ms.length:Int))=false:=decide_eq_false (by omega);have XU:(dN ns 0 ms).length=ms.length:=wh _ _ _;have hO:=HOW.out;rw[List.take_length] at hO;have hrow:=hO.row (R:=fun _=>True) (fun _ _=>trivial) (fun _ _ _=>trivial);have hFD:=WT (fun _=>True) md nm (dN ns 0 ms) al cl wq (by rw[XU];exact hrow) (by omega) (fun f hf=>by have:=DZ ns ms 0 f hf;omega);rw[XU] at hFD
   have hFU:Calls Tryz.prog 11 #[.slice al ms.length cl,.string ⟨md.toArray⟩,.string ⟨nm.toArray⟩] wq fun e w'=>∃ (pn:Option Addr) (pk pc:Nat) (qn:Option Addr) (qk qc:Nat),e=.returned (.tuple #[.agg #[.string ⟨(nmO (nC md nm (dN ns 0 ms))).toArray⟩,.slice pn pk pc,.int .i64 (bsO (nC md nm (dN ns 0 ms))),.slice qn qk qc],.bool (nC md nm (dN ns 0 ms)).isSome])∧Below wq.heap.size wq w':=hFD.mono fun e w' h=>by
    unfold WS at h
    cases hf:nC md nm (dN ns 0 ms) with
    | none=>rw[hf] at h;exact⟨none,0,0,none,0,0,h.2,h.1⟩
    | some s=>rw[hf] at h;obtain⟨h1,a,c,ac,cc,h2,_⟩:=h;exact⟨a,_,c,ac,_,cc,h2,h1⟩
   obtain⟨R,hR⟩:∃ R,R=nC md nm (dN ns 0 ms):=⟨_,rfl⟩
   rw[← hR] at hFU
   obtain⟨rb,hrb⟩:∃ rb,rb=R.isSome:=⟨_,rfl⟩
   rw[← hrb] at hFU;have Pq:=ah hrb;have HFU:=ah hFU;have HR:=ah hR;clear hO hrow hFD hFU hR hrb XU HOW
   go_upto_region 19 with (go_at_call 11;refine HFU.out.mono ?_;rintro e w6 ⟨pn,pk,pc,qn,qk,qc,rfl,hb6⟩)
   have hS:=heap_alloc_new w6 (.cells #[.string ⟨(nmO R).toArray⟩,.slice pn pk pc,.int .i64 (bsO R),.slice qn qk qc] 31);have hbF:=(hb1.trans (hbl.mono hz1)).trans (hb6.mono (Nat.le_trans hz1 uU));have pI:=hbF.alloc hbF.size (.cells #[.string ⟨(nmO R).toArray⟩,.slice pn pk pc,.int .i64 (bsO R),.slice qn qk qc] 31);change Code.wp _ _ _ _ (w6.alloc (.cells #[.string ⟨(nmO R).toArray⟩,.slice pn pk pc,.int .i64 (bsO R),.slice qn qk qc] 31));clear hbF hb6 HFU;generalize w6.alloc (.cells #[.string ⟨(nmO R).toArray⟩,.slice pn pk pc,.int .i64 (bsO R),.slice qn qk qc] 31)=w7 at hS pI ⊢;generalize w6.heap.size=sb at hS ⊢;have HS:=ah hS;clear hS;go_wp2
   go_loopw [78] (fun q wi=>∃ i:Nat,i≤ms.length∧q=.int .i64 i∧R=nC md nm (dN ns i (ms.drop i))∧wi=w7) (fun q _=>ms.length - (intOf q).toNat)
   case atStart=>exact⟨0,Nat.zero_le _,rfl,HR.out,rfl⟩
   case round =>
    obtain⟨i,hi,rfl,hres,rfl⟩:=hrel;have rW:=ah hres;clear hres
    by_cases hlt:i<ms.length
    ·obtain⟨b,off,rfl,_,hbw,hcell⟩:=HM.out (by omega)
     have x0:=(pI.cell (p:=⟨b,off+i,none⟩) hbw).trans (hcell i hlt);have hdr:ms.drop i=ms[i] :: ms.drop (i+1):=List.drop_eq_getElem_cons hlt;have HE:Hid (R=if ms[i]=md then oG nm (jQ i 0 ns) else nC md nm (dN ns (i+1) (ms.drop (i+1)))):=ah (by rw[rW.out,hdr,dN,nC])
     have nJ:(i:Int)<(ms.length:Int):=by omega
     clear hcell hdr rW;generalize ms[i]=m at *;have hcmp:=AQ m md
     by_cases hm:m=md
     ·rw[decide_eq_true hm] at hcmp
      have HE2:Hid (R=oG nm (jQ i 0 ns)):=ah (by rw[HE.out,if_pos hm]);clear HE hm
      obtain⟨wz,rfl⟩:∃ wz:World,wz=wr:=⟨_,rfl⟩
      go_wp2
      go_loopw [88] (fun q wi=>∃ k:Nat,k≤ns.length∧q=.int .i64 k∧R=oG nm (jQ i k (ns.drop k))∧wi=wz) (fun q _=>ns.length - (intOf q).toNat)
      case atStart=>exact⟨0,Nat.zero_le _,rfl,HE2.out,rfl⟩
      case round =>
       obtain⟨k,hk,rfl,hres2,rfl⟩:=hrel;have WU:=ah hres2;clear hres2
       by_cases hlt2:k<ns.length
       ·obtain⟨b2,off2,rfl,_,hbw2,hcell2⟩:=HN.out (by omega)
        have x1:=(pI.cell (p:=⟨b2,off2+k,none⟩) hbw2).trans (hcell2 k hlt2);have adw:ns.drop k=ns[k] :: ns.drop (k+1):=List.drop_eq_getElem_cons hlt2;have Ky:Hid (R=oG nm ((if k % 3=i % 3 then [] else [uf i k ns[k]])++jQ i (k+1) (ns.drop (k+1)))):=ah (by rw[WU.out,adw,jQ])
        have Kz:(k:Int)<(ns.length:Int):=by omega
        clear hcell2 adw WU;generalize ns[k]=n at *;have Gl:=AQ n nm
        by_cases hq:k % 3=i % 3
        ·have Vj:((k:Int) % 3 != (i:Int) % 3)=false:=by rw[bne,beq_iff_eq.2 (show (k:Int) % 3=(i:Int) % 3 by omega)];rfl
         have Zp:Hid (R=oG nm (jQ i (k+1) (ns.drop (k+1)))):=ah (by rw[Ky.out,if_pos hq];rfl);clear Ky hq;go_wp2
         go_roundw
         case rel=>exact⟨k+1,by omega,by go_num,Zp.out,trivial⟩
         case measure=>simp[intOf];omega
        ·have Vj:((k:Int) % 3 != (i:Int) % 3)=true:=by rw[bne,beq_eq_false_iff_ne.2 (show (k:Int) % 3≠(i:Int) % 3 by omega)];rfl
         by_cases hm2:n=nm
         ·rw[decide_eq_true hm2] at Gl
          have Zp:Hid (R=some (uf i k n)):=ah (by rw[Ky.out,if_neg hq];show (if n=nm then some (uf i k n) else _)=_;rw[if_pos hm2]);obtain⟨⟨r0,r1,r2,r3⟩,-⟩:=fA HS.out;have hRe:=Zp.out;rw[hRe] at r0 r2
          obtain rfl:rb=true:=by rw[Pq.out,hRe];rfl
          have hsm:(10:Int) * (i:Int)≤1000:=by omega
          have aeX:(10:Int) * (i:Int)+(k:Int)≤1000:=by omega
          have hc3:(n == nm)=true:=Gl;simp only[nmO,bsO,uf] at r0 r2;clear hRe Ky hq hm2;go_wp2;go_ret;exact⟨rfl,pI⟩
         ·rw[decide_eq_false hm2] at Gl
          have Zp:Hid (R=oG nm (jQ i (k+1) (ns.drop (k+1)))):=ah (by rw[Ky.out,if_neg hq];show (if n=nm then some (uf i k n) else oG nm (jQ i (k+1) (ns.drop (k+1))))=_;rw[if_neg hm2]);clear Ky hq hm2;go_wp2
          go_roundw
          case rel=>exact⟨k+1,by omega,by go_num,Zp.out,trivial⟩
          case measure=>simp[intOf];omega
       ·obtain rfl:k=ns.length:=by omega
        have Kz:decide ((ns.length:Int)<(ns.length:Int))=false:=decide_eq_false (by omega);have Ky:Hid (R=none):=ah (by rw[WU.out,List.drop_length];rfl);obtain⟨⟨r0,r1,r2,r3⟩,-⟩:=fA HS.out;have hRe:=Ky.out;rw[hRe] at r0 r2
        obtain rfl:rb=false:=by rw[Pq.out,hRe];rfl
        simp only[nmO,bsO] at r0 r2;clear hRe WU;go_wp2;go_ret;exact⟨rfl,pI⟩
     ·rw[decide_eq_false hm] at hcmp
      have HE2:Hid (R=nC md nm (dN ns (i+1) (ms.drop (i+1)))):=ah (by rw[HE.out,if_neg hm]);clear HE hm;go_wp2
      go_roundw
      case rel=>exact⟨i+1,by omega,by go_num,HE2.out,trivial⟩
      case measure=>simp[intOf];omega
    ·obtain rfl:i=ms.length:=by omega
     have nJ:decide ((ms.length:Int)<(ms.length:Int))=false:=decide_eq_false (by omega);have HE:Hid (R=none):=ah (by rw[rW.out,List.drop_length];rfl);obtain⟨⟨r0,r1,r2,r3⟩,-⟩:=fA HS.out;have hRe:=HE.out;rw[hRe] at r0 r2
     obtain rfl:rb=false:=by rw[Pq.out,hRe];rfl
     simp only[nmO,bsO] at r0 r2;clear hRe rW;go_wp2;go_ret;exact⟨rfl,pI⟩
end Go.Proofs.YtknicmmigbhpcaaGreatDoor
