/- Walks and plain laws: SigW4, SigBareL, ScopeAnc, SigAnc, SigAncW, Pr10, DefCells. -/
import Derived.Test.YtknicmmigbhpcaaGreatDoorB37
set_option maxHeartbeats 16000000
set_option maxRecDepth 100000
set_option linter.unusedVariables false
set_option linter.unusedSimpArgs false
namespace Go.Proofs.YtknicmmigbhpcaaGreatDoor
open Go.RowKit Go Go.Sort
mutual
theorem PE.LM:∀ e:PE,e.size≤e.iX
 | .mk _ _ _ _ _ _ kids _=>by
  rw[PE.size,PE.iX];have:=Gz kids;omega
theorem Gz:∀ l:List PE,jU l≤fu l
 | []=>Nat.le_refl _
 | e :: l=>by
  rw[jU,fu];have h1:=PE.LM e;have h2:=Gz l;omega
end
theorem FF.Ql {f:FF}(hn:f.name.length≤65536)(hc:f.clause.length≤1)(ha:∀ e∈f.clause,LA e.z∧e.size≤400000):f.z.known:=by
 refine⟨hn,by show (f.clause.map PE.z).length≤_;rw[List.length_map];omega,fun x hx=>?_,?_⟩
 ·obtain⟨e,he,rfl⟩:=List.mem_map.1 hx
  exact⟨(ha e he).1.1,e,rfl,(ha e he).2⟩
 ·have:=wE f.z.base f.z.clause (by show (f.clause.map PE.z).length≤1;rw[List.length_map];exact hc) fun x hx=>by
   obtain⟨e,he,rfl⟩:=List.mem_map.1 hx;exact(ha e he).1.text
  omega
structure ZD.known (d:ZD):Prop where
 res:d.res.known
 jR:∀ f∈d.params,f.known
 few:d.params.length≤8
 text:(bg (d.params.map ZF.text)).length≤140737488355328
 fit:d.uZ
theorem lH.OT {S:List UInt8}{toks:List Tok}{nodes:List Nd}{p:jP}(F:lH S toks nodes p)(hs:S.length≤1200):∀ d∈(p.pp toks).z.defs,d.known:=by
 have hm:=F.mid hs
 have ha:(p.pp toks).all fun e=>LA e.z∧e.size≤400000:=PP.IE F.fits F.few F.few fun e h1 h2 _=>by
  have h3:=F.nd;have h4:=F.count;have h5:=e.LM;exact⟨⟨PE.WC (by omega) e h1 (by omega),by rw[PE.Oo];omega⟩,by omega⟩
 intro d hd;have h1:=hm.defs d hd;obtain⟨x,hx,rfl⟩:=List.mem_map.1 hd;have h2:=ha x hx;have h3:=F.Dt.defs x hx;refine⟨FF.Ql (Nat.le_trans h3.res.name (by omega)) h3.res.clause h2.2.1,fun f hf=>?_,h1.few,?_,h1.uZ⟩
 ·obtain⟨y,hy,rfl⟩:=List.mem_map.1 hf
  exact FF.Ql (Nat.le_trans (h3.params y hy).name (by omega)) (h3.params y hy).clause (h2.1 y hy)
 ·have h4:=wD 750065545 (x.z.params.map ZF.text) fun t ht=>by
   obtain⟨f,hf,rfl⟩:=List.mem_map.1 ht;exact(h1.jR f hf).text
  have h5:(x.z.params.map ZF.text).length * (750065545+2)≤8 * (750065545+2):=Nat.mul_le_mul_right _ (by rw[List.length_map];exact h1.few);omega
def Am (s:ByteArray):ByteArray:=ByteArray.mk #[102,117,110,32]++s++ByteArray.mk #[61,48,59]
theorem OU (s:ByteArray):(Am s).size=s.size+7:=by
 show (ByteArray.mk #[102,117,110,32]++s++ByteArray.mk #[61,48,59]).size=_;rw[ByteArray.size_append,ByteArray.size_append];show 4+s.size+3=_;omega
def Tj (T:List UInt8)(d:ZD)(w:World)(e:Ending)(w':World):Prop :=
 if d.gZ=true∧d.mq=T then ∃ a c ac cc,e=.returned (.tuple #[.agg #[.string ⟨d.res.name.toArray⟩,.slice a d.params.length c,.int .i64 d.res.base,.slice ac d.res.clause.length cc],.int .i64 0])∧zJ (fun b=>w.heap.size≤b) w' (.slice a d.params.length c) (.slice ac d.res.clause.length cc) d.params d.res.clause∧Below w.heap.size w w'
 else e=.returned (.tuple #[.agg #[.string ⟨#[]⟩,.slice none 0 0,.int .i64 0,.slice none 0 0],.int .i64 10])∧Below w.heap.size w w'
theorem Ao (s:ByteArray)(w:World)(hs:s.size≤900)(toks:List Tok)(nodes:List Nd)(p:jP)(h:gX (Am s).data.toList 200=.good toks nodes)(F:lH (Am s).data.toList toks nodes p)(d:ZD)(hd:(p.pp toks).z=⟨[],[d]⟩)(Zh:d.pub=false) :
  Calls Tryz.prog 34 #[.string s] w (Tj s.data.toList d w):=by
 have hsz:=OU s;have HF:=ah (fun W=>qL (Am s) 200 W (by omega) (by omega) (by omega));rw[h] at HF;have HO:=ah (fun B at_ ct an cn W hT hB=>Xr B at_ ct an cn (Am s) toks nodes p W hT hB F);have hkn:=F.OT (by rw[aK];omega) d (by rw[hd];exact List.mem_singleton.2 rfl)
 have hil:(p.pp toks).imports.length=0:=by
  have:(p.pp toks).z.imports.length=0:=by rw[hd];rfl
  simpa [PP.z] using this
 have hdl:(p.pp toks).defs.length=1:=by
  have:(p.pp toks).z.defs.length=1:=by rw[hd];rfl
  simpa [PP.z] using this
 have hdz:(p.pp toks).defs.map DD.z=[d]:=by
  have:(p.pp toks).z.defs=[d]:=by rw[hd]
  exact this
 have HDZ:=ah hdz;have wF:=ah hkn;have HIL:=ah hil;have HDL:=ah hdl;clear hil hdl;generalize p.pp toks=pp at *
 have hsI:¬ (32768:Int)<(s.size:Int):=by omega
 have ug:=aj w (.cells #[.string ⟨#[]⟩,.slice none 0 0,.int .i64 0,.slice none 0 0] 31);have e0:=heap_alloc_new w (.cells #[.string ⟨#[]⟩,.slice none 0 0,.int .i64 0,.slice none 0 0] 31)
 have hq1:¬ 9223372036854775807<4+s.size:=by omega
 have hq2:¬ 9223372036854775807<4+s.size+3:=by omega
 clear h F hdz hkn hd;unfold Am at HF;go_enter Tryz.func34,Tryz.ntmps34
 go_upto_region 4 with (go_at_call 36;refine(HF.out _).mono ?_;rintro e w2 ⟨hb2,at_,ct,an,cn,rfl,hty⟩)
 have hb3:=(aj w2 (.cells #[.slice at_ toks.length ct,.slice an nodes.length cn] 89)).alloc (by simp) (.cells #[.int .i64 0,.int .i64 0] 75);have e1:=(Lib.alloc_old (w2.alloc (.cells #[.slice at_ toks.length ct,.slice an nodes.length cn] 89)) (.cells #[.int .i64 0,.int .i64 0] 75) w2.heap.size (by simp)).trans (heap_alloc_new w2 (.cells #[.slice at_ toks.length ct,.slice an nodes.length cn] 89));have e2:=heap_alloc_new (w2.alloc (.cells #[.slice at_ toks.length ct,.slice an nodes.length cn] 89)) (.cells #[.int .i64 0,.int .i64 0] 75);rw[World.size_alloc] at e2;have Xu:=(hb2.block w.heap.size (by simp)).trans e0;have hl2:=(bG Xu).1;have Xv:=(hb3.block w.heap.size hl2).trans Xu;have hbw:=(ug.trans (hb2.mono ug.size)).trans (hb3.mono (ug.trans (hb2.mono ug.size)).size);have hT:=hty.at.below hb3
 have hs3:w2.heap.size+1<((w2.alloc (.cells #[.slice at_ toks.length ct,.slice an nodes.length cn] 89)).alloc (.cells #[.int .i64 0,.int .i64 0] 75)).heap.size:=by simp
 clear hb2 hb3 HF hty Xu e0 ug;generalize (w2.alloc _).alloc _=w3 at e1 e2 Xv hbw hT hs3 ⊢;generalize w2.heap.size=tb at e1 e2 hT hs3 hl2 ⊢;obtain⟨c0,c1⟩:=bq e1;have HOx:=ah (HO.out tb at_ ct an cn w3 hT (by omega));clear e1 HO hq1 hq2
 go_upto_region 5 with (go_at_call 37;refine HOx.out.mono ?_;rintro e w4 ⟨ai,ci,ad,cd,rfl,hn4,nA,hb4,LY⟩)
 have lQ:=hbw.trans (hb4.mono hbw.size);have hb5:=lQ.alloc lQ.size (.cells #[.slice ai pp.imports.length ci,.slice ad pp.defs.length cd] 38);have Eh:=hb4.alloc hb4.size (.cells #[.slice ai pp.imports.length ci,.slice ad pp.defs.length cd] 38);have g5:=heap_alloc_new w4 (.cells #[.slice ai pp.imports.length ci,.slice ad pp.defs.length cd] 38);have f5:=(Eh.block (tb+1) hs3).trans e2;have r5:=(Eh.block w.heap.size (by omega)).trans Xv;have Ma:=P6 (LY.below (aj w4 (.cells #[.slice ai pp.imports.length ci,.slice ad pp.defs.length cd] 38)))
 have hs5:w4.heap.size<(w4.alloc (.cells #[.slice ai pp.imports.length ci,.slice ad pp.defs.length cd] 38)).heap.size:=by simp
 rw[HDZ.out] at Ma
 have hw3:w.heap.size<w3.heap.size:=by omega
 have ae3:=hb4.size;clear c0 c1 HOx hT nA hb4 lQ hbw hn4 LY Eh e2 Xv hl2;change Code.wp _ _ _ _ (w4.alloc (.cells #[.slice ai pp.imports.length ci,.slice ad pp.defs.length cd] 38));generalize w4.alloc _=w5 at hb5 g5 f5 r5 Ma hs5 ⊢;have hil:=HIL.out;have hdl:=HDL.out;rw[hil,hdl];generalize hpb:w4.heap.size=pb at g5 hs5 ae3 ⊢;rw[hil,hdl] at g5;rw[hdl] at Ma;clear hpb;obtain⟨ae',ce',hv,_,hform⟩:=Ma.row.form;simp only[Value.slice.injEq] at hv;obtain⟨rfl,-,rfl⟩:=hv;obtain⟨b,off,rfl,hb3,QL,qx⟩:=hform (by simp);obtain⟨⟨pv,cv,bm,bk⟩,⟨hpr,hcr,hbe⟩,hc⟩:=qx 0 (by simp);simp only[List.getElem_cons_zero] at hpr hcr hbe hc;obtain⟨am,wn,cm,ae,ce,rfl,rfl⟩:=hbe.YQ;obtain⟨ap,cp,rfl⟩:=hpr.slice;obtain⟨ac,cc,rfl⟩:=hcr.slice
 have hcl:∀ (c:Nat) (u:Value),w5.cell? ⟨b,off+0 * 15+c,none⟩=some u→w5.cell? ⟨b,off+c,none⟩=some u:=fun c u h=>by rw[Nat.zero_mul,Nat.add_zero] at h;exact h
 have y0:=hcl 0 _ (hc 0 _ rfl);have y1:=hcl 1 _ (hc 1 _ rfl);have y2:=hcl 2 _ (hc 2 _ rfl);have y3:=hcl 3 _ (hc 3 _ rfl);have y4:=hcl 4 _ (hc 4 _ rfl);have y5:=hcl 5 _ (hc 5 _ rfl);have y6:=hcl 6 _ (hc 6 _ rfl);have y7:=hcl 7 _ (hc 7 _ rfl);have y8:=hcl 8 _ (hc 8 _ rfl);have y9:=hcl 9 _ (hc 9 _ rfl);have X6:=hcl 10 _ (hc 10 _ rfl);have TI:=hcl 11 _ (hc 11 _ rfl);have X7:=hcl 12 _ (hc 12 _ rfl);have y13:=hcl 13 _ (hc 13 _ rfl);have X8:=hcl 14 _ (hc 14 _ rfl);rw[Nat.add_zero,Zh] at y0;simp only[dh] at y1 y2 y4 y6 y7 y9 TI
 have hor:¬ (Value.slice (some ⟨b,off,none⟩) 1 cd=.slice none 0 0):=by simp
 have Lg:=ah (Gv (fun k=>w3.heap.size≤k) d ap cp ac cc am wn cm ae ce w5 wF.out.fit hpr hcr);unfold wu at Lg;rw[Zh] at Lg;obtain⟨a0,a1,-⟩:=bM g5;obtain⟨f0,f1,-⟩:=fU f5;have HR5:=ah r5;have LZ:=hb5.size;clear hc hcl qx hform hpr hcr hbe Ma g5 f5 r5 HDZ hil hdl HIL HDL
 go_upto_region 7 with fail
 clear f0 f1
 go_upto_region 8 with (go_at_call 13;refine Lg.out.mono ?_;rintro e w6 ⟨a6,c6,a7,c7,rfl,hsg,hb6⟩)
 have rZ:=hb6.alloc hb6.size (.cells #[.string ⟨d.res.name.toArray⟩,.slice a6 d.params.length c6,.int .i64 d.res.base,.slice a7 d.res.clause.length c7] 31);have g7:=heap_alloc_new w6 (.cells #[.string ⟨d.res.name.toArray⟩,.slice a6 d.params.length c6,.int .i64 d.res.base,.slice a7 d.res.clause.length c7] 31);have ZT:=hsg.frame (aQ.of (aj w6 (.cells #[.string ⟨d.res.name.toArray⟩,.slice a6 d.params.length c6,.int .i64 d.res.base,.slice a7 d.res.clause.length c7] 31)))
 have hs7:w6.heap.size<(w6.alloc (.cells #[.string ⟨d.res.name.toArray⟩,.slice a6 d.params.length c6,.int .i64 d.res.base,.slice a7 d.res.clause.length c7] 31)).heap.size:=by simp
 have hz6:=hb6.size;clear hsg hb6 y0 y1 y2 y3 y4 y5 y6 y7 y8 y9 X6 TI X7 y13 X8 a0 a1 Lg;change Code.wp _ _ _ _ (w6.alloc (.cells #[.string ⟨d.res.name.toArray⟩,.slice a6 d.params.length c6,.int .i64 d.res.base,.slice a7 d.res.clause.length c7] 31));generalize w6.alloc _=w7 at rZ g7 ZT hs7 ⊢;generalize w6.heap.size=qb at g7 hs7 hz6 ⊢;have yc:=hb5.trans (rZ.mono LZ);have Vj:=ah (OL d.res d.params w7.heap.size a6 c6 a7 c7 w7 (ZT.imp fun _ _ hl=>hl) (Nat.le_refl _) wF.out.res wF.out.jR wF.out.text);unfold OJ at Vj;have hR7:=(rZ.block _ (by omega)).trans HR5.out;have HSG:=ah (ZT.imp (Q:=fun k=>w.heap.size<k) fun k hk _=>by rcases hk with hk|hk<;>omega);have HG7:=ah (And.intro g7 hR7);obtain⟨⟨x0,x1,x2,x3⟩,-⟩:=iD g7;have Sw:=(bG hR7).1;clear ZT rZ g7 hR7 HR5 hb5
 have hTT:ByteArray.mk s.data.toList.toArray=s:=by cases s;simp
 obtain⟨rt,hrt⟩:∃ rt,rt=d.gZ:=⟨_,rfl⟩
 obtain⟨tx,htx⟩:∃ tx,tx=d.mq:=⟨_,rfl⟩
 rw[show gZ d.res.name d.params d.res.base d.res.clause=rt from hrt.symm,show mq d.res.name d.params d.res.base d.res.clause=tx from htx.symm] at Vj;have ZE:=ah (And.intro hrt htx);clear hrt htx
 cases rt with
 | false =>
  have HS2:Hid (Calls Tryz.prog 21 #[.agg #[.string ⟨d.res.name.toArray⟩,.slice a6 d.params.length c6,.int .i64 d.res.base,.slice a7 d.res.clause.length c7]] w7 fun e w'=>e=.returned (.tuple #[.string ⟨#[]⟩,.int .i64 10])∧Below w7.heap.size w7 w'):=ah Vj.out;clear Vj
  go_upto_region 10 with (go_at_call 21;refine HS2.out.mono ?_;rintro e w8 ⟨rfl,jq⟩)
  have JW:=(jq.block _ Sw).trans HG7.out.2;have Xw:=yc.trans (jq.mono yc.size);obtain⟨⟨r0,r1,r2,r3⟩,z0,z1,z2,z3⟩:=iD JW;have hP:=iB JW (.string ⟨#[]⟩) (.slice none 0 0) (.int .i64 0) (.slice none 0 0);have I5:=gH Xw (Nat.le_refl w.heap.size) (.string ⟨#[]⟩) (.slice none 0 0) (.int .i64 0) (.slice none 0 0);have HP:=ah hP;have HB:=ah I5;clear hP I5 JW;go_wp2;change bodyPost _ _ _ _ _ (ny w8 w.heap.size (.string ⟨#[]⟩) (.slice none 0 0) (.int .i64 0) (.slice none 0 0));generalize ny w8 _ _ _ _ _=w9 at *;obtain⟨⟨d0,d1,d2,d3⟩,-⟩:=iD HP.out;exact bodyPost_ret (v:=.tuple #[.agg #[.string ⟨#[]⟩,.slice none 0 0,.int .i64 0,.slice none 0 0],.int .i64 10]) (by simp[results,Tryz.results34,go_sem,d0,d1,d2,d3]) rfl (by unfold Tj;rw[if_neg (fun q=>by rw[← ZE.out.1] at q;cases q.1)];exact⟨rfl,HB.out⟩)
 | true =>
  have HS2:Hid (Calls Tryz.prog 21 #[.agg #[.string ⟨d.res.name.toArray⟩,.slice a6 d.params.length c6,.int .i64 d.res.base,.slice a7 d.res.clause.length c7]] w7 fun e w'=>e=.returned (.tuple #[.string ⟨tx.toArray⟩,.int .i64 0])∧Below w7.heap.size w7 w'):=ah Vj.out;clear Vj
  by_cases heq:tx=s.data.toList
  ·have HEQ:=ah heq
   have HS3:Hid (Calls Tryz.prog 21 #[.agg #[.string ⟨d.res.name.toArray⟩,.slice a6 d.params.length c6,.int .i64 d.res.base,.slice a7 d.res.clause.length c7]] w7 fun e w'=>e=.returned (.tuple #[.string s,.int .i64 0])∧Below w7.heap.size w7 w'):=ah (by have q:=HS2.out;rw[heq,hTT] at q;exact q);clear HS2 heq hTT
   go_upto_region 11 with (go_at_call 21;refine HS3.out.mono ?_;rintro e w8 ⟨rfl,jq⟩)
   have JW:=(jq.block _ Sw).trans HG7.out.2;have hS8:=(jq.block _ hs7).trans HG7.out.1;have Xw:=yc.trans (jq.mono yc.size);obtain⟨⟨r0,r1,r2,r3⟩,z0,z1,z2,z3⟩:=iD JW;obtain⟨⟨x0',x1',x2',x3'⟩,-⟩:=iD hS8;have hcmp:(s.toList == s.toList)=true:=beq_self_eq_true _;have hP:=iB JW (.string ⟨d.res.name.toArray⟩) (.slice a6 d.params.length c6) (.int .i64 d.res.base) (.slice a7 d.res.clause.length c7);have I5:=gH Xw (Nat.le_refl w.heap.size) (.string ⟨d.res.name.toArray⟩) (.slice a6 d.params.length c6) (.int .i64 d.res.base) (.slice a7 d.res.clause.length c7)
   have hsP:zJ (fun k=>w.heap.size≤k) (ny w8 w.heap.size (.string ⟨d.res.name.toArray⟩) (.slice a6 d.params.length c6) (.int .i64 d.res.base) (.slice a7 d.res.clause.length c7)) (.slice a6 d.params.length c6) (.slice a7 d.res.clause.length c7) d.params d.res.clause :=
    ((HSG.out.frame (aQ.of jq)).frame (yA _ _ _ _ fun k hk=>by omega)).imp fun k hk _=>by omega
   have HP:=ah hP;have HB:=ah (And.intro I5 hsP);clear hP I5 JW hS8 x0 x1 x2 x3 hsP;go_wp2;change bodyPost _ _ _ _ _ (ny w8 w.heap.size (.string ⟨d.res.name.toArray⟩) (.slice a6 d.params.length c6) (.int .i64 d.res.base) (.slice a7 d.res.clause.length c7));generalize ny w8 _ _ _ _ _=w9 at *;obtain⟨⟨d0,d1,d2,d3⟩,-⟩:=iD HP.out;exact bodyPost_ret (v:=.tuple #[.agg #[.string ⟨d.res.name.toArray⟩,.slice a6 d.params.length c6,.int .i64 d.res.base,.slice a7 d.res.clause.length c7],.int .i64 0]) (by simp[results,Tryz.results34,go_sem,d0,d1,d2,d3]) rfl (by unfold Tj;rw[if_pos ⟨ZE.out.1.symm,by rw[← ZE.out.2];exact HEQ.out⟩];exact⟨a6,c6,a7,c7,rfl,HB.out.2,HB.out.1⟩)
  ·have HNE:=ah heq
   have hcmp:(tx == s.toList)=false:=by rw[Go.ByteArray.toList_eq];exact beq_eq_false_iff_ne.2 heq
   clear heq hTT
   go_upto_region 9 with (go_at_call 21;refine HS2.out.mono ?_;rintro e w8 ⟨rfl,jq⟩)
   have JW:=(jq.block _ Sw).trans HG7.out.2;have hS8:=(jq.block _ hs7).trans HG7.out.1;have Xw:=yc.trans (jq.mono yc.size);obtain⟨⟨r0,r1,r2,r3⟩,z0,z1,z2,z3⟩:=iD JW;obtain⟨⟨x0,x1,x2,x3⟩,-⟩:=iD hS8;have hP:=iB JW (.string ⟨#[]⟩) (.slice none 0 0) (.int .i64 0) (.slice none 0 0);have I5:=gH Xw (Nat.le_refl w.heap.size) (.string ⟨#[]⟩) (.slice none 0 0) (.int .i64 0) (.slice none 0 0);have HP:=ah hP;have HB:=ah I5;clear hP I5 JW hS8;go_wp2;change bodyPost _ _ _ _ _ (ny w8 w.heap.size (.string ⟨#[]⟩) (.slice none 0 0) (.int .i64 0) (.slice none 0 0));generalize ny w8 _ _ _ _ _=w9 at *;obtain⟨⟨d0,d1,d2,d3⟩,-⟩:=iD HP.out;exact bodyPost_ret (v:=.tuple #[.agg #[.string ⟨#[]⟩,.slice none 0 0,.int .i64 0,.slice none 0 0],.int .i64 10]) (by simp[results,Tryz.results34,go_sem,d0,d1,d2,d3]) rfl (by unfold Tj;rw[if_neg (fun q=>HNE.out (by rw[ZE.out.2];exact q.2))];exact⟨rfl,HB.out⟩)
end Go.Proofs.YtknicmmigbhpcaaGreatDoor

namespace Go.Proofs.YtknicmmigbhpcaaGreatDoor
def FF.rW (f:FF):Prop:=(f.dX.length:Int)=1 - (f.clause.length:Int)
theorem eD.rW (toks:List Tok)(u:Nat)(nm:List UInt8)(a:Nat)(t:eD):(t.ff toks u nm a).rW:=by
 obtain⟨cl⟩:=t
 cases cl with
 | none =>
  show (((if (0:Int)≤((_:Nat):Int) then [_] else []):List Int).length:Int)=1 - 0;rw[if_pos (Int.natCast_nonneg _)]
  rfl
 | some e =>
  show (((if (0:Int)≤-1 then [_] else []):List Int).length:Int)=1 - 1;rw[if_neg (by decide)]
  rfl
theorem yD (toks:List Tok):∀ (l:List eD) (u:Nat),∀ f∈j5 toks u l,f.rW
 | [],u,f,h=>by cases h
 | t :: l,u,f,h=>by
  rw[j5] at h
  rcases List.mem_cons.1 h with rfl|h
  ·exact eD.rW _ _ _ _ _
  ·exact yD toks l _ f h
def DD.rW (d:DD):Prop:=(∀ f∈d.params,f.rW)∧d.res.rW
theorem yE (toks:List Tok):∀ (l:List cK) (u:Nat),∀ d∈jS toks u l,d.rW
 | [],u,d,h=>by cases h
 | t :: l,u,d,h=>by
  rw[jS] at h
  rcases List.mem_cons.1 h with rfl|h
  ·exact⟨yD _ _ _,eD.rW _ _ _ _ _⟩
  ·exact yE toks l _ d h
theorem GA:∀ (l:List FF) (acc:Int),(∀ f∈l,f.rW)→mP acc (l.map FF.z)=acc+((l.flatMap FF.dX).length:Int)
 | [],acc,_=>by simp[mP]
 | f :: l,acc,h=>by
  have h1:((f.dX).length:Int)=1 - (f.clause.length:Int):=h f List.mem_cons_self
  have h2:((f.z.clause).length:Int)=(f.clause.length:Int):=by show (((f.clause.map PE.z).length:Nat):Int)=_;rw[List.length_map]
  rw[List.map_cons,mP,GA l _ (fun x hx=>h x (List.mem_cons_of_mem _ hx)),List.flatMap_cons,bN,h2];omega
def uh (acc:Int):List ZD→Int
 | []=>acc
 | d :: l=>uh (acc+mP (1 - (d.res.clause.length:Int)) d.params) l
theorem Ei:∀ (l:List DD) (acc:Int),(∀ d∈l,d.rW)→uh acc (l.map DD.z)=acc+((l.flatMap DD.dX).length:Int)
 | [],acc,_=>by simp[uh]
 | d :: l,acc,h=>by
  obtain⟨h1,h2⟩:=h d List.mem_cons_self;have h3:((d.res.dX).length:Int)=1 - (d.res.clause.length:Int):=h2
  have h4:((d.z.res.clause).length:Int)=(d.res.clause.length:Int):=by show (((d.res.clause.map PE.z).length:Nat):Int)=_;rw[List.length_map]
  have h5:d.z.params=d.params.map FF.z:=rfl;rw[List.map_cons,uh,Ei l _ (fun x hx=>h x (List.mem_cons_of_mem _ hx)),h4,h5,GA _ _ h1,List.flatMap_cons,bN]
  have h6:(d.dX).length=(d.params.flatMap FF.dX).length+d.res.dX.length:=by rw[DD.dX,bN]
  omega
theorem OV (toks:List Tok)(p:jP):uh 0 (p.pp toks).z.defs=((p.pp toks).dX.length:Int):=by
 have h:∀ d∈(p.pp toks).defs,d.rW:=yE toks p.defs (3 * p.imps);show uh 0 ((p.pp toks).defs.map DD.z)=_;rw[Ei _ _ h,Int.zero_add]
 rfl
theorem Ap:∀ (l:List ZF) (acc:Int),(∀ f∈l,f.clause.length≤1)→acc≤mP acc l∧mP acc l≤acc+l.length
 | [],acc,_=>by simp[mP]
 | f :: l,acc,h=>by
  have h1:=h f List.mem_cons_self
  have h2:=Ap l (acc+(1 - (f.clause.length:Int))) fun x hx=>h x (List.mem_cons_of_mem _ hx)
  rw[mP,eG];omega
theorem yF {S:List UInt8}{d:Nat}{toks:List Tok}{nodes:List Nd}{p:jP}(hd:d≤200)(h:gX S d=.good toks nodes)(hl:bO S=.ok toks)(he:nodes=p.pt.em 0 0)(hok:p.ok toks)(hlv:p.pt.lv=toks.length)(hn:nodes.length≤2 * toks.length):lH S toks nodes p:=by
 have hs:S.length≤65536:=by
  unfold bO at hl
  split at hl
  ·cases hl
  ·omega
 have hL:=gP hl
 have hM:∀ u,(aI toks u).length≤S.length+1:=fun u=>Nat.le_succ_of_le (Dq hl u)
 have hN:=o9 hl
 have hnd:nodes.length=p.pt.nd:=by rw[he,PT.qQ]
 exact⟨hs,hl,he,hok,hlv,hL.count,by omega,KY hl he p.wf hlv (by omega),hL.JH,xE hd h,jP.yZ (fun cl e u ho _=>CE.fits hL.some hN hM (by omega) e u ho) hok,jP.yZ (fun cl e u ho _=>CE.told (uT hl) e u ho) hok,jP.yZ (fun cl e u ho hn=>Nat.le_trans (CE.gD toks e u) hn) hok,jP.Kq hM hok⟩
def ZU:List UInt8:=[102,117,110,32,102,40,120,58,32,105,110,116,32,123,120,32,62,32,48,125,41,58,32,105,110,116,32,123,114,101,115,32,62,32,120,125,61,48,59]
def OW:List Tok:=[⟨2,[],[102,117,110],0⟩,⟨1,[32],[102],4⟩,⟨4,[],[40],5⟩,⟨1,[],[120],6⟩,⟨4,[],[58],7⟩,⟨2,[32],[105,110,116],9⟩,⟨4,[32],[123],13⟩,⟨1,[],[120],14⟩,⟨4,[32],[62],16⟩,⟨3,[32],[48],18⟩,⟨4,[],[125],19⟩,⟨4,[],[41],20⟩,⟨4,[],[58],21⟩,⟨2,[32],[105,110,116],23⟩,⟨4,[32],[123],27⟩,⟨2,[],[114,101,115],28⟩,⟨4,[32],[62],32⟩,⟨1,[32],[120],34⟩,⟨4,[],[125],35⟩,⟨4,[],[61],36⟩,⟨3,[],[48],37⟩,⟨4,[],[59],38⟩,⟨5,[],[],39⟩]
def ZV:List UInt8:=[102,117,110,32,102,40,120,58,105,110,116,41,58,105,110,116,61,48,59]
def OX:List Tok:=[⟨2,[],[102,117,110],0⟩,⟨1,[32],[102],4⟩,⟨4,[],[40],5⟩,⟨1,[],[120],6⟩,⟨4,[],[58],7⟩,⟨2,[],[105,110,116],8⟩,⟨4,[],[41],11⟩,⟨4,[],[58],12⟩,⟨2,[],[105,110,116],13⟩,⟨4,[],[61],16⟩,⟨3,[],[48],17⟩,⟨4,[],[59],18⟩,⟨5,[],[],19⟩]
def LP:jP:=⟨0,[⟨false,[⟨some (.bin .Jh .num)⟩],⟨some (.bin .res .Jh)⟩,.num⟩]⟩
def LQ:jP:=⟨0,[⟨false,[⟨none⟩],⟨none⟩,.num⟩]⟩
theorem ZW:bO ZU=.ok OW:=by rfl
theorem ZX:bO ZV=.ok OX:=by rfl
theorem LU:gX ZU 200=.good OW (LP.pt.em 0 0):=by kernel_rfl
theorem LV:gX ZV 200=.good OX (LQ.pt.em 0 0):=by kernel_rfl
theorem abH:LP.ok OW:=by
 refine⟨by decide,by decide,trivial,⟨fun h=>?_,rfl,rfl,by decide,⟨⟨rfl,?_,?_⟩,trivial⟩,⟨?_,?_⟩,?_⟩,trivial⟩
 ·cases h
 ·exact .head _
 ·simp only[CE.ok];exact⟨by decide,rfl,rfl⟩
 ·exact .head _
 ·simp only[CE.ok];exact⟨by decide,⟨trivial,rfl⟩,rfl⟩
 ·simp only[CE.ok];rfl
theorem abI:LQ.ok OX:=by
 refine⟨by decide,by decide,trivial,⟨fun h=>?_,rfl,rfl,by decide,⟨⟨rfl,?_,trivial⟩,trivial⟩,⟨?_,trivial⟩,?_⟩,trivial⟩
 ·cases h
 ·exact .head _
 ·exact .head _
 ·simp only[CE.ok];rfl
theorem LW:lH ZU OW (LP.pt.em 0 0) LP:=yF (d:=200) (by omega) LU ZW rfl abH (by decide) (by decide)
theorem Xx:lH ZV OX (LQ.pt.em 0 0) LQ:=yF (d:=200) (by omega) LV ZX rfl abI (by decide) (by decide)
def Xy (z:ZP):ZD:=match z.defs with|d :: _=>d | []=>⟨false,[],⟨[],0,[],0,0⟩,.mk 0 [] [] 0 false [] 0⟩
def oF:ZD:=Xy (LP.pp OW).z
def ZY:ZD:=Xy (LQ.pp OX).z
theorem aax:(LP.pp OW).z=⟨[],[oF]⟩:=by rfl
theorem adB:(LQ.pp OX).z=⟨[],[ZY]⟩:=by rfl
theorem GD:oF.gZ=true:=by kernel_rfl
theorem Xz:oF.mq=[102,40,120,58,32,105,110,116,32,123,120,32,62,32,48,125,41,58,32,105,110,116,32,123,114,101,115,32,62,32,120,125]:=by kernel_rfl
theorem XB:¬ ZY.mq=[102,40,120,58,105,110,116,41,58,105,110,116]:=by
 have:(ZY.mq == [102,40,120,58,105,110,116,41,58,105,110,116])=false:=by kernel_rfl
 exact beq_eq_false_iff_ne.1 this
theorem XC:mP (1 - (oF.res.clause.length:Int)) oF.params=0:=by kernel_rfl
theorem Z4:oF.params.length=1:=by kernel_rfl
end Go.Proofs.YtknicmmigbhpcaaGreatDoor

namespace Go.Proofs.YtknicmmigbhpcaaGreatDoor
open Go.RowKit Go Go.Sort
theorem rG (w:World):Calls Tryz.prog 10 #[] w fun r w'=>r=.returned (.bool true)∧Below w.heap.size w w':=by
 have t1:(Am ⟨#[102,40,120,58,32,105,110,116,32,123,120,32,62,32,48,125,41,58,32,105,110,116,32,123,114,101,115,32,62,32,120,125]⟩).data.toList=ZU:=rfl
 have HR1:Hid (∀ W,Calls Tryz.prog 34 #[.string ⟨#[102,40,120,58,32,105,110,116,32,123,120,32,62,32,48,125,41,58,32,105,110,116,32,123,114,101,115,32,62,32,120,125]⟩] W fun e w'=>∃ a c ac cc,e=.returned (.tuple #[.agg #[.string ⟨oF.res.name.toArray⟩,.slice a oF.params.length c,.int .i64 oF.res.base,.slice ac oF.res.clause.length cc],.int .i64 0])∧zJ (fun b=>W.heap.size≤b) w' (.slice a oF.params.length c) (.slice ac oF.res.clause.length cc) oF.params oF.res.clause∧Below W.heap.size W w'):=ah fun W=>by
  refine(Ao ⟨#[102,40,120,58,32,105,110,116,32,123,120,32,62,32,48,125,41,58,32,105,110,116,32,123,114,101,115,32,62,32,120,125]⟩ W (by decide) OW (LP.pt.em 0 0) LP (by rw[t1];exact LU) (by rw[t1];exact LW) oF aax rfl).mono fun e w' q=>?_
  unfold Tj at q;rw[if_pos ⟨GD,by rw[Xz]⟩] at q;exact q
 have t2:(Am ⟨#[102,40,120,58,105,110,116,41,58,105,110,116]⟩).data.toList=ZV:=rfl
 have HR2:Hid (∀ W,Calls Tryz.prog 34 #[.string ⟨#[102,40,120,58,105,110,116,41,58,105,110,116]⟩] W fun e w'=>e=.returned (.tuple #[.agg #[.string ⟨#[]⟩,.slice none 0 0,.int .i64 0,.slice none 0 0],.int .i64 10])∧Below W.heap.size W w'):=ah fun W=>by
  refine(Ao ⟨#[102,40,120,58,105,110,116,41,58,105,110,116]⟩ W (by decide) OX (LQ.pt.em 0 0) LQ (by rw[t2];exact LV) (by rw[t2];exact Xx) ZY adB rfl).mono fun e w' q=>?_
  unfold Tj at q;rw[if_neg (fun q=>XB q.2)] at q;exact q
 have hkn:oF.known:=LW.OT (by decide) oF (by rw[aax];exact List.mem_singleton.2 rfl);have wF:=ah hkn;have h1:=Z4;have ZE:Hid (gZ oF.res.name oF.params oF.res.base oF.res.clause=true):=ah GD;have HBR:=ah XC
 have hone:((oF.params.length:Int) == 1)=true:=by rw[h1];rfl
 clear hkn t1 t2 h1;generalize oF=d at *;go_enter Tryz.func10,Tryz.ntmps10
 go_upto_region 2 with (go_at_call 34;refine(HR1.out _).mono ?_;rintro r w1 ⟨a1,c1,a2,c2,rfl,hs1,hb1⟩)
 have g1:=heap_alloc_new w1 (.cells #[.string ⟨d.res.name.toArray⟩,.slice a1 d.params.length c1,.int .i64 d.res.base,.slice a2 d.res.clause.length c2] 31);have hb2:=hb1.alloc hb1.size (.cells #[.string ⟨d.res.name.toArray⟩,.slice a1 d.params.length c1,.int .i64 d.res.base,.slice a2 d.res.clause.length c2] 31);have hs2:=hs1.frame (aQ.of (aj w1 (.cells #[.string ⟨d.res.name.toArray⟩,.slice a1 d.params.length c1,.int .i64 d.res.base,.slice a2 d.res.clause.length c2] 31)))
 have hl2:w1.heap.size<(w1.alloc (.cells #[.string ⟨d.res.name.toArray⟩,.slice a1 d.params.length c1,.int .i64 d.res.base,.slice a2 d.res.clause.length c2] 31)).heap.size:=by simp
 change Code.wp _ _ _ _ (w1.alloc (.cells #[.string ⟨d.res.name.toArray⟩,.slice a1 d.params.length c1,.int .i64 d.res.base,.slice a2 d.res.clause.length c2] 31));clear hb1 hs1 HR1;generalize w1.alloc _=w2 at g1 hb2 hs2 hl2 ⊢;generalize w1.heap.size=q1 at g1 hl2 ⊢
 go_upto_region 3 with (go_at_call 34;refine(HR2.out _).mono ?_;rintro r w3 ⟨rfl,hb3⟩)
 have hb4:=hb3.alloc hb3.size (.cells #[.string ⟨#[]⟩,.slice none 0 0,.int .i64 0,.slice none 0 0] 31);change Code.wp _ _ _ _ (w3.alloc (.cells #[.string ⟨#[]⟩,.slice none 0 0,.int .i64 0,.slice none 0 0] 31));clear hb3 HR2;generalize w3.alloc _=w4 at hb4 ⊢;have hz2:=hb2.size;have hbw:=hb2.trans (hb4.mono hz2);have g4:=(hb4.block q1 hl2).trans g1;have hl4:=(bG g4).1;have HS:=ah ((hs2.frame (aQ.of hb4)).imp (Q:=fun b=>b<w4.heap.size) fun _ _ hl=>hl);have G4:=ah g4;obtain⟨⟨x0,x1,x2,x3⟩,-⟩:=iD g4;have hRT:=Ak d.res d.params w4.heap.size a1 c1 a2 c2 w4 HS.out (Nat.le_refl _) wF.out.res wF.out.jR;rw[ZE.out] at hRT;have HR:=ah hRT;have HB:=ah (fun W (hW:Below w4.heap.size w4 W)=>Ea d.res d.params (fun b=>b<w4.heap.size) a1 c1 a2 c2 W (HS.out.1.frame (aQ.of hW)) (fun f hf=>(wF.out.jR f hf).few) (by have:=wF.out.few;omega) wF.out.res.few);rw[HBR.out] at HB;clear hRT g4 g1 hs2;go_wp2_with (first|(go_at_call 35;refine HR.out.mono ?_;rintro r w5 ⟨rfl,hb5⟩;obtain⟨⟨z0,z1,z2,z3⟩,-⟩:=iD ((hb5.block q1 hl4).trans G4.out))|(go_at_call 14;refine(HB.out _ hb5).mono ?_;rintro r w6 ⟨rfl,hb6⟩));go_ret;exact⟨rfl,hbw.trans ((hb5.trans (hb6.mono hb5.size)).mono hbw.size)⟩
end Go.Proofs.YtknicmmigbhpcaaGreatDoor

namespace Go.Proofs.YtknicmmigbhpcaaGreatDoor
open Go.RowKit Go
def GH (p:PP)(w:World)(e:Ending)(w':World):Prop :=
 ∃ ai ci ad cd,e=.returned (.tuple #[.agg #[.slice ai p.imports.length ci,.slice ad p.defs.length cd],.bool true])∧CG (fun b=>w.heap.size≤b) w' (.slice ai p.imports.length ci) (.slice ad p.defs.length cd) p∧Below w.heap.size w w'∧fM DA w.heap.size 48 w' (.slice ad p.defs.length cd) p.defs
theorem Ej (s:ByteArray)(w:World)(hs:s.size≤65536)(toks:List Tok)(nodes:List Nd)(p:jP)(h:gX s.data.toList 60=.good toks nodes)(F:lH s.data.toList toks nodes p) :
  Calls Tryz.prog 12 #[.string s] w (GH (p.pp toks) w):=by
 have HF:=ah (fun W=>qL s 60 W (by omega) (by omega) (by omega));rw[h] at HF;have HO:=ah (fun B at_ ct an cn W hT hB=>Xr B at_ ct an cn s toks nodes p W hT hB F);generalize p.pp toks=pp at HO ⊢;have ug:=aj w (.cells #[.slice none 0 0,.slice none 0 0] 38);have e0:=heap_alloc_new w (.cells #[.slice none 0 0,.slice none 0 0] 38);clear h F;go_enter Tryz.func12,Tryz.ntmps12
 go_upto_region 2 with (go_at_call 36;refine(HF.out _).mono ?_;rintro e w2 ⟨hb2,at_,ct,an,cn,rfl,hty⟩)
 have hb3:=(aj w2 (.cells #[.slice at_ toks.length ct,.slice an nodes.length cn] 89)).alloc (by simp) (.cells #[.int .i64 0,.int .i64 0] 75);have e1:=(Lib.alloc_old (w2.alloc (.cells #[.slice at_ toks.length ct,.slice an nodes.length cn] 89)) (.cells #[.int .i64 0,.int .i64 0] 75) w2.heap.size (by simp)).trans (heap_alloc_new w2 (.cells #[.slice at_ toks.length ct,.slice an nodes.length cn] 89));have e2:=heap_alloc_new (w2.alloc (.cells #[.slice at_ toks.length ct,.slice an nodes.length cn] 89)) (.cells #[.int .i64 0,.int .i64 0] 75);rw[World.size_alloc] at e2;have Xu:=(hb2.block w.heap.size (by simp)).trans e0;have hl2:=(bG Xu).1;have Xv:=(hb3.block w.heap.size hl2).trans Xu;have hbw:=(ug.trans (hb2.mono ug.size)).trans (hb3.mono (ug.trans (hb2.mono ug.size)).size);have hT:=hty.at.below hb3
 have hs3:w2.heap.size+1<((w2.alloc (.cells #[.slice at_ toks.length ct,.slice an nodes.length cn] 89)).alloc (.cells #[.int .i64 0,.int .i64 0] 75)).heap.size:=by simp
 clear hb2 hb3 HF hty Xu e0 ug;generalize (w2.alloc _).alloc _=w3 at e1 e2 Xv hbw hT hs3 ⊢;generalize w2.heap.size=tb at e1 e2 hT hs3 hl2 ⊢;obtain⟨c0,c1⟩:=bq e1;have HOx:=ah (HO.out tb at_ ct an cn w3 hT (by omega));clear e1 HO
 go_upto_region 3 with (go_at_call 37;refine HOx.out.mono ?_;rintro e w4 ⟨ai,ci,ad,cd,rfl,hn4,nA,hb4,LY⟩)
 have lQ:=hbw.trans (hb4.mono hbw.size);have hb5:=lQ.alloc lQ.size (.cells #[.slice ai pp.imports.length ci,.slice ad pp.defs.length cd] 38);have Eh:=hb4.alloc hb4.size (.cells #[.slice ai pp.imports.length ci,.slice ad pp.defs.length cd] 38);have g5:=heap_alloc_new w4 (.cells #[.slice ai pp.imports.length ci,.slice ad pp.defs.length cd] 38);have f5:=(Eh.block (tb+1) hs3).trans e2;have r5:=(Eh.block w.heap.size (by omega)).trans Xv;have qY:=nA.frame (aQ.of (aj w4 (.cells #[.slice ai pp.imports.length ci,.slice ad pp.defs.length cd] 38)));have Ma:=LY.below (aj w4 (.cells #[.slice ai pp.imports.length ci,.slice ad pp.defs.length cd] 38));clear c0 c1 HOx hT nA hb4 lQ hbw hn4 LY Eh e2 Xv;generalize w4.alloc _=w5 at hb5 g5 f5 r5 qY Ma ⊢;generalize w4.heap.size=pb at g5 ⊢
 have hw3:w.heap.size<w3.heap.size:=by omega
 obtain⟨a0,a1,-⟩:=bM g5;obtain⟨f0,f1,-⟩:=fU f5;obtain⟨r0,r1,rz⟩:=bM r5;clear g5 f5;go_wp2;refine bodyPost_ret (v:=.tuple #[.agg #[.slice ai pp.imports.length ci,.slice ad pp.defs.length cd],.bool true]) (by simp[results,Tryz.results12,go_sem,r0,r1]) rfl ⟨ai,ci,ad,cd,rfl,?_,?_,?_⟩
 ·exact(qY.frame ((aQ.set _ fun b hb=>by show b≠w.heap.size;omega).trans (aQ.set _ fun b hb=>by show b≠w.heap.size;omega))).imp fun b hb _=>by omega
 ·exact(hb5.setCell (Nat.le_refl _) _).setCell (Nat.le_refl _) _
 ·exact((Ma.set (by show w.heap.size<_;omega) _).set (by show w.heap.size<_;omega) _).base (by omega)
theorem EM (s:ByteArray)(w:World)(hs:s.size≤65536)(c a:Nat)(h:gX s.data.toList 60=.bad c a) :
  Calls Tryz.prog 12 #[.string s] w fun e w'=>e=.returned (.tuple #[.agg #[.slice none 0 0,.slice none 0 0],.bool false])∧Below w.heap.size w w':=by
 have hc:=Ro h;have hcI:((c:Int) == 0)=false:=beq_eq_false_iff_ne.2 (by omega);have HF:=ah (fun W=>qL s 60 W (by omega) (by omega) (by omega));rw[h] at HF;have ug:=aj w (.cells #[.slice none 0 0,.slice none 0 0] 38);have e0:=heap_alloc_new w (.cells #[.slice none 0 0,.slice none 0 0] 38);clear h hc;go_enter Tryz.func12,Tryz.ntmps12
 go_upto_region 2 with (go_at_call 36;refine(HF.out _).mono ?_;rintro e w2 ⟨hb2,rfl⟩)
 have hb3:=(aj w2 (.cells #[.slice none 0 0,.slice none 0 0] 89)).alloc (by simp) (.cells #[.int .i64 c,.int .i64 a] 75);have e1:=(Lib.alloc_old (w2.alloc (.cells #[.slice none 0 0,.slice none 0 0] 89)) (.cells #[.int .i64 c,.int .i64 a] 75) w2.heap.size (by simp)).trans (heap_alloc_new w2 (.cells #[.slice none 0 0,.slice none 0 0] 89));have e2:=heap_alloc_new (w2.alloc (.cells #[.slice none 0 0,.slice none 0 0] 89)) (.cells #[.int .i64 c,.int .i64 a] 75);rw[World.size_alloc] at e2;have Xu:=(hb2.block w.heap.size (by simp)).trans e0;have hl2:=(bG Xu).1;have Xv:=(hb3.block w.heap.size hl2).trans Xu;have hbw:=(ug.trans (hb2.mono ug.size)).trans (hb3.mono (ug.trans (hb2.mono ug.size)).size)
 have hs3:w2.heap.size+1<((w2.alloc (.cells #[.slice none 0 0,.slice none 0 0] 89)).alloc (.cells #[.int .i64 c,.int .i64 a] 75)).heap.size:=by simp
 clear hb2 hb3 HF Xu e0 ug;generalize (w2.alloc _).alloc _=w3 at e1 e2 Xv hbw hs3 ⊢;generalize w2.heap.size=tb at e1 e2 hs3 hl2 ⊢;obtain⟨c0,c1⟩:=bq e1;clear e1
 go_upto_region 3 with (go_at_call 37;refine(Ti _).mono ?_;rintro e w4 ⟨rfl,hb4⟩)
 have lQ:=hbw.trans (hb4.mono hbw.size);have hb5:=lQ.alloc lQ.size (.cells #[.slice none 0 0,.slice none 0 0] 38);have Eh:=hb4.alloc hb4.size (.cells #[.slice none 0 0,.slice none 0 0] 38);have g5:=heap_alloc_new w4 (.cells #[.slice none 0 0,.slice none 0 0] 38);have f5:=(Eh.block (tb+1) hs3).trans e2;have r5:=(Eh.block w.heap.size (by omega)).trans Xv;clear c0 c1 hb4 lQ hbw Eh e2 Xv;generalize w4.alloc _=w5 at hb5 g5 f5 r5 ⊢;generalize w4.heap.size=pb at g5 ⊢;obtain⟨a0,a1,-⟩:=bM g5;obtain⟨f0,f1,-⟩:=fU f5;obtain⟨r0,r1,rz⟩:=bM r5;clear g5 f5;go_wp2;refine bodyPost_ret (v:=.tuple #[.agg #[.slice none 0 0,.slice none 0 0],.bool false]) (by simp[results,Tryz.results12,go_sem,r0,r1]) rfl ⟨rfl,?_⟩;exact(hb5.setCell (Nat.le_refl _) _).setCell (Nat.le_refl _) _
theorem Tk {w:World}{b:Nat}{c0 c1 c2 c3 c4 c5 c6 c7 c8 c9 c10 c11 c12 c13 c14:Value}(h:w.heap[b]?=some (.cells #[c0,c1,c2,c3,c4,c5,c6,c7,c8,c9,c10,c11,c12,c13,c14] 48 (0,0))):w.cell? ⟨b,0,none⟩=some c0∧w.cell? ⟨b,1,none⟩=some c1∧w.cell? ⟨b,2,none⟩=some c2∧w.cell? ⟨b,3,none⟩=some c3∧w.cell? ⟨b,4,none⟩=some c4∧w.cell? ⟨b,5,none⟩=some c5∧w.cell? ⟨b,6,none⟩=some c6∧w.cell? ⟨b,7,none⟩=some c7∧w.cell? ⟨b,8,none⟩=some c8∧w.cell? ⟨b,9,none⟩=some c9∧w.cell? ⟨b,10,none⟩=some c10∧w.cell? ⟨b,11,none⟩=some c11∧w.cell? ⟨b,12,none⟩=some c12∧w.cell? ⟨b,13,none⟩=some c13∧w.cell? ⟨b,14,none⟩=some c14:=by
 refine⟨?_,?_,?_,?_,?_,?_,?_,?_,?_,?_,?_,?_,?_,?_,?_⟩<;>(rw[Lib.cell_of_heap h];rfl)
theorem OY {w:World}{b:Nat}{c0 c1:Value}(h:w.heap[b]?=some (.cells #[c0,c1] 38 (0,0))):w.cell? ⟨b,0,none⟩=some c0∧w.cell? ⟨b,1,none⟩=some c1:=by
 refine⟨?_,?_⟩<;>(rw[Lib.cell_of_heap h];rfl)
end Go.Proofs.YtknicmmigbhpcaaGreatDoor
