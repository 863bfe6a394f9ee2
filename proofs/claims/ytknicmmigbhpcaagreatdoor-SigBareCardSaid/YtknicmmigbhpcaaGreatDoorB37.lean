/- Walks and plain laws: OfW, AsP2, ScopePr0. -/
import Derived.Test.YtknicmmigbhpcaaGreatDoorB36
set_option maxHeartbeats 16000000
set_option maxRecDepth 100000
set_option linter.unusedVariables false
set_option linter.unusedSimpArgs false
namespace Go.Proofs.YtknicmmigbhpcaaGreatDoor
open Go.RowKit Go
theorem Tryz.OQ:(Tryz.prog.info? 101).map (fun i=>(i.zero,i.size,i.bytes))=some (some (.agg #[.string ⟨#[]⟩,.int .i64 0]),2,24):=by kernel_rfl
theorem Tryz.ZO:(Tryz.prog.info? 48).map (fun i=>(i.zero,i.size,i.bytes))=some (some (.agg #[.bool false,.string ⟨#[]⟩,.slice none 0 0,.int .i64 0,.slice none 0 0,.int .i64 0,.string ⟨#[]⟩,.string ⟨#[]⟩,.bool false,.slice none 0 0,.bool false,.slice none 0 0,.int .i64 0,.int .i64 0,.int .i64 0]),15,208):=by kernel_rfl
theorem Tryz.Tg:∀ args w,(callFunc 68 args).run Tryz.prog w=.ok (.enter 68 args) w:=Go.Proofs.enters_of Tryz.func68 (by kernel_rfl) rfl
theorem bM {w:World}{b:Nat}{c0 c1:Value}(h:w.heap[b]?=some (.cells #[c0,c1] 38 (0,0))):w.cell? ⟨b,0,none⟩=some c0∧w.cell? ⟨b,1,none⟩=some c1∧∀ j,w.frozen? ⟨b,j,none⟩=false:=by
 refine⟨?_,?_,fun j=>by simp[World.frozen?,h]⟩<;>(rw[Lib.cell_of_heap h];rfl)
theorem ZQ {nodes:List Nd}{m u:Nat}(h:lM nodes m u tF):∃ (k0 k1 k2:Nat),nodes[m]?=some ⟨(2:Nat),-1,[(k0:Int),k1,k2]⟩∧nodes[k1]?=some ⟨19,((u+1:Nat):Int),[]⟩:=by
 obtain⟨ks,h1,h2⟩:=dN h;obtain⟨k0,ks0,rfl,_,h3⟩:=bE h2;obtain⟨k1,ks1,rfl,h4,h5⟩:=bE h3;obtain⟨k2,ks2,rfl,_,h6⟩:=bE h5;rw[dW] at h6;subst h6;exact⟨k0,k1,k2,h1,h4⟩
theorem Xr (B:Nat)(at_:Option Addr)(ct:Nat)(an:Option Addr)(cn:Nat)(S:ByteArray)(toks:List Tok)(nodes:List Nd)(p:jP)(w:World)(h:aN B w (.agg #[.slice at_ toks.length ct,.slice an nodes.length cn]) toks nodes)(hB:B≤w.heap.size)(F:lH S.data.toList toks nodes p) :
  Calls Tryz.prog 37 #[.agg #[.slice at_ toks.length ct,.slice an nodes.length cn]] w (WB (p.pp toks) w):=by
 obtain⟨ii,hii1,hii2,aeU,aeV⟩:=info_parts Tryz.OQ;obtain⟨id,aeW,aeX,aeY,aeZ⟩:=info_parts Tryz.ZO;have ent:=Tryz.Tg;have hft:=F.good.RG;have hfn:=F.good.few;obtain⟨r,ks,hr1,hn,hk⟩:=Sq F;obtain⟨hlen,hat⟩:=PU _ _ _ hk;have HAT:=ah hat;have hkl:=p.VY;rw[← hlen] at hkl;have wF:=ah hkl
 have afe:0<ks.length:=by omega
 clear hkl;have XO:=ah hlen;have HLV:Hid (bB p.kids=toks.length):=ah F.lv;have E:=abg F B (.slice at_ toks.length ct) (.slice an nodes.length cn);have HA:=ah (fun W (hW:Below w.heap.size w W)=>ZN B at_ ct an cn S toks nodes _ W (h.below (hW.mono hB)) (Nat.le_trans hB hW.size) F.good (by have:=F.small;rw[aK] at this;exact this) F.whole F.deep);have Zy:Hid (∀ (d:cK) (u:Nat),d.ok toks u→u+d.pt.lv≤toks.length→∀ (m:Nat) (W:World),lM nodes m u d.pt→aN B W (.agg #[.slice at_ toks.length ct,.slice an nodes.length cn]) toks nodes→B≤W.heap.size→Calls Tryz.prog 68 #[.agg #[.slice at_ toks.length ct,.slice an nodes.length cn],.int .i64 m] W (Wv (d.dd toks u) W)):=ah (fun d u ho hl m W hr hT hW=>Ww E d u ho hl m W hr hT hW)
 have Wy:Hid (∀ (k u:Nat) (W:World),nodes[k]?=some ⟨19,(u:Nat),[]⟩→u<toks.length→aN B W (.agg #[.slice at_ toks.length ct,.slice an nodes.length cn]) toks nodes→B≤W.heap.size→Calls Tryz.prog 67 #[.agg #[.slice at_ toks.length ct,.slice an nodes.length cn],.int .i64 k] W fun e w'=>e=.returned (mW (bP toks u))∧Below W.heap.size W w'):=ah (fun k u W hl hu hT hW=>by
  have:=jD B _ _ toks nodes k u W hT hW hl hu;have e:=iV hu;rw[List.getElem?_eq_getElem hu] at e;rw[Option.some.inj e] at this
  exact this)
 have HOK:=ah F.okk;have afW:=F.okk.1;have afX:=F.okk.2.1;have X9:Hid ((p.pp toks).imports.length=p.imps):=ah (vS _ _ _);have HPD:Hid ((p.pp toks).defs.length=p.defs.length):=ah (vR _ _ _)
 have HIG:Hid (∀ (j:Nat) (hj:j<(p.pp toks).imports.length),(p.pp toks).imports[j]=(aI toks (3 * j+1),cB toks (3 * j+1))):=ah (fun j hj=>by
  have:=Db toks p.imps 0 j hj;rw[Nat.zero_add] at this
  exact this)
 have HDG:Hid (∀ (j:Nat) (h1:j<p.defs.length) (h2:j<(p.pp toks).defs.length),(p.pp toks).defs[j]=p.defs[j].dd toks (3 * p.imps+bB ((p.defs.take j).map cK.pt))):=ah (fun j h1 h2=>Dc toks p.defs (3 * p.imps) j h1 h2);generalize p.pp toks=pp at X9 HPD HIG HDG ⊢;have HT:=ah h;have HN:=ah hn;have HR1:=ah hr1;have hal:=(aj w (.cells #[.slice at_ toks.length ct,.slice an nodes.length cn] 89)).alloc (by simp) (.cells #[.slice none 0 0,.slice none 0 0] 38);have e1:=(Lib.alloc_old (w.alloc (.cells #[.slice at_ toks.length ct,.slice an nodes.length cn] 89)) (.cells #[.slice none 0 0,.slice none 0 0] 38) w.heap.size (by simp)).trans (heap_alloc_new w (.cells #[.slice at_ toks.length ct,.slice an nodes.length cn] 89));have e2:=heap_alloc_new (w.alloc (.cells #[.slice at_ toks.length ct,.slice an nodes.length cn] 89)) (.cells #[.slice none 0 0,.slice none 0 0] 38);rw[World.size_alloc] at e2;obtain⟨c0,c1⟩:=bq e1;clear h F hn hr1 hk hat hlen E;go_enter Tryz.func37,Tryz.ntmps37
 go_upto_region 3 with (go_at_call 65;refine(HA.out _ hal).mono ?_;rintro e w3 ⟨rfl,hb3⟩)
 have E1:=(hb3.block w.heap.size (by simp;omega)).trans e1;have E2:=(hb3.block (w.heap.size+1) (by simp)).trans e2;have hb4:=hal.trans (hb3.mono (by simp;omega));have KI:=hb4.size;have hl2:=(bG E2).1;obtain⟨c0,c1⟩:=bq E1;clear hb3 e1 e2 hal HA
 go_upto_region 5 with fail
 have hb5:=(hb4.alloc KI (.cells #[.slice at_ toks.length ct,.slice an nodes.length cn] 132)).alloc (by simp;omega) (.cells #[.slice none 0 0,.slice none 0 0] 38);have G1:=(Lib.alloc_old (w3.alloc (.cells #[.slice at_ toks.length ct,.slice an nodes.length cn] 132)) (.cells #[.slice none 0 0,.slice none 0 0] 38) w.heap.size (by simp;omega)).trans ((Lib.alloc_old w3 (.cells #[.slice at_ toks.length ct,.slice an nodes.length cn] 132) w.heap.size (by omega)).trans E1);have G2:=(Lib.alloc_old (w3.alloc (.cells #[.slice at_ toks.length ct,.slice an nodes.length cn] 132)) (.cells #[.slice none 0 0,.slice none 0 0] 38) (w.heap.size+1) (by simp;omega)).trans ((Lib.alloc_old w3 (.cells #[.slice at_ toks.length ct,.slice an nodes.length cn] 132) (w.heap.size+1) hl2).trans E2);have G3:=(Lib.alloc_old (w3.alloc (.cells #[.slice at_ toks.length ct,.slice an nodes.length cn] 132)) (.cells #[.slice none 0 0,.slice none 0 0] 38) w3.heap.size (by simp)).trans (heap_alloc_new w3 (.cells #[.slice at_ toks.length ct,.slice an nodes.length cn] 132));have G4:=heap_alloc_new (w3.alloc (.cells #[.slice at_ toks.length ct,.slice an nodes.length cn] 132)) (.cells #[.slice none 0 0,.slice none 0 0] 38);rw[World.size_alloc] at G4;clear hb4 E1 E2 c0 c1;have hqb:w.heap.size+1<w3.heap.size:=hl2;generalize hw4:(w3.alloc _).alloc _=w4 at hb5 G1 G2 G3 G4 ⊢
 have hs4:w4.heap.size=w3.heap.size+1+1:=by rw[← hw4];simp
 clear hw4;generalize w3.heap.size=qb at hqb hs4 G3 G4 ⊢;have LZ:=hb5.size;obtain⟨hi,hni⟩:=mR HN.out;obtain⟨b,off,cap,kv,hnv,YT,x0,x1,x2,hkv⟩:=HT.out.node hi;simp only[Value.slice.injEq] at hnv;obtain⟨rfl,-,rfl⟩:=hnv;rw[hni] at hkv;obtain⟨ak,ck,rfl,_,uX⟩:=hkv.form;simp only at x2 uX;obtain⟨bk,ok,rfl,hbk,hkc⟩:=uX (by omega);have TB:=ah hkc;obtain⟨c0,c1⟩:=bq G1;have x2:=cell_later hb5 x2;have hr1:=HR1.out;have HNI:Hid (((nodes.length:Int) - 1)=(r:Int)):=ah (by omega)
 have hrI:(r:Int)<(nodes.length:Int):=by omega
 clear hr1 x0 x1 hkc uX hkv hni
 go_cut [21,22,23] (fun v1 v2 v3 wc=>v1=.slice (some ⟨bk,ok,none⟩) ks.length ck∧v2=.int .i64 ks.length∧v3=.int .i64 0∧Below w4.heap.size w4 wc)
 case first =>
  go_region_held3 (fun w'=>w'.cell? ⟨w.heap.size,0,none⟩=some (.slice at_ toks.length ct)∧w'.cell? ⟨w.heap.size,1,none⟩=some (.slice (some ⟨b,off,none⟩) nodes.length cn)∧w'.cell? ⟨b,off+r * 3+2,none⟩=some (.slice (some ⟨bk,ok,none⟩) ks.length ck))
   (first|(with_reducible exact p3)|(go_keep;done))
   ((go_at_call 66;refine(qM at_ toks.length ct (some ⟨b,off,none⟩) nodes.length cn _ (by omega)).mono ?_;rintro e w5 ⟨rfl,hb6⟩;rw[HNI.out];have zT:Below w4.heap.size w4 w5:=(Below.refl w4.heap.size w4).drew.trans hb6;have p3:=And.intro (cell_later zT c0) (And.intro (cell_later zT c1) (cell_later zT x2))))
  go_wp2_with fail
  go_meet
  exact⟨rfl,rfl,rfl,zT⟩
 case rest =>
  obtain⟨rfl,rfl,rfl,hbc⟩:=hcut
  obtain⟨wl,rfl⟩:∃ wl:World,wl=wc:=⟨_,rfl⟩
  have hzl:=hbc.size;have H1:=(hbc.block w.heap.size (by omega)).trans G1;have H2:=(hbc.block (w.heap.size+1) (by omega)).trans G2;have H3:=(hbc.block qb (by omega)).trans G3;have H4:=(hbc.block (qb+1) (by omega)).trans G4;have ae0:=hb5.trans (hbc.mono LZ)
  have hqw:w.heap.size≤qb+1:=by omega
  clear c0 c1 x2 hb5 hbc G1 G2 G3 G4;go_wp2
  go_loopw [23] (fun q wr=>∃ (j:Nat) (ai:Option Addr) (ni ci:Nat) (ad:Option Addr) (nd cd:Nat),j≤ks.length∧q=.int .i64 j∧aQ (fun b=>b<wl.heap.size∧b≠qb+1) wl wr∧wr.heap[qb+1]?=some (.cells #[.slice ai ni ci,.slice ad nd cd] 38 (0,0))∧abj IA DA pp wl (qb+1) 101 48 j wr (.slice ai ni ci) (.slice ad nd cd)∧Below w.heap.size w wr) (fun q _=>ks.length - (intOf q).toNat)
  case atStart=>exact⟨0,none,0,0,none,0,0,Nat.zero_le _,rfl,aQ.refl _ _,H4,.inl ⟨Nat.zero_le _,by rw[List.take_zero];exact fM.nil _ _ _ _,rfl⟩,ae0⟩
  case round =>
   obtain⟨j,ai,ni,ci,ad,nd,cd,hj,rfl,fB,hpb,hst,hbl⟩:=hrel;have acW:=fB.1;have R1:=(fB.2 w.heap.size ⟨by omega,by omega⟩ (by omega)).trans H1;have R3:=(fB.2 qb ⟨by omega,by omega⟩ (by omega)).trans H3
   by_cases hjl:j<ks.length
   ·have hjp:j<p.kids.length:=by have:=XO.out;omega
    have hrep:=HAT.out j hjl hjp;have hlv:=KR p.kids j hjp;rw[HLV.out] at hlv;rw[Nat.zero_add] at hrep;have hx:=(hbl.cell (p:=⟨bk,ok+j,none⟩) (by show bk<_;omega)).trans (TB.out j hjl);generalize ks[j]=qk at hx hrep
    have Hf:(j:Int)<(ks.length:Int):=by omega
    obtain⟨c0,c1⟩:=bq R1;obtain⟨r0,r1⟩:=jV R3;obtain⟨d0,d1,dz⟩:=bM hpb;have adx:=(bG hpb).1;clear H1 H2 H3 H4
    rcases Nat.lt_or_ge j p.imps with hji|hji
    ·
     obtain⟨ZR,hkj,hlj⟩:=p.Y8 j hji;rw[hkj] at hrep hlv;rw[hlj] at hrep hlv
     obtain⟨m,rfl⟩:∃ m:Nat,qk=(m:Int):=⟨qk.toNat,by have:=zx hrep;omega⟩
     obtain⟨k0,k1,k2,hnm,hl1⟩:=ZQ hrep;obtain⟨hm,hnm'⟩:=mR hnm;obtain⟨b',off',cap',kv',e',_,y0,_,y2,hky⟩:=HT.out.node hm
     obtain⟨⟨rfl,rfl⟩,rfl⟩:(b=b'∧off=off')∧cn=cap':=by simpa using e'
     rw[hnm'] at y0 hky;obtain⟨ak2,ck2,rfl,_,abD⟩:=hky.form;simp only at y0 y2 abD;obtain⟨b2,o2,rfl,hb2,ady⟩:=abD (by simp);have z1:=(hbl.cell (p:=⟨b2,o2+1,none⟩) (by show b2<_;omega)).trans (ady 1 (by simp));have y0':=(hbl.cell (p:=⟨b,off+m * 3,none⟩) (by show b<_;omega)).trans y0;have y2':=(hbl.cell (p:=⟨b,off+m * 3+2,none⟩) (by show b<_;omega)).trans y2;simp only[List.getElem_cons_succ,List.getElem_cons_zero,eG,List.length_nil,Nat.zero_add] at z1 y2'
     have hmI:(m:Int)<(nodes.length:Int):=by omega
     have hut:3 * j+1<toks.length:=by simp only[tF,PT.lv,bB] at hlv;omega
     have hK:=fun W (hb:Below wr.heap.size wr W)=>(Wy.out k1 (3 * j+1) W hl1 hut (HT.out.below ((hbl.trans (hb.mono hbl.size)).mono hB)) (by have:=hbl.size;have:=hb.size;omega)).mono (R':=fun e w'=>e=.returned (mW (bP toks (3 * j+1)))∧Below wr.heap.size wr w'∧Below W.heap.size W w') fun e w' h=>⟨h.1,hb.trans (h.2.mono hb.size),h.2⟩
     have adz:j<pp.imports.length:=by have:=X9.out;omega
     have hg:=HIG.out j adz;have hsn:pp.imports.take (j+1)=pp.imports.take j++[pp.imports[j]]:=List.take_succ_eq_append_getElem adz;rw[hg] at hsn;unfold aI cB at hsn;unfold mW dh at hK;generalize bP toks (3 * j+1)=t at hK hsn;obtain⟨tk,tl,tt,tp⟩:=t;simp only at hK hsn;have HK:=ah hK;have pK:=ah hsn
     obtain⟨_,hown0,hdn⟩:j≤pp.imports.length∧fM IA wl.heap.size 101 wr (.slice ai ni ci) (pp.imports.take j)∧Value.slice ad nd cd=.slice none 0 0:=by
      rcases hst with hst|⟨hst,_⟩
      ·exact hst
      ·omega
     simp only[Value.slice.injEq] at hdn;obtain⟨rfl,rfl,rfl⟩:=hdn;clear hK hsn hg e' y0 y2 hky abD ady hnm hnm' hl1 hst hlv hlj hkj hrep
     go_upto_region 10 with fail
     go_cut [8] (fun v wc=>∃ Y:Nat,v=.pointer (some ⟨Y,0,none⟩)∧wc.heap[Y]?=some (.cells #[.int .i64 tk,.string ⟨tl.toArray⟩,.string ⟨tt.toArray⟩,.int .i64 tp] 136 (0,0))∧Below wr.heap.size wr wc)
     case first =>
      have hne0:qb≠wr.heap.size:=by omega
      have hne1:w.heap.size≠wr.heap.size:=by omega
      have hne2:b≠wr.heap.size:=by omega
      have abw:b2≠wr.heap.size:=by omega
      go_region_held3 (fun w'=>w'.cell? ⟨qb,0,none⟩=some (.slice at_ toks.length ct)∧w'.cell? ⟨qb,1,none⟩=some (.slice (some ⟨b,off,none⟩) nodes.length cn)∧w'.cell? ⟨w.heap.size,1,none⟩=some (.slice (some ⟨b,off,none⟩) nodes.length cn)∧w'.cell? ⟨b,off+m * 3+2,none⟩=some (.slice (some ⟨b2,o2,none⟩) 3 ck2)∧w'.cell? ⟨b2,o2+1,none⟩=some (.int .i64 k1))
       (first|(with_reducible exact p3)|((try dsimp only);with_reducible exact And.intro ((bD w3 wr.heap.size _ _ _ _ hne0).trans p3.1) (And.intro ((bD w3 wr.heap.size _ _ _ _ hne0).trans p3.2.1) (And.intro ((bD w3 wr.heap.size _ _ _ _ hne1).trans p3.2.2.1) (And.intro ((bD w3 wr.heap.size _ _ _ _ hne2).trans p3.2.2.2.1) ((bD w3 wr.heap.size _ _ _ _ abw).trans p3.2.2.2.2)))))|(go_keep;done))
       (first|(go_at_call 67;refine(HK.out _ ?_).mono ?_;(first|exact(Below.refl _ _).drew|exact((Below.refl _ _).alloc (Nat.le_refl _) _).drew);rintro e w3 ⟨rfl,hq3,hb3⟩;have p3:=And.intro (cell_later hq3 r0) (And.intro (cell_later hq3 r1) (And.intro (cell_later hq3 c1) (And.intro (cell_later hq3 y2') (cell_later hq3 z1))));try (have Dk:=(hb3.block wr.heap.size (by simp)).trans (heap_alloc_new wr (.cells #[.int .i64 0,.string ⟨#[]⟩,.string ⟨#[]⟩,.int .i64 0] 136));obtain⟨V9,Wh,Wi,Wj,Wm⟩:=l7 Dk)))
      ·clear r0 r1 c1 y2' z1 p3
       go_wp2_with fail
       go_meet
       exact⟨w3.heap.size,rfl,heap_alloc_new _ _,hq3.alloc hq3.size _⟩
      ·obtain⟨S3,So,_⟩:=vM Dk (.int .i64 tk) (.string ⟨tl.toArray⟩) (.string ⟨tt.toArray⟩) (.int .i64 tp)
       clear r0 r1 c1 y2' z1 p3 V9 Wh Wi Wj Wm;go_wp2_with fail
       go_meet
       exact⟨wr.heap.size,rfl,S3,(((hq3.setCell (Nat.le_refl _) _).setCell (Nat.le_refl _) _).setCell (Nat.le_refl _) _).setCell (Nat.le_refl _) _⟩
     case rest =>
      obtain⟨Y,rfl,hY,hbc⟩:=hcut
      obtain⟨wt,rfl⟩:∃ wt:World,wt=wc:=⟨_,rfl⟩
      have abE:=(hbc.block (qb+1) adx).trans hpb;obtain⟨d0,d1,dz⟩:=bM abE;obtain⟨f2,f3⟩:=rD hY
      have Tc:(pp.imports.take j).length=j:=by rw[List.length_take];omega
      obtain⟨_,_,hsl⟩:=hown0.slice;rw[Tc] at hsl
      obtain⟨-,rfl,-⟩:_∧ni=j∧_:=by simpa using hsl
      obtain⟨IL,h1,hown,hes⟩:=hown0;rw[Tc] at hown;have hzt:=hbc.size;have HNJ:=ah Tc
      have WA:some (qb+1)≠(Value.slice ai ni ci).ownBlock:=fun q=>by have:=(hown.lt _ q.symm).1;omega
      clear Tc hsl HK hY;go_wp2_with (at_builtin;refine wpList_append_lies _ rfl _ _ 35 rfl wl.heap.size 101 ii _ 2 24 Tryz.underlying35 hii1 hii2 aeU aeV rfl (by decide) _ ni _ rfl ((own_below hown hbc).alloc _) ⟨wt.heap.size,0,none⟩ 1 1 [.string ⟨tt.toArray⟩,.int .i64 tp] rfl rfl ?c1 ?c2 ?c3 ?c4 ?c5 ?c6 (wt.heap.size+1) (by simp) ?_)
      case c2=>simp[Value.oneCell']
      case c4=>unfold maxLen;omega
      case c5=>omega
      case c6=>first|omega|(simp;omega)
      intro gg cap5 w5 hown5 dU uN JL;have rY:=(dU.block (qb+1) (by simp;omega) WA).trans ((Lib.alloc_old wt _ (qb+1) (by omega)).trans abE);obtain⟨d0',d1',dz'⟩:=bM rY;obtain⟨q1,q2,q3⟩:=oC.round (K:=IA) (Q:=fun b=>wl.heap.size≤b) (wr:=wr) (kv:=.slice ai ni ci) (Tw:=.slice (some ⟨gg,0,none⟩) (ni+1) cap5) (acc:=pp.imports.take ni) (a:=(tt,tp)) (x:=()) (l:=IL) fB (show qb+1<wl.heap.size by omega) (by omega) h1 (by rw[HNJ.out];exact hown) hes trivial hbc (by rw[HNJ.out];exact hown5) dU rfl uN 0 (.slice (some ⟨gg,0,none⟩) (ni+1) cap5);have Cc:(w5.setCell ⟨qb+1,0,none⟩ (.slice (some ⟨gg,0,none⟩) (ni+1) cap5)).heap[qb+1]?=some (.cells #[.slice (some ⟨gg,0,none⟩) (ni+1) cap5,.slice none 0 0] 38 (0,0)):=heap_setCell_same w5 (qb+1) 0 _ _ _ rY;have yS:=q3 w.heap.size w hqw hbl;clear dU hown5 uN rY abE hes hown fB hpb d0 d1 dz f2 f3 hx y0' r0 r1 c0 c1 z1 y2' R1 R3 hbl h1 hbc;go_wp2;clear d0' d1' dz';generalize w5.setCell _ _=w6' at q1 q2 Cc yS ⊢
      go_roundw
      case rel =>
       refine⟨ni+1,some ⟨gg,0,none⟩,ni+1,cap5,none,0,0,by omega,by go_num,q2,Cc,.inl ⟨by omega,?_,rfl⟩,yS⟩;rw[pK.out];exact q1
      case measure=>simp[intOf];omega
    ·obtain⟨jd,rfl⟩:∃ jd,j=p.imps+jd:=⟨j - p.imps,by omega⟩
     obtain⟨hnil,w2,hw2,ha2,hri,LK,hdo⟩:=hst.two (by have:=X9.out;omega) fB
     have hsub:p.imps+jd - pp.imports.length=jd:=by have:=X9.out;omega
     rw[hsub] at hdo;have uP:=ah hnil;have HRI:=ah hri;have HA2:=ah ha2
     rcases Nat.lt_or_ge jd p.defs.length with hjd|hjd
     ·
      obtain⟨ZR,hkj,hlj⟩:=p.Y9 jd hjd;rw[hkj] at hrep hlv;rw[hlj] at hrep hlv
      obtain⟨m,rfl⟩:∃ m:Nat,qk=(m:Int):=⟨qk.toNat,by have:=zx hrep;omega⟩
      have hok:=Df p.defs (3 * p.imps) jd hjd HOK.out.2.2.2
      have adA:jd<pp.defs.length:=by have:=HPD.out;omega
      have hg:=HDG.out jd hjd adA;have hC:=Zy.out p.defs[jd] _ hok hlv m wr.drew hrep (HT.out.below (hbl.mono hB).drew) (Nat.le_trans hB hbl.size);rw[← hg] at hC;have hsn:pp.defs.take (jd+1)=pp.defs.take jd++[pp.defs[jd]]:=List.take_succ_eq_append_getElem adA;have aaw:lM nodes m (3 * p.imps+bB (List.map cK.pt (List.take jd p.defs))) (.node 3 p.defs[jd].kids):=hrep;obtain⟨ks2,hnm,_⟩:=dN aaw;obtain⟨hm,hnm'⟩:=mR hnm;obtain⟨b',off',cap',kv',e',_,y0,_,_,_⟩:=HT.out.node hm
      obtain⟨⟨rfl,rfl⟩,rfl⟩:(b=b'∧off=off')∧cn=cap':=by simpa using e'
      rw[hnm'] at y0;simp only at y0;have y0':=(hbl.cell (p:=⟨b,off+m * 3,none⟩) (by show b<_;omega)).trans y0
      have hmI:(m:Int)<(nodes.length:Int):=by omega
      generalize pp.defs[jd]=d at hC hsn;have HC:=ah hC;have pK:=ah hsn
      have Tc:(pp.defs.take jd).length=jd:=by rw[List.length_take];omega
      obtain⟨_,_,hsl⟩:=hdo.slice;rw[Tc] at hsl
      obtain⟨-,rfl,-⟩:_∧nd=jd∧_:=by simpa using hsl
      obtain⟨IL,h1,hown,hes⟩:=hdo;rw[Tc] at hown;have HNJ:=ah Tc
      have hlts:∀ b,some b=(Value.slice ad nd cd).ownBlock→w2.heap.size≤b∧b<wr.heap.size:=fun b q=>hown.lt b q.symm
      have WA:some (qb+1)≠(Value.slice ad nd cd).ownBlock:=fun q=>by have:=(hlts _ q).1;omega
      have HL:=ah hlts
      have hX2:qb+1<w2.heap.size:=by omega
      have hsz2:=LK.1;clear hnil hri ha2 hst hC hsn hg hok Tc hsl hlts y0 e' hnm hnm' hrep aaw hkj hlj hlv ZR hsub;go_wp2
      go_region_law ((first
       | (refine step_append_lies _ (by rfl) _ _ _ (by rfl) w2.heap.size 48 id _ 15 208 Tryz.underlying36 aeW aeX aeY aeZ rfl (by omega) (.slice ad nd cd) nd _ (by rfl) ((own_below (pV hown) hb2).alloc _) ⟨W2.heap.size,0,none⟩ 1 1 [.bool d.pub,.string ⟨d.res.name.toArray⟩,.slice ap d.params.length cp,.int .i64 d.res.base,.slice ac d.res.clause.length cc,.int .i64 d.body.op,.string ⟨d.body.name.toArray⟩,.string ⟨d.body.module.toArray⟩,.bool (decide (d.body.num<0)),.slice am wn cm,.bool d.body.yes,.slice ae d.body.kids.length ce,.int .i64 d.body.at_,.int .i64 d.res.at_,.int .i64 d.res.bare] (by rfl) (by rfl) (World.news_of_block (cs:=#[.bool d.pub,.string ⟨d.res.name.toArray⟩,.slice ap d.params.length cp,.int .i64 d.res.base,.slice ac d.res.clause.length cc,.int .i64 d.body.op,.string ⟨d.body.name.toArray⟩,.string ⟨d.body.module.toArray⟩,.bool (decide (d.body.num<0)),.slice am wn cm,.bool d.body.yes,.slice ae d.body.kids.length ce,.int .i64 d.body.at_,.int .i64 d.res.at_,.int .i64 d.res.bare]) (t:=48) (fr:=(0,0)) (heap_alloc_new W2 _)) (by simp[Value.oneCell']) (by omega) (by unfold maxLen;omega) (by omega) (by have:=hb2.size;simp at this ⊢;omega) (W2.heap.size+1) (by simp) ?_;intro gg cap5 w5 hown5 dU uN JL;have rY:=(dU.block (qb+1) (by have:=hb2.size;simp at this ⊢;omega) WA).trans ((Lib.alloc_old W2 _ (qb+1) (by have:=hb2.size;simp at this;omega)).trans Cb);have r65:=(bM rY).2.1;have z65:=(bM rY).2.2 1)
       | (refine uy rfl 68 _ _ rfl HC.out (by rfl) (ent _ _) ?_;rintro e W2 ⟨ap,cp,ac,cc,am,wn,cm,ae,ce,rfl,hxe,hb2⟩;refine⟨_,rfl,?_⟩;have Cb:=(hb2.block (qb+1) adx).trans hpb;have r62:=(bM Cb).2.1;have r63:=fun o=>Lib.cell?_alloc_some o r62)))
      all_goals
       obtain⟨q1,q2,q3⟩:=oC.round (K:=DA) (Q:=fun b=>w2.heap.size≤b) (wr:=wr.drew) (kv:=.slice ad nd cd) (Tw:=.slice (some ⟨gg,0,none⟩) (nd+1) cap5) (acc:=pp.defs.take nd) (a:=d) (x:=⟨.slice ap d.params.length cp,.slice ac d.res.clause.length cc,.slice am wn cm,.slice ae d.body.kids.length ce⟩) (l:=IL) (show aQ _ w2 wr.drew from LK) hX2 (by omega) h1 (by rw[HNJ.out];exact hown) (fun p hp=>DA.frame (hes p hp) (aQ.drew _ wr)) (DA.imp (P:=fun b=>wr.drew.heap.size≤b) hxe fun b hb _=>⟨Nat.le_trans hsz2 hb,fun q=>by have:=(HL.out b q).2;have:wr.drew.heap.size=wr.heap.size:=rfl;omega⟩) hb2 (by rw[HNJ.out];exact hown5) dU rfl uN 1 (.slice (some ⟨gg,0,none⟩) (nd+1) cap5);have Cc:(w5.setCell ⟨qb+1,1,none⟩ (.slice (some ⟨gg,0,none⟩) (nd+1) cap5)).heap[qb+1]?=some (.cells #[.slice ai ni ci,.slice (some ⟨gg,0,none⟩) (nd+1) cap5] 38 (0,0)):=heap_setCell_same w5 (qb+1) 1 _ _ _ rY;have yS:=q3 w.heap.size w hqw hbl.drew;clear dU hown5 uN rY r65 z65 Cb r62 r63 hxe hb2 HC hes hown fB hpb d0 d1 dz hx y0' r0 r1 c0 c1 R1 R3 hbl h1 LK;generalize w5.setCell _ _=w6' at q1 q2 Cc yS ⊢;go_wp2
       go_roundw
       case rel =>
        refine⟨p.imps+nd+1,ai,ni,ci,some ⟨gg,0,none⟩,nd+1,cap5,by omega,by go_num,?_,Cc,.inr ⟨by have:=X9.out;omega,uP.out,w2,hw2,HA2.out,HRI.out,q2,?_⟩,yS⟩
        ·exact HA2.out.trans ⟨q2.1,fun b hb hl=>q2.2 b ⟨by omega,hb.2⟩ hl⟩
        ·rw[show p.imps+nd+1 - pp.imports.length=nd+1 by have:=X9.out;omega,pK.out]
         exact q1
       case measure=>simp[intOf];omega
     ·obtain⟨ZR,hkj⟩:=p.Za
      obtain rfl:jd=p.defs.length:=by have:=wF.out;omega
      rw[hkj] at hrep;obtain⟨m,rfl,hnm⟩:=lM.MK hrep;obtain⟨hm,hnm'⟩:=mR hnm;obtain⟨b',off',cap',kv',e',_,y0,_,_,_⟩:=HT.out.node hm
      obtain⟨⟨rfl,rfl⟩,rfl⟩:(b=b'∧off=off')∧cn=cap':=by simpa using e'
      rw[hnm'] at y0;simp only at y0;have y0':=(hbl.cell (p:=⟨b,off+m * 3,none⟩) (by show b<_;omega)).trans y0
      have hmI:(m:Int)<(nodes.length:Int):=by omega
      clear hnil hri ha2 hst y0 e' hnm hnm' hrep hkj hlv ZR hsub;go_wp2
      go_roundw
      case rel =>
       refine⟨p.imps+p.defs.length+1,ai,ni,ci,ad,nd,cd,by omega,by go_num,fB,hpb,.inr ⟨by have:=X9.out;omega,uP.out,w2,hw2,HA2.out,HRI.out,LK,?_⟩,hbl⟩;rw[show p.imps+p.defs.length+1 - pp.imports.length=pp.defs.length+1 by have:=X9.out;have:=HPD.out;omega,List.take_of_length_le (by omega)];rw[← HPD.out,List.take_length] at hdo;exact hdo
      case measure=>simp[intOf];omega
   ·
    obtain rfl:j=ks.length:=by omega
    have Hf:decide ((ks.length:Int)<(ks.length:Int))=false:=decide_eq_false (by omega);obtain⟨hnil,w2,hw2,ha2,hri,LK,hdo⟩:=hst.two (by have:=X9.out;have:=wF.out;omega) fB;rw[List.take_of_length_le (by have:=X9.out;have:=HPD.out;have:=wF.out;omega)] at hdo;have hR2:=(fB.2 (w.heap.size+1) ⟨by omega,by omega⟩ (by omega)).trans H2
    have hrw:RowK IA (fun b=>wl.heap.size≤b) wr (.slice ai ni ci) pp.imports:=((hri.imp (Q:=fun b=>wl.heap.size≤b∧b<w2.heap.size∧b≠qb+1) fun b hb hl=>⟨hb,hl,by omega⟩).frame ⟨LK.1,fun b hb hl=>LK.2 b hb.2 hl⟩).imp fun b hb _=>hb.1
    have hrd:RowK DA (fun b=>wl.heap.size≤b) wr (.slice ad nd cd) pp.defs:=hdo.row.imp fun b hb _=>by omega
    have hod:fM DA wl.heap.size 48 wr (.slice ad nd cd) pp.defs:=hdo.base hw2;obtain⟨_,_,hs1⟩:=hrw.slice;obtain⟨_,_,hs2⟩:=hrd.slice
    obtain⟨-,rfl,-⟩:_∧ni=pp.imports.length∧_:=by simpa using hs1
    obtain⟨-,rfl,-⟩:_∧nd=pp.defs.length∧_:=by simpa using hs2
    obtain⟨d0,d1,dz⟩:=bM hpb;obtain⟨e0,e1,ez⟩:=bM hR2;clear hst hri hdo hs1 hs2 H1 H2 H3 H4 R1 R3 LK ha2 hw2 fB hpb hR2;go_wp2;refine bodyPost_ret (v:=.tuple #[.agg #[.slice ai pp.imports.length ci,.slice ad pp.defs.length cd],.int .i64 0]) (by simp[results,Tryz.results37,go_sem,e0,e1]) rfl ⟨ai,ci,ad,cd,rfl,fun q=>hnil _ _ (by rw[q]),⟨?_,?_⟩,?_,?_⟩
    ·exact(hrw.frame ((aQ.set _ fun b hb=>by show b≠w.heap.size+1;omega).trans (aQ.set _ fun b hb=>by show b≠w.heap.size+1;omega))).imp fun b hb _=>by omega
    ·exact(hrd.frame ((aQ.set _ fun b hb=>by show b≠w.heap.size+1;omega).trans (aQ.set _ fun b hb=>by show b≠w.heap.size+1;omega))).imp fun b hb _=>by omega
    ·exact(hbl.setCell (by simp) _).setCell (by simp) _
    ·exact((hod.set (by show w.heap.size+1<_;omega) _).set (by show w.heap.size+1<_;omega) _).base (by omega)
def Qk:List Tok:=[⟨5,[],[],0⟩]
def Je:List Nd:=[⟨19,0,[]⟩,⟨1,-1,[0]⟩]
theorem Xt:gX [] 200=.good Qk Je:=by rfl
theorem abF (w:World) :
  Calls Tryz.prog 65 #[.agg #[.slice none 0 0,.slice none 0 0],.func (.func 36) #[] #[]] w fun e w'=>e=.returned (.bool false)∧Below w.heap.size w w':=by
 have Gy:=ah (fun (W:World)=>ZM (-1) W)
 have LJ:Hid (∀ W:World,Calls Tryz.prog 109 #[.agg #[.slice none 0 0,.slice none 0 0]] W fun e w'=>e=.returned (.string ⟨#[]⟩)∧Below W.heap.size W w'):=ah fun W =>
  LH 0 (.slice none 0 0) (.slice none 0 0) [] W (by simp) (by decide) (Xp _ _ _) (Nat.zero_le _)
 have yC:=ah (fun W=>qL ⟨#[]⟩ 200 W (by omega) (by omega) (by decide));have hal:=aj w (.cells #[.slice none 0 0,.slice none 0 0] 89);have e1:=heap_alloc_new w (.cells #[.slice none 0 0,.slice none 0 0] 89);rw[show gX (ByteArray.mk #[]).data.toList 200=.good Qk Je from Xt] at yC
 obtain⟨D,G⟩:∃ D,Ac Qk Je D:=by
  obtain⟨p,G⟩:=Gl (by omega) Xt;exact⟨_,G.good⟩
 have hft:=G.RG;have hfn:=G.few;obtain⟨XD,hXD,eX⟩:=iM D;generalize Qk=toks at yC G hft;generalize Je=nodes at yC G hfn
 have abG:Hid (∀ (B:Nat) (at_:Option Addr) (ct:Nat) (an:Option Addr) (cn:Nat) (W:World),aN B W (.agg #[.slice at_ toks.length ct,.slice an nodes.length cn]) toks nodes→B≤W.heap.size→Calls Tryz.prog 108 #[.agg #[.slice at_ toks.length ct,.slice an nodes.length cn],.int .i64 ((nodes.length:Int) - 1)] W fun e w'=>e=.returned (.tuple #[.string XD,.int .i64 0])∧Below W.heap.size W w') :=
  ah fun B at_ ct an cn W hT hBW=>(LG G B _ _ W hT hBW).mono fun e w' h=>⟨by rw[h.1,eX],h.2⟩
 clear G hXD eX;go_enter Tryz.func65,Tryz.ntmps65
 go_upto_region 1 with fail
 generalize w.alloc _=w1 at hal e1 ⊢;obtain⟨c0,c1⟩:=bq e1;have hl1:=(bG e1).1
 go_cut [5,6] (fun a e wx=>a=.string ⟨#[]⟩∧e=.int .i64 10∧wx.heap[w.heap.size]?=some (.cells #[.slice none 0 0,.slice none 0 0] 89 (0,0))∧Below w.heap.size w wx)
 case first =>
  go_region_with (first|(go_at_call 66;refine(qM none 0 0 none 0 0 _ (by omega)).mono ?_;rintro e w5 ⟨rfl,hb5⟩;have d0:=(hb5.cell (p:=⟨w.heap.size,0,none⟩) hl1).trans c0;have d1:=(hb5.cell (p:=⟨w.heap.size,1,none⟩) hl1).trans c1)|(go_at_call 108;refine(Gy.out _).mono ?_;rintro e w6 ⟨rfl,hb6⟩))
  all_goals
   have xR:=hal.drew.trans (hb5.mono hal.size);have T6:=(hb6.block w.heap.size (Nat.lt_of_lt_of_le hl1 hb5.size)).trans ((hb5.block w.heap.size hl1).trans e1);go_wp2_with fail
   go_meet
   exact⟨rfl,rfl,T6,xR.trans (hb6.mono xR.size)⟩
 case rest =>
  obtain⟨rfl,rfl,hT,hbc⟩:=hcut;clear hal e1 c0 c1 hl1 w1
  obtain⟨wo,rfl⟩:∃ wo:World,wo=wc:=⟨_,rfl⟩
  obtain⟨c0,c1⟩:=bq hT
  go_upto_region 3 with (first|(go_at_call 109;refine(LJ.out _).mono ?_;rintro e w7 ⟨rfl,rZ⟩)|(go_at_call 36;refine(yC.out _).mono ?_;rintro e w8 ⟨jq,a8,c8,b8,d8,rfl,ht8⟩))
  have OP:=(hbc.trans (rZ.mono hbc.size))
  have Jd:=OP.trans (jq.mono OP.size);have r9:=(aj w8 (.cells #[.slice a8 toks.length c8,.slice b8 nodes.length d8] 89)).alloc (by simp) (.cells #[.int .i64 0,.int .i64 0] 75);have TK:=(Lib.alloc_old (w8.alloc (.cells #[.slice a8 toks.length c8,.slice b8 nodes.length d8] 89)) (.cells #[.int .i64 0,.int .i64 0] 75) w8.heap.size (by simp)).trans (heap_alloc_new w8 (.cells #[.slice a8 toks.length c8,.slice b8 nodes.length d8] 89));have hU:=ah (ht8.at.below r9);have Az:=Jd.trans (r9.mono Jd.size);have TH:=r9.size;clear rZ jq r9 ht8 OP hT hbc c0 c1 LJ yC Gy;generalize w8.heap.size=ub at TK hU TH Jd ⊢;generalize (w8.alloc _).alloc _=w9 at TK hU Az TH ⊢;obtain⟨c0,c1⟩:=bq TK;have hl9:=(bG TK).1
  go_cut [9,10] (fun a e wx=>Below w.heap.size w wx)
  case first =>
   go_region_with (first|(go_at_call 66;refine(qM a8 toks.length c8 b8 nodes.length d8 _ (by omega)).mono ?_;rintro e w5 ⟨rfl,hb5⟩;have d0:=(hb5.cell (p:=⟨ub,0,none⟩) hl9).trans c0;have d1:=(hb5.cell (p:=⟨ub,1,none⟩) hl9).trans c1)|(go_at_call 108;refine(abG.out ub a8 c8 b8 d8 _ (hU.out.below (((Below.refl w9.heap.size w9).drew.trans hb5).mono TH)) (Nat.le_trans TH hb5.size)).mono ?_;rintro e w6 ⟨rfl,hb6⟩))
   all_goals
    have xR:=(Below.refl w9.heap.size w9).drew.trans hb5;go_wp2_with fail
    go_meet
    exact Az.trans ((xR.trans (hb6.mono xR.size)).mono Az.size)
  case rest =>
   clear c0 c1 hl9 TK Az Jd;go_wp2;go_ret;exact⟨rfl,hcut⟩
theorem Ti (w:World) :
  Calls Tryz.prog 37 #[.agg #[.slice none 0 0,.slice none 0 0]] w fun e w'=>e=.returned (.tuple #[.agg #[.slice none 0 0,.slice none 0 0],.int .i64 10])∧Below w.heap.size w w':=by
 have HA:=ah (fun W=>abF W);have hal:=(aj w (.cells #[.slice none 0 0,.slice none 0 0] 89)).alloc (by simp) (.cells #[.slice none 0 0,.slice none 0 0] 38);have e1:=(Lib.alloc_old (w.alloc (.cells #[.slice none 0 0,.slice none 0 0] 89)) (.cells #[.slice none 0 0,.slice none 0 0] 38) w.heap.size (by simp)).trans (heap_alloc_new w (.cells #[.slice none 0 0,.slice none 0 0] 89));have e2:=heap_alloc_new (w.alloc (.cells #[.slice none 0 0,.slice none 0 0] 89)) (.cells #[.slice none 0 0,.slice none 0 0] 38);rw[World.size_alloc] at e2;obtain⟨c0,c1⟩:=bq e1;go_enter Tryz.func37,Tryz.ntmps37
 go_upto_region 2 with (go_at_call 65;refine(HA.out _).mono ?_;rintro e w3 ⟨rfl,hb3⟩)
 have E2:=(hb3.block (w.heap.size+1) (by simp)).trans e2;have hb4:=hal.trans (hb3.mono (by simp;omega));clear hb3 e1 e2 hal HA c0 c1;obtain⟨d0,d1,dz⟩:=bM E2;go_wp2;refine bodyPost_ret (v:=.tuple #[.agg #[.slice none 0 0,.slice none 0 0],.int .i64 10]) (by simp[results,Tryz.results37,go_sem,d0,d1]) rfl ⟨rfl,?_⟩;exact(hb4.setCell (by simp) _).setCell (by simp) _
end Go.Proofs.YtknicmmigbhpcaaGreatDoor
