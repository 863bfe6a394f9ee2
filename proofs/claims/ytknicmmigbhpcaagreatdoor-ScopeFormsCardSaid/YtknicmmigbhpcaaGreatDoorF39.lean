/- Walks and plain laws: OfW, AsP2, ScopePr, ScopeAncW. -/
import Derived.Test.YtknicmmigbhpcaaGreatDoorF38
import Derived.Test.YtknicmmigbhpcaaGreatDoorF35
set_option maxHeartbeats 16000000
set_option maxRecDepth 100000
set_option linter.unusedVariables false
set_option linter.unusedSimpArgs false
namespace Go.Proofs.YtknicmmigbhpcaaGreatDoor
open Go.RowKit Go
theorem Tryz.Ql:(Tryz.prog.info? 101).map (fun i=>(i.zero,i.size,i.bytes))=some (some (.agg #[.string ⟨#[]⟩,.int .i64 0]),2,24):=by kernel_rfl
theorem Tryz.aaA:(Tryz.prog.info? 48).map (fun i=>(i.zero,i.size,i.bytes))=some (some (.agg #[.bool false,.string ⟨#[]⟩,.slice none 0 0,.int .i64 0,.slice none 0 0,.int .i64 0,.string ⟨#[]⟩,.string ⟨#[]⟩,.bool false,.slice none 0 0,.bool false,.slice none 0 0,.int .i64 0,.int .i64 0,.int .i64 0]),15,208):=by kernel_rfl
theorem Tryz.Ux:∀ args w,(callFunc 68 args).run Tryz.prog w=.ok (.enter 68 args) w:=Go.Proofs.enters_of Tryz.func68 (by kernel_rfl) rfl
theorem aX {w:World}{b:Nat}{c0 c1:Value}(h:w.heap[b]?=some (.cells #[c0,c1] 38 (0,0))):w.cell? ⟨b,0,none⟩=some c0∧w.cell? ⟨b,1,none⟩=some c1∧∀ j,w.frozen? ⟨b,j,none⟩=false:=by
 refine⟨?_,?_,fun j=>by simp[World.frozen?,h]⟩<;>(rw[Lib.cell_of_heap h];rfl)
theorem aaB {nodes:List Nd}{m u:Nat}(h:mH nodes m u uD):∃ (k0 k1 k2:Nat),nodes[m]?=some ⟨(2:Nat),-1,[(k0:Int),k1,k2]⟩∧nodes[k1]?=some ⟨19,((u+1:Nat):Int),[]⟩:=by
 obtain⟨ks,h1,h2⟩:=dY h;obtain⟨k0,ks0,rfl,_,h3⟩:=bN h2;obtain⟨k1,ks1,rfl,h4,h5⟩:=bN h3;obtain⟨k2,ks2,rfl,_,h6⟩:=bN h5;rw[eH] at h6;subst h6;exact⟨k0,k1,k2,h1,h4⟩
theorem ab6 (B:Nat)(at_:Option Addr)(ct:Nat)(an:Option Addr)(cn:Nat)(S:ByteArray)(toks:List Tok)(nodes:List Nd)(p:j4)(w:World)(h:aO B w (.agg #[.slice at_ toks.length ct,.slice an nodes.length cn]) toks nodes)(hB:B≤w.heap.size)(F:nP S.data.toList toks nodes p) :
  Calls Tryz.prog 37 #[.agg #[.slice at_ toks.length ct,.slice an nodes.length cn]] w (XV (p.pp toks) w):=by
 obtain⟨ii,hii1,hii2,afm,afn⟩:=info_parts Tryz.Ql;obtain⟨id,afo,afp,afq,afr⟩:=info_parts Tryz.aaA;have ent:=Tryz.Ux;have hft:=F.good.Tp;have hfn:=F.good.few;obtain⟨r,ks,hr1,hn,hk⟩:=Uj F;obtain⟨hlen,hat⟩:=Rj _ _ _ hk;have HAT:=ah hat;have hkl:=p.Xr;rw[← hlen] at hkl;have HKN:=ah hkl
 have afA:0<ks.length:=by omega
 clear hkl;have Yt:=ah hlen;have HLV:Hid (bJ p.kids=toks.length):=ah F.lv;have E:=abT F B (.slice at_ toks.length ct) (.slice an nodes.length cn);have HA:=ah (fun W (hW:Below w.heap.size w W)=>aaz B at_ ct an cn S toks nodes _ W (h.below (hW.mono hB)) (Nat.le_trans hB hW.size) F.good (by have:=F.small;rw[aK] at this;exact this) F.whole F.deep);have zR:Hid (∀ (d:dG) (u:Nat),d.ok toks u→u+d.pt.lv≤toks.length→∀ (m:Nat) (W:World),mH nodes m u d.pt→aO B W (.agg #[.slice at_ toks.length ct,.slice an nodes.length cn]) toks nodes→B≤W.heap.size→Calls Tryz.prog 68 #[.agg #[.slice at_ toks.length ct,.slice an nodes.length cn],.int .i64 m] W (XO (d.dd toks u) W)):=ah (fun d u ho hl m W hr hT hW=>XP E d u ho hl m W hr hT hW)
 have Uh:Hid (∀ (k u:Nat) (W:World),nodes[k]?=some ⟨19,(u:Nat),[]⟩→u<toks.length→aO B W (.agg #[.slice at_ toks.length ct,.slice an nodes.length cn]) toks nodes→B≤W.heap.size→Calls Tryz.prog 67 #[.agg #[.slice at_ toks.length ct,.slice an nodes.length cn],.int .i64 k] W fun e w'=>e=.returned (nT (bU toks u))∧Below W.heap.size W w'):=ah (fun k u W hl hu hT hW=>by
  have:=jN B _ _ toks nodes k u W hT hW hl hu;have e:=iZ hu;rw[List.getElem?_eq_getElem hu] at e;rw[Option.some.inj e] at this
  exact this)
 have HOK:=ah F.okk;have agn:=F.okk.1;have agp:=F.okk.2.1;have YI:Hid ((p.pp toks).imports.length=p.imps):=ah (wS _ _ _);have HPD:Hid ((p.pp toks).defs.length=p.defs.length):=ah (wR _ _ _)
 have HIG:Hid (∀ (j:Nat) (hj:j<(p.pp toks).imports.length),(p.pp toks).imports[j]=(aH toks (3 * j+1),dF toks (3 * j+1))):=ah (fun j hj=>by
  have:=DW toks p.imps 0 j hj;rw[Nat.zero_add] at this
  exact this)
 have HDG:Hid (∀ (j:Nat) (h1:j<p.defs.length) (h2:j<(p.pp toks).defs.length),(p.pp toks).defs[j]=p.defs[j].dd toks (3 * p.imps+bJ ((p.defs.take j).map dG.pt))):=ah (fun j h1 h2=>DY toks p.defs (3 * p.imps) j h1 h2);generalize p.pp toks=pp at YI HPD HIG HDG ⊢;have HT:=ah h;have HN:=ah hn;have HR1:=ah hr1;have hal:=(aj w (.cells #[.slice at_ toks.length ct,.slice an nodes.length cn] 89)).alloc (by simp) (.cells #[.slice none 0 0,.slice none 0 0] 38);have e1:=(Lib.alloc_old (w.alloc (.cells #[.slice at_ toks.length ct,.slice an nodes.length cn] 89)) (.cells #[.slice none 0 0,.slice none 0 0] 38) w.heap.size (by simp)).trans (heap_alloc_new w (.cells #[.slice at_ toks.length ct,.slice an nodes.length cn] 89));have e2:=heap_alloc_new (w.alloc (.cells #[.slice at_ toks.length ct,.slice an nodes.length cn] 89)) (.cells #[.slice none 0 0,.slice none 0 0] 38);rw[World.size_alloc] at e2;obtain⟨c0,c1⟩:=bL e1;clear h F hn hr1 hk hat hlen E;go_enter Tryz.func37,Tryz.ntmps37
 go_upto_region 3 with (go_at_call 65;refine(HA.out _ hal).mono ?_;rintro e w3 ⟨rfl,hb3⟩)
 have E1:=(hb3.block w.heap.size (by simp;omega)).trans e1;have E2:=(hb3.block (w.heap.size+1) (by simp)).trans e2;have hb4:=hal.trans (hb3.mono (by simp;omega));have zn:=hb4.size;have hl2:=(bQ E2).1;obtain⟨c0,c1⟩:=bL E1;clear hb3 e1 e2 hal HA
 go_upto_region 5 with fail
 have hb5:=(hb4.alloc zn (.cells #[.slice at_ toks.length ct,.slice an nodes.length cn] 132)).alloc (by simp;omega) (.cells #[.slice none 0 0,.slice none 0 0] 38);have G1:=(Lib.alloc_old (w3.alloc (.cells #[.slice at_ toks.length ct,.slice an nodes.length cn] 132)) (.cells #[.slice none 0 0,.slice none 0 0] 38) w.heap.size (by simp;omega)).trans ((Lib.alloc_old w3 (.cells #[.slice at_ toks.length ct,.slice an nodes.length cn] 132) w.heap.size (by omega)).trans E1);have G2:=(Lib.alloc_old (w3.alloc (.cells #[.slice at_ toks.length ct,.slice an nodes.length cn] 132)) (.cells #[.slice none 0 0,.slice none 0 0] 38) (w.heap.size+1) (by simp;omega)).trans ((Lib.alloc_old w3 (.cells #[.slice at_ toks.length ct,.slice an nodes.length cn] 132) (w.heap.size+1) hl2).trans E2);have G3:=(Lib.alloc_old (w3.alloc (.cells #[.slice at_ toks.length ct,.slice an nodes.length cn] 132)) (.cells #[.slice none 0 0,.slice none 0 0] 38) w3.heap.size (by simp)).trans (heap_alloc_new w3 (.cells #[.slice at_ toks.length ct,.slice an nodes.length cn] 132));have G4:=heap_alloc_new (w3.alloc (.cells #[.slice at_ toks.length ct,.slice an nodes.length cn] 132)) (.cells #[.slice none 0 0,.slice none 0 0] 38);rw[World.size_alloc] at G4;clear hb4 E1 E2 c0 c1;have hqb:w.heap.size+1<w3.heap.size:=hl2;generalize hw4:(w3.alloc _).alloc _=w4 at hb5 G1 G2 G3 G4 ⊢
 have hs4:w4.heap.size=w3.heap.size+1+1:=by rw[← hw4];simp
 clear hw4;generalize w3.heap.size=qb at hqb hs4 G3 G4 ⊢;have Qz:=hb5.size;obtain⟨hi,hni⟩:=nY HN.out;obtain⟨b,off,cap,kv,hnv,hbB,x0,x1,x2,hkv⟩:=HT.out.node hi;simp only[Value.slice.injEq] at hnv;obtain⟨rfl,-,rfl⟩:=hnv;rw[hni] at hkv;obtain⟨ak,ck,rfl,_,vU⟩:=hkv.form;simp only at x2 vU;obtain⟨bk,ok,rfl,hbk,hkc⟩:=vU (by omega);have UN:=ah hkc;obtain⟨c0,c1⟩:=bL G1;have x2:=cell_later hb5 x2;have hr1:=HR1.out;have HNI:Hid (((nodes.length:Int) - 1)=(r:Int)):=ah (by omega)
 have hrI:(r:Int)<(nodes.length:Int):=by omega
 clear hr1 x0 x1 hkc vU hkv hni
 go_cut [21,22,23] (fun v1 v2 v3 wc=>v1=.slice (some ⟨bk,ok,none⟩) ks.length ck∧v2=.int .i64 ks.length∧v3=.int .i64 0∧Below w4.heap.size w4 wc)
 case first =>
  go_region_held3 (fun w'=>w'.cell? ⟨w.heap.size,0,none⟩=some (.slice at_ toks.length ct)∧w'.cell? ⟨w.heap.size,1,none⟩=some (.slice (some ⟨b,off,none⟩) nodes.length cn)∧w'.cell? ⟨b,off+r * 3+2,none⟩=some (.slice (some ⟨bk,ok,none⟩) ks.length ck))
   (first|(with_reducible exact p3)|(go_keep;done))
   ((go_at_call 66;refine(rH at_ toks.length ct (some ⟨b,off,none⟩) nodes.length cn _ (by omega)).mono ?_;rintro e w5 ⟨rfl,hb6⟩;rw[HNI.out];have vJ:Below w4.heap.size w4 w5:=(Below.refl w4.heap.size w4).drew.trans hb6;have p3:=And.intro (cell_later vJ c0) (And.intro (cell_later vJ c1) (cell_later vJ x2))))
  go_wp2_with fail
  go_meet
  exact⟨rfl,rfl,rfl,vJ⟩
 case rest =>
  obtain⟨rfl,rfl,rfl,hbc⟩:=hcut
  obtain⟨wl,rfl⟩:∃ wl:World,wl=wc:=⟨_,rfl⟩
  have hzl:=hbc.size;have H1:=(hbc.block w.heap.size (by omega)).trans G1;have H2:=(hbc.block (w.heap.size+1) (by omega)).trans G2;have H3:=(hbc.block qb (by omega)).trans G3;have H4:=(hbc.block (qb+1) (by omega)).trans G4;have afs:=hb5.trans (hbc.mono Qz)
  have hqw:w.heap.size≤qb+1:=by omega
  clear c0 c1 x2 hb5 hbc G1 G2 G3 G4;go_wp2
  go_loopw [23] (fun q wr=>∃ (j:Nat) (ai:Option Addr) (ni ci:Nat) (ad:Option Addr) (nd cd:Nat),j≤ks.length∧q=.int .i64 j∧aT (fun b=>b<wl.heap.size∧b≠qb+1) wl wr∧wr.heap[qb+1]?=some (.cells #[.slice ai ni ci,.slice ad nd cd] 38 (0,0))∧abV IA DA pp wl (qb+1) 101 48 j wr (.slice ai ni ci) (.slice ad nd cd)∧Below w.heap.size w wr) (fun q _=>ks.length - (intOf q).toNat)
  case atStart=>exact⟨0,none,0,0,none,0,0,Nat.zero_le _,rfl,aT.refl _ _,H4,.inl ⟨Nat.zero_le _,by rw[List.take_zero];exact fH.nil _ _ _ _,rfl⟩,afs⟩
  case round =>
   obtain⟨j,ai,ni,ci,ad,nd,cd,hj,rfl,fO,hpb,hst,hbl⟩:=hrel;have adB:=fO.1;have R1:=(fO.2 w.heap.size ⟨by omega,by omega⟩ (by omega)).trans H1;have R3:=(fO.2 qb ⟨by omega,by omega⟩ (by omega)).trans H3
   by_cases hjl:j<ks.length
   ·have hjp:j<p.kids.length:=by have:=Yt.out;omega
    have hrep:=HAT.out j hjl hjp;have hlv:=ME p.kids j hjp;rw[HLV.out] at hlv;rw[Nat.zero_add] at hrep;have hx:=(hbl.cell (p:=⟨bk,ok+j,none⟩) (by show bk<_;omega)).trans (UN.out j hjl);generalize ks[j]=qk at hx hrep
    have Ia:(j:Int)<(ks.length:Int):=by omega
    obtain⟨c0,c1⟩:=bL R1;obtain⟨r0,r1⟩:=j6 R3;obtain⟨d0,d1,dz⟩:=aX hpb;have adW:=(bQ hpb).1;clear H1 H2 H3 H4
    rcases Nat.lt_or_ge j p.imps with hji|hji
    ·
     obtain⟨aaC,hkj,hlj⟩:=p.Z8 j hji;rw[hkj] at hrep hlv;rw[hlj] at hrep hlv
     obtain⟨m,rfl⟩:∃ m:Nat,qk=(m:Int):=⟨qk.toNat,by have:=zV hrep;omega⟩
     obtain⟨k0,k1,k2,hnm,hl1⟩:=aaB hrep;obtain⟨hm,hnm'⟩:=nY hnm;obtain⟨b',off',cap',kv',e',_,y0,_,y2,hky⟩:=HT.out.node hm
     obtain⟨⟨rfl,rfl⟩,rfl⟩:(b=b'∧off=off')∧cn=cap':=by simpa using e'
     rw[hnm'] at y0 hky;obtain⟨ak2,ck2,rfl,_,ab7⟩:=hky.form;simp only at y0 y2 ab7;obtain⟨b2,o2,rfl,hb2,adX⟩:=ab7 (by simp);have z1:=(hbl.cell (p:=⟨b2,o2+1,none⟩) (by show b2<_;omega)).trans (adX 1 (by simp));have y0':=(hbl.cell (p:=⟨b,off+m * 3,none⟩) (by show b<_;omega)).trans y0;have y2':=(hbl.cell (p:=⟨b,off+m * 3+2,none⟩) (by show b<_;omega)).trans y2;simp only[List.getElem_cons_succ,List.getElem_cons_zero,dI,List.length_nil,Nat.zero_add] at z1 y2'
     have hmI:(m:Int)<(nodes.length:Int):=by omega
     have hut:3 * j+1<toks.length:=by simp only[uD,PT.lv,bJ] at hlv;omega
     have hK:=fun W (hb:Below wr.heap.size wr W)=>(Uh.out k1 (3 * j+1) W hl1 hut (HT.out.below ((hbl.trans (hb.mono hbl.size)).mono hB)) (by have:=hbl.size;have:=hb.size;omega)).mono (R':=fun e w'=>e=.returned (nT (bU toks (3 * j+1)))∧Below wr.heap.size wr w'∧Below W.heap.size W w') fun e w' h=>⟨h.1,hb.trans (h.2.mono hb.size),h.2⟩
     have adY:j<pp.imports.length:=by have:=YI.out;omega
     have hg:=HIG.out j adY;have hsn:pp.imports.take (j+1)=pp.imports.take j++[pp.imports[j]]:=List.take_succ_eq_append_getElem adY;rw[hg] at hsn;unfold aH dF at hsn;unfold nT dM at hK;generalize bU toks (3 * j+1)=t at hK hsn;obtain⟨tk,tl,tt,tp⟩:=t;simp only at hK hsn;have HK:=ah hK;have qm:=ah hsn
     obtain⟨_,hown0,hdn⟩:j≤pp.imports.length∧fH IA wl.heap.size 101 wr (.slice ai ni ci) (pp.imports.take j)∧Value.slice ad nd cd=.slice none 0 0:=by
      rcases hst with hst|⟨hst,_⟩
      ·exact hst
      ·omega
     simp only[Value.slice.injEq] at hdn;obtain⟨rfl,rfl,rfl⟩:=hdn;clear hK hsn hg e' y0 y2 hky ab7 adX hnm hnm' hl1 hst hlv hlj hkj hrep
     go_upto_region 10 with fail
     go_cut [8] (fun v wc=>∃ Y:Nat,v=.pointer (some ⟨Y,0,none⟩)∧wc.heap[Y]?=some (.cells #[.int .i64 tk,.string ⟨tl.toArray⟩,.string ⟨tt.toArray⟩,.int .i64 tp] 136 (0,0))∧Below wr.heap.size wr wc)
     case first =>
      have hne0:qb≠wr.heap.size:=by omega
      have hne1:w.heap.size≠wr.heap.size:=by omega
      have hne2:b≠wr.heap.size:=by omega
      have PL:b2≠wr.heap.size:=by omega
      go_region_held3 (fun w'=>w'.cell? ⟨qb,0,none⟩=some (.slice at_ toks.length ct)∧w'.cell? ⟨qb,1,none⟩=some (.slice (some ⟨b,off,none⟩) nodes.length cn)∧w'.cell? ⟨w.heap.size,1,none⟩=some (.slice (some ⟨b,off,none⟩) nodes.length cn)∧w'.cell? ⟨b,off+m * 3+2,none⟩=some (.slice (some ⟨b2,o2,none⟩) 3 ck2)∧w'.cell? ⟨b2,o2+1,none⟩=some (.int .i64 k1))
       (first|(with_reducible exact p3)|((try dsimp only);with_reducible exact And.intro ((bM w3 wr.heap.size _ _ _ _ hne0).trans p3.1) (And.intro ((bM w3 wr.heap.size _ _ _ _ hne0).trans p3.2.1) (And.intro ((bM w3 wr.heap.size _ _ _ _ hne1).trans p3.2.2.1) (And.intro ((bM w3 wr.heap.size _ _ _ _ hne2).trans p3.2.2.2.1) ((bM w3 wr.heap.size _ _ _ _ PL).trans p3.2.2.2.2)))))|(go_keep;done))
       (first|(go_at_call 67;refine(HK.out _ ?_).mono ?_;(first|exact(Below.refl _ _).drew|exact((Below.refl _ _).alloc (Nat.le_refl _) _).drew);rintro e w3 ⟨rfl,hq3,hb3⟩;have p3:=And.intro (cell_later hq3 r0) (And.intro (cell_later hq3 r1) (And.intro (cell_later hq3 c1) (And.intro (cell_later hq3 y2') (cell_later hq3 z1))));try (have D9:=(hb3.block wr.heap.size (by simp)).trans (heap_alloc_new wr (.cells #[.int .i64 0,.string ⟨#[]⟩,.string ⟨#[]⟩,.int .i64 0] 136));obtain⟨Xz,XB,XC,XE,XF⟩:=mW D9)))
      ·clear r0 r1 c1 y2' z1 p3
       go_wp2_with fail
       go_meet
       exact⟨w3.heap.size,rfl,heap_alloc_new _ _,hq3.alloc hq3.size _⟩
      ·obtain⟨S3,So,_⟩:=wM D9 (.int .i64 tk) (.string ⟨tl.toArray⟩) (.string ⟨tt.toArray⟩) (.int .i64 tp)
       clear r0 r1 c1 y2' z1 p3 Xz XB XC XE XF;go_wp2_with fail
       go_meet
       exact⟨wr.heap.size,rfl,S3,(((hq3.setCell (Nat.le_refl _) _).setCell (Nat.le_refl _) _).setCell (Nat.le_refl _) _).setCell (Nat.le_refl _) _⟩
     case rest =>
      obtain⟨Y,rfl,hY,hbc⟩:=hcut
      obtain⟨wt,rfl⟩:∃ wt:World,wt=wc:=⟨_,rfl⟩
      have Ja:=(hbc.block (qb+1) adW).trans hpb;obtain⟨d0,d1,dz⟩:=aX Ja;obtain⟨f2,f3⟩:=sD hY
      have Ut:(pp.imports.take j).length=j:=by rw[List.length_take];omega
      obtain⟨_,_,hsl⟩:=hown0.slice;rw[Ut] at hsl
      obtain⟨-,rfl,-⟩:_∧ni=j∧_:=by simpa using hsl
      obtain⟨Jj,h1,hown,hes⟩:=hown0;rw[Ut] at hown;have hzt:=hbc.size;have HNJ:=ah Ut
      have XU:some (qb+1)≠(Value.slice ai ni ci).ownBlock:=fun q=>by have:=(hown.lt _ q.symm).1;omega
      clear Ut hsl HK hY;go_wp2_with (at_builtin;refine wpList_append_lies _ rfl _ _ 35 rfl wl.heap.size 101 ii _ 2 24 Tryz.underlying35 hii1 hii2 afm afn rfl (by decide) _ ni _ rfl ((own_below hown hbc).alloc _) ⟨wt.heap.size,0,none⟩ 1 1 [.string ⟨tt.toArray⟩,.int .i64 tp] rfl rfl ?c1 ?c2 ?c3 ?c4 ?c5 ?c6 (wt.heap.size+1) (by simp) ?_)
      case c2=>simp[Value.oneCell']
      case c4=>unfold maxLen;omega
      case c5=>omega
      case c6=>first|omega|(simp;omega)
      intro gg cap5 w5 hown5 gq xM Kn;have sZ:=(gq.block (qb+1) (by simp;omega) XU).trans ((Lib.alloc_old wt _ (qb+1) (by omega)).trans Ja);obtain⟨d0',d1',dz'⟩:=aX sZ;obtain⟨q1,q2,q3⟩:=pJ.round (K:=IA) (Q:=fun b=>wl.heap.size≤b) (wr:=wr) (kv:=.slice ai ni ci) (UL:=.slice (some ⟨gg,0,none⟩) (ni+1) cap5) (acc:=pp.imports.take ni) (a:=(tt,tp)) (x:=()) (l:=Jj) fO (show qb+1<wl.heap.size by omega) (by omega) h1 (by rw[HNJ.out];exact hown) hes trivial hbc (by rw[HNJ.out];exact hown5) gq rfl xM 0 (.slice (some ⟨gg,0,none⟩) (ni+1) cap5);have CK:(w5.setCell ⟨qb+1,0,none⟩ (.slice (some ⟨gg,0,none⟩) (ni+1) cap5)).heap[qb+1]?=some (.cells #[.slice (some ⟨gg,0,none⟩) (ni+1) cap5,.slice none 0 0] 38 (0,0)):=heap_setCell_same w5 (qb+1) 0 _ _ _ sZ;have CO:=q3 w.heap.size w hqw hbl;clear gq hown5 xM sZ Ja hes hown fO hpb d0 d1 dz f2 f3 hx y0' r0 r1 c0 c1 z1 y2' R1 R3 hbl h1 hbc;go_wp2;clear d0' d1' dz';generalize w5.setCell _ _=w6' at q1 q2 CK CO ⊢
      go_roundw
      case rel =>
       refine⟨ni+1,some ⟨gg,0,none⟩,ni+1,cap5,none,0,0,by omega,by go_num,q2,CK,.inl ⟨by omega,?_,rfl⟩,CO⟩;rw[qm.out];exact q1
      case measure=>simp[intOf];omega
    ·obtain⟨jd,rfl⟩:∃ jd,j=p.imps+jd:=⟨j - p.imps,by omega⟩
     obtain⟨hnil,w2,hw2,ha2,hri,Nf,hdo⟩:=hst.two (by have:=YI.out;omega) fO
     have hsub:p.imps+jd - pp.imports.length=jd:=by have:=YI.out;omega
     rw[hsub] at hdo;have vI:=ah hnil;have HRI:=ah hri;have HA2:=ah ha2
     rcases Nat.lt_or_ge jd p.defs.length with hjd|hjd
     ·
      obtain⟨aaC,hkj,hlj⟩:=p.Z9 jd hjd;rw[hkj] at hrep hlv;rw[hlj] at hrep hlv
      obtain⟨m,rfl⟩:∃ m:Nat,qk=(m:Int):=⟨qk.toNat,by have:=zV hrep;omega⟩
      have hok:=DZ p.defs (3 * p.imps) jd hjd HOK.out.2.2.2
      have adZ:jd<pp.defs.length:=by have:=HPD.out;omega
      have hg:=HDG.out jd hjd adZ;have hC:=zR.out p.defs[jd] _ hok hlv m wr.drew hrep (HT.out.below (hbl.mono hB).drew) (Nat.le_trans hB hbl.size);rw[← hg] at hC;have hsn:pp.defs.take (jd+1)=pp.defs.take jd++[pp.defs[jd]]:=List.take_succ_eq_append_getElem adZ;have aaV:mH nodes m (3 * p.imps+bJ (List.map dG.pt (List.take jd p.defs))) (.node 3 p.defs[jd].kids):=hrep;obtain⟨ks2,hnm,_⟩:=dY aaV;obtain⟨hm,hnm'⟩:=nY hnm;obtain⟨b',off',cap',kv',e',_,y0,_,_,_⟩:=HT.out.node hm
      obtain⟨⟨rfl,rfl⟩,rfl⟩:(b=b'∧off=off')∧cn=cap':=by simpa using e'
      rw[hnm'] at y0;simp only at y0;have y0':=(hbl.cell (p:=⟨b,off+m * 3,none⟩) (by show b<_;omega)).trans y0
      have hmI:(m:Int)<(nodes.length:Int):=by omega
      generalize pp.defs[jd]=d at hC hsn;have HC:=ah hC;have qm:=ah hsn
      have Ut:(pp.defs.take jd).length=jd:=by rw[List.length_take];omega
      obtain⟨_,_,hsl⟩:=hdo.slice;rw[Ut] at hsl
      obtain⟨-,rfl,-⟩:_∧nd=jd∧_:=by simpa using hsl
      obtain⟨Jj,h1,hown,hes⟩:=hdo;rw[Ut] at hown;have HNJ:=ah Ut
      have hlts:∀ b,some b=(Value.slice ad nd cd).ownBlock→w2.heap.size≤b∧b<wr.heap.size:=fun b q=>hown.lt b q.symm
      have XU:some (qb+1)≠(Value.slice ad nd cd).ownBlock:=fun q=>by have:=(hlts _ q).1;omega
      have HL:=ah hlts
      have hX2:qb+1<w2.heap.size:=by omega
      have hsz2:=Nf.1;clear hnil hri ha2 hst hC hsn hg hok Ut hsl hlts y0 e' hnm hnm' hrep aaV hkj hlj hlv aaC hsub;go_wp2
      go_region_law ((first
       | (refine step_append_lies _ (by rfl) _ _ _ (by rfl) w2.heap.size 48 id _ 15 208 Tryz.underlying36 afo afp afq afr rfl (by omega) (.slice ad nd cd) nd _ (by rfl) ((own_below (oq hown) hb2).alloc _) ⟨W2.heap.size,0,none⟩ 1 1 [.bool d.pub,.string ⟨d.res.name.toArray⟩,.slice ap d.params.length cp,.int .i64 d.res.base,.slice ac d.res.clause.length cc,.int .i64 d.body.op,.string ⟨d.body.name.toArray⟩,.string ⟨d.body.module.toArray⟩,.bool (decide (d.body.num<0)),.slice am wn cm,.bool d.body.yes,.slice ae d.body.kids.length ce,.int .i64 d.body.at_,.int .i64 d.res.at_,.int .i64 d.res.bare] (by rfl) (by rfl) (World.news_of_block (cs:=#[.bool d.pub,.string ⟨d.res.name.toArray⟩,.slice ap d.params.length cp,.int .i64 d.res.base,.slice ac d.res.clause.length cc,.int .i64 d.body.op,.string ⟨d.body.name.toArray⟩,.string ⟨d.body.module.toArray⟩,.bool (decide (d.body.num<0)),.slice am wn cm,.bool d.body.yes,.slice ae d.body.kids.length ce,.int .i64 d.body.at_,.int .i64 d.res.at_,.int .i64 d.res.bare]) (t:=48) (fr:=(0,0)) (heap_alloc_new W2 _)) (by simp[Value.oneCell']) (by omega) (by unfold maxLen;omega) (by omega) (by have:=hb2.size;simp at this ⊢;omega) (W2.heap.size+1) (by simp) ?_;intro gg cap5 w5 hown5 gq xM Kn;have sZ:=(gq.block (qb+1) (by have:=hb2.size;simp at this ⊢;omega) XU).trans ((Lib.alloc_old W2 _ (qb+1) (by have:=hb2.size;simp at this;omega)).trans CJ);have r65:=(aX sZ).2.1;have z65:=(aX sZ).2.2 1)
       | (refine uX rfl 68 _ _ rfl HC.out (by rfl) (ent _ _) ?_;rintro e W2 ⟨ap,cp,ac,cc,am,wn,cm,ae,ce,rfl,hxe,hb2⟩;refine⟨_,rfl,?_⟩;have CJ:=(hb2.block (qb+1) adW).trans hpb;have r62:=(aX CJ).2.1;have r63:=fun o=>Lib.cell?_alloc_some o r62)))
      all_goals
       obtain⟨q1,q2,q3⟩:=pJ.round (K:=DA) (Q:=fun b=>w2.heap.size≤b) (wr:=wr.drew) (kv:=.slice ad nd cd) (UL:=.slice (some ⟨gg,0,none⟩) (nd+1) cap5) (acc:=pp.defs.take nd) (a:=d) (x:=⟨.slice ap d.params.length cp,.slice ac d.res.clause.length cc,.slice am wn cm,.slice ae d.body.kids.length ce⟩) (l:=Jj) (show aT _ w2 wr.drew from Nf) hX2 (by omega) h1 (by rw[HNJ.out];exact hown) (fun p hp=>DA.frame (hes p hp) (aT.drew _ wr)) (DA.imp (P:=fun b=>wr.drew.heap.size≤b) hxe fun b hb _=>⟨Nat.le_trans hsz2 hb,fun q=>by have:=(HL.out b q).2;have:wr.drew.heap.size=wr.heap.size:=rfl;omega⟩) hb2 (by rw[HNJ.out];exact hown5) gq rfl xM 1 (.slice (some ⟨gg,0,none⟩) (nd+1) cap5);have CK:(w5.setCell ⟨qb+1,1,none⟩ (.slice (some ⟨gg,0,none⟩) (nd+1) cap5)).heap[qb+1]?=some (.cells #[.slice ai ni ci,.slice (some ⟨gg,0,none⟩) (nd+1) cap5] 38 (0,0)):=heap_setCell_same w5 (qb+1) 1 _ _ _ sZ;have CO:=q3 w.heap.size w hqw hbl.drew;clear gq hown5 xM sZ r65 z65 CJ r62 r63 hxe hb2 HC hes hown fO hpb d0 d1 dz hx y0' r0 r1 c0 c1 R1 R3 hbl h1 Nf;generalize w5.setCell _ _=w6' at q1 q2 CK CO ⊢;go_wp2
       go_roundw
       case rel =>
        refine⟨p.imps+nd+1,ai,ni,ci,some ⟨gg,0,none⟩,nd+1,cap5,by omega,by go_num,?_,CK,.inr ⟨by have:=YI.out;omega,vI.out,w2,hw2,HA2.out,HRI.out,q2,?_⟩,CO⟩
        ·exact HA2.out.trans ⟨q2.1,fun b hb hl=>q2.2 b ⟨by omega,hb.2⟩ hl⟩
        ·rw[show p.imps+nd+1 - pp.imports.length=nd+1 by have:=YI.out;omega,qm.out]
         exact q1
       case measure=>simp[intOf];omega
     ·obtain⟨aaC,hkj⟩:=p.aai
      obtain rfl:jd=p.defs.length:=by have:=HKN.out;omega
      rw[hkj] at hrep;obtain⟨m,rfl,hnm⟩:=mH.Od hrep;obtain⟨hm,hnm'⟩:=nY hnm;obtain⟨b',off',cap',kv',e',_,y0,_,_,_⟩:=HT.out.node hm
      obtain⟨⟨rfl,rfl⟩,rfl⟩:(b=b'∧off=off')∧cn=cap':=by simpa using e'
      rw[hnm'] at y0;simp only at y0;have y0':=(hbl.cell (p:=⟨b,off+m * 3,none⟩) (by show b<_;omega)).trans y0
      have hmI:(m:Int)<(nodes.length:Int):=by omega
      clear hnil hri ha2 hst y0 e' hnm hnm' hrep hkj hlv aaC hsub;go_wp2
      go_roundw
      case rel =>
       refine⟨p.imps+p.defs.length+1,ai,ni,ci,ad,nd,cd,by omega,by go_num,fO,hpb,.inr ⟨by have:=YI.out;omega,vI.out,w2,hw2,HA2.out,HRI.out,Nf,?_⟩,hbl⟩;rw[show p.imps+p.defs.length+1 - pp.imports.length=pp.defs.length+1 by have:=YI.out;have:=HPD.out;omega,List.take_of_length_le (by omega)];rw[← HPD.out,List.take_length] at hdo;exact hdo
      case measure=>simp[intOf];omega
   ·
    obtain rfl:j=ks.length:=by omega
    have Ia:decide ((ks.length:Int)<(ks.length:Int))=false:=decide_eq_false (by omega);obtain⟨hnil,w2,hw2,ha2,hri,Nf,hdo⟩:=hst.two (by have:=YI.out;have:=HKN.out;omega) fO;rw[List.take_of_length_le (by have:=YI.out;have:=HPD.out;have:=HKN.out;omega)] at hdo;have hR2:=(fO.2 (w.heap.size+1) ⟨by omega,by omega⟩ (by omega)).trans H2
    have hrw:RowK IA (fun b=>wl.heap.size≤b) wr (.slice ai ni ci) pp.imports:=((hri.imp (Q:=fun b=>wl.heap.size≤b∧b<w2.heap.size∧b≠qb+1) fun b hb hl=>⟨hb,hl,by omega⟩).frame ⟨Nf.1,fun b hb hl=>Nf.2 b hb.2 hl⟩).imp fun b hb _=>hb.1
    have hrd:RowK DA (fun b=>wl.heap.size≤b) wr (.slice ad nd cd) pp.defs:=hdo.row.imp fun b hb _=>by omega
    have hod:fH DA wl.heap.size 48 wr (.slice ad nd cd) pp.defs:=hdo.base hw2;obtain⟨_,_,hs1⟩:=hrw.slice;obtain⟨_,_,hs2⟩:=hrd.slice
    obtain⟨-,rfl,-⟩:_∧ni=pp.imports.length∧_:=by simpa using hs1
    obtain⟨-,rfl,-⟩:_∧nd=pp.defs.length∧_:=by simpa using hs2
    obtain⟨d0,d1,dz⟩:=aX hpb;obtain⟨e0,e1,ez⟩:=aX hR2;clear hst hri hdo hs1 hs2 H1 H2 H3 H4 R1 R3 Nf ha2 hw2 fO hpb hR2;go_wp2;refine bodyPost_ret (v:=.tuple #[.agg #[.slice ai pp.imports.length ci,.slice ad pp.defs.length cd],.int .i64 0]) (by simp[results,Tryz.results37,go_sem,e0,e1]) rfl ⟨ai,ci,ad,cd,rfl,fun q=>hnil _ _ (by rw[q]),⟨?_,?_⟩,?_,?_⟩
    ·exact(hrw.frame ((aT.set _ fun b hb=>by show b≠w.heap.size+1;omega).trans (aT.set _ fun b hb=>by show b≠w.heap.size+1;omega))).imp fun b hb _=>by omega
    ·exact(hrd.frame ((aT.set _ fun b hb=>by show b≠w.heap.size+1;omega).trans (aT.set _ fun b hb=>by show b≠w.heap.size+1;omega))).imp fun b hb _=>by omega
    ·exact(hbl.setCell (by simp) _).setCell (by simp) _
    ·exact((hod.set (by show w.heap.size+1<_;omega) _).set (by show w.heap.size+1<_;omega) _).base (by omega)
def Ru:List Tok:=[⟨5,[],[],0⟩]
def Js:List Nd:=[⟨19,0,[]⟩,⟨1,-1,[0]⟩]
theorem Yl:iK [] 200=.good Ru Js:=by rfl
theorem ab8 (w:World) :
  Calls Tryz.prog 65 #[.agg #[.slice none 0 0,.slice none 0 0],.func (.func 36) #[] #[]] w fun e w'=>e=.returned (.bool false)∧Below w.heap.size w w':=by
 have GU:=ah (fun (W:World)=>aay (-1) W)
 have Nc:Hid (∀ W:World,Calls Tryz.prog 109 #[.agg #[.slice none 0 0,.slice none 0 0]] W fun e w'=>e=.returned (.string ⟨#[]⟩)∧Below W.heap.size W w'):=ah fun W =>
  Nb 0 (.slice none 0 0) (.slice none 0 0) [] W (by simp) (by decide) (Yh _ _ _) (Nat.zero_le _)
 have yO:=ah (fun W=>vG ⟨#[]⟩ 200 W (by omega) (by omega) (by decide));have hal:=aj w (.cells #[.slice none 0 0,.slice none 0 0] 89);have e1:=heap_alloc_new w (.cells #[.slice none 0 0,.slice none 0 0] 89);rw[show iK (ByteArray.mk #[]).data.toList 200=.good Ru Js from Yl] at yO
 obtain⟨D,G⟩:∃ D,Aw Ru Js D:=by
  obtain⟨p,G⟩:=GK (by omega) Yl;exact⟨_,G.good⟩
 have hft:=G.Tp;have hfn:=G.few;obtain⟨XD,hXD,eX⟩:=iR D;generalize Ru=toks at yO G hft;generalize Js=nodes at yO G hfn
 have ab9:Hid (∀ (B:Nat) (at_:Option Addr) (ct:Nat) (an:Option Addr) (cn:Nat) (W:World),aO B W (.agg #[.slice at_ toks.length ct,.slice an nodes.length cn]) toks nodes→B≤W.heap.size→Calls Tryz.prog 108 #[.agg #[.slice at_ toks.length ct,.slice an nodes.length cn],.int .i64 ((nodes.length:Int) - 1)] W fun e w'=>e=.returned (.tuple #[.string XD,.int .i64 0])∧Below W.heap.size W w') :=
  ah fun B at_ ct an cn W hT hBW=>(Na G B _ _ W hT hBW).mono fun e w' h=>⟨by rw[h.1,eX],h.2⟩
 clear G hXD eX;go_enter Tryz.func65,Tryz.ntmps65
 go_upto_region 1 with fail
 generalize w.alloc _=w1 at hal e1 ⊢;obtain⟨c0,c1⟩:=bL e1;have hl1:=(bQ e1).1
 go_cut [5,6] (fun a e wx=>a=.string ⟨#[]⟩∧e=.int .i64 10∧wx.heap[w.heap.size]?=some (.cells #[.slice none 0 0,.slice none 0 0] 89 (0,0))∧Below w.heap.size w wx)
 case first =>
  go_region_with (first|(go_at_call 66;refine(rH none 0 0 none 0 0 _ (by omega)).mono ?_;rintro e w5 ⟨rfl,hb5⟩;have d0:=(hb5.cell (p:=⟨w.heap.size,0,none⟩) hl1).trans c0;have d1:=(hb5.cell (p:=⟨w.heap.size,1,none⟩) hl1).trans c1)|(go_at_call 108;refine(GU.out _).mono ?_;rintro e w6 ⟨rfl,hb6⟩))
  all_goals
   have qy:=hal.drew.trans (hb5.mono hal.size);have T6:=(hb6.block w.heap.size (Nat.lt_of_lt_of_le hl1 hb5.size)).trans ((hb5.block w.heap.size hl1).trans e1);go_wp2_with fail
   go_meet
   exact⟨rfl,rfl,T6,qy.trans (hb6.mono qy.size)⟩
 case rest =>
  obtain⟨rfl,rfl,hT,hbc⟩:=hcut;clear hal e1 c0 c1 hl1 w1
  obtain⟨wo,rfl⟩:∃ wo:World,wo=wc:=⟨_,rfl⟩
  obtain⟨c0,c1⟩:=bL hT
  go_upto_region 3 with (first|(go_at_call 109;refine(Nc.out _).mono ?_;rintro e w7 ⟨rfl,sI⟩)|(go_at_call 36;refine(yO.out _).mono ?_;rintro e w8 ⟨j3,a8,c8,b8,d8,rfl,ht8⟩))
  have Qk:=(hbc.trans (sI.mono hbc.size))
  have Jr:=Qk.trans (j3.mono Qk.size);have tu:=(aj w8 (.cells #[.slice a8 toks.length c8,.slice b8 nodes.length d8] 89)).alloc (by simp) (.cells #[.int .i64 0,.int .i64 0] 75);have UY:=(Lib.alloc_old (w8.alloc (.cells #[.slice a8 toks.length c8,.slice b8 nodes.length d8] 89)) (.cells #[.int .i64 0,.int .i64 0] 75) w8.heap.size (by simp)).trans (heap_alloc_new w8 (.cells #[.slice a8 toks.length c8,.slice b8 nodes.length d8] 89));have hU:=ah (ht8.at.below tu);have yR:=Jr.trans (tu.mono Jr.size);have Yj:=tu.size;clear sI j3 tu ht8 Qk hT hbc c0 c1 Nc yO GU;generalize w8.heap.size=ub at UY hU Yj Jr ⊢;generalize (w8.alloc _).alloc _=w9 at UY hU yR Yj ⊢;obtain⟨c0,c1⟩:=bL UY;have YC:=(bQ UY).1
  go_cut [9,10] (fun a e wx=>Below w.heap.size w wx)
  case first =>
   go_region_with (first|(go_at_call 66;refine(rH a8 toks.length c8 b8 nodes.length d8 _ (by omega)).mono ?_;rintro e w5 ⟨rfl,hb5⟩;have d0:=(hb5.cell (p:=⟨ub,0,none⟩) YC).trans c0;have d1:=(hb5.cell (p:=⟨ub,1,none⟩) YC).trans c1)|(go_at_call 108;refine(ab9.out ub a8 c8 b8 d8 _ (hU.out.below (((Below.refl w9.heap.size w9).drew.trans hb5).mono Yj)) (Nat.le_trans Yj hb5.size)).mono ?_;rintro e w6 ⟨rfl,hb6⟩))
   all_goals
    have qy:=(Below.refl w9.heap.size w9).drew.trans hb5;go_wp2_with fail
    go_meet
    exact yR.trans ((qy.trans (hb6.mono qy.size)).mono yR.size)
  case rest =>
   clear c0 c1 YC UY yR Jr;go_wp2;go_ret;exact⟨rfl,hcut⟩
theorem Uy (w:World) :
  Calls Tryz.prog 37 #[.agg #[.slice none 0 0,.slice none 0 0]] w fun e w'=>e=.returned (.tuple #[.agg #[.slice none 0 0,.slice none 0 0],.int .i64 10])∧Below w.heap.size w w':=by
 have HA:=ah (fun W=>ab8 W);have hal:=(aj w (.cells #[.slice none 0 0,.slice none 0 0] 89)).alloc (by simp) (.cells #[.slice none 0 0,.slice none 0 0] 38);have e1:=(Lib.alloc_old (w.alloc (.cells #[.slice none 0 0,.slice none 0 0] 89)) (.cells #[.slice none 0 0,.slice none 0 0] 38) w.heap.size (by simp)).trans (heap_alloc_new w (.cells #[.slice none 0 0,.slice none 0 0] 89));have e2:=heap_alloc_new (w.alloc (.cells #[.slice none 0 0,.slice none 0 0] 89)) (.cells #[.slice none 0 0,.slice none 0 0] 38);rw[World.size_alloc] at e2;obtain⟨c0,c1⟩:=bL e1;go_enter Tryz.func37,Tryz.ntmps37
 go_upto_region 2 with (go_at_call 65;refine(HA.out _).mono ?_;rintro e w3 ⟨rfl,hb3⟩)
 have E2:=(hb3.block (w.heap.size+1) (by simp)).trans e2;have hb4:=hal.trans (hb3.mono (by simp;omega));clear hb3 e1 e2 hal HA c0 c1;obtain⟨d0,d1,dz⟩:=aX E2;go_wp2;refine bodyPost_ret (v:=.tuple #[.agg #[.slice none 0 0,.slice none 0 0],.int .i64 10]) (by simp[results,Tryz.results37,go_sem,d0,d1]) rfl ⟨rfl,?_⟩;exact(hb4.setCell (by simp) _).setCell (by simp) _
def Jt (p:PP)(w:World)(e:Ending)(w':World):Prop :=
 ∃ ai ci ad cd,e=.returned (.tuple #[.agg #[.slice ai p.imports.length ci,.slice ad p.defs.length cd],.bool true])∧Iu (fun b=>w.heap.size≤b) w' (.slice ai p.imports.length ci) (.slice ad p.defs.length cd) p∧Below w.heap.size w w'∧fH DA w.heap.size 48 w' (.slice ad p.defs.length cd) p.defs
theorem Ju (s:ByteArray)(w:World)(hs:s.size≤65536)(toks:List Tok)(nodes:List Nd)(p:j4)(h:iK s.data.toList 60=.good toks nodes)(F:nP s.data.toList toks nodes p) :
  Calls Tryz.prog 24 #[.string s] w (Jt (p.pp toks) w):=by
 have HF:=ah (fun W=>vG s 60 W (by omega) (by omega) (by omega));rw[h] at HF;have HO:=ah (fun B at_ ct an cn W hT hB=>ab6 B at_ ct an cn s toks nodes p W hT hB F);generalize p.pp toks=pp at HO ⊢;have ED:=aj w (.cells #[.slice none 0 0,.slice none 0 0] 38);have e0:=heap_alloc_new w (.cells #[.slice none 0 0,.slice none 0 0] 38);clear h F;go_enter Tryz.func24,Tryz.ntmps24
 go_upto_region 2 with (go_at_call 36;refine(HF.out _).mono ?_;rintro e w2 ⟨hb2,at_,ct,an,cn,rfl,hty⟩)
 have hb3:=(aj w2 (.cells #[.slice at_ toks.length ct,.slice an nodes.length cn] 89)).alloc (by simp) (.cells #[.int .i64 0,.int .i64 0] 75);have e1:=(Lib.alloc_old (w2.alloc (.cells #[.slice at_ toks.length ct,.slice an nodes.length cn] 89)) (.cells #[.int .i64 0,.int .i64 0] 75) w2.heap.size (by simp)).trans (heap_alloc_new w2 (.cells #[.slice at_ toks.length ct,.slice an nodes.length cn] 89));have e2:=heap_alloc_new (w2.alloc (.cells #[.slice at_ toks.length ct,.slice an nodes.length cn] 89)) (.cells #[.int .i64 0,.int .i64 0] 75);rw[World.size_alloc] at e2;have e02:=(hb2.block w.heap.size (by simp)).trans e0;have hl2:=(bQ e02).1;have e03:=(hb3.block w.heap.size hl2).trans e02;have hbw:=(ED.trans (hb2.mono ED.size)).trans (hb3.mono (ED.trans (hb2.mono ED.size)).size);have hT:=hty.at.below hb3
 have hs3:w2.heap.size+1<((w2.alloc (.cells #[.slice at_ toks.length ct,.slice an nodes.length cn] 89)).alloc (.cells #[.int .i64 0,.int .i64 0] 75)).heap.size:=by simp
 clear hb2 hb3 HF hty e02 e0 ED;generalize (w2.alloc _).alloc _=w3 at e1 e2 e03 hbw hT hs3 ⊢;generalize w2.heap.size=tb at e1 e2 hT hs3 hl2 ⊢;obtain⟨c0,c1⟩:=bL e1;have HOx:=ah (HO.out tb at_ ct an cn w3 hT (by omega));clear e1 HO
 go_upto_region 3 with (go_at_call 37;refine HOx.out.mono ?_;rintro e w4 ⟨ai,ci,ad,cd,rfl,hn4,oC,hb4,KG⟩)
 have qM:=hbw.trans (hb4.mono hbw.size);have hb5:=qM.alloc qM.size (.cells #[.slice ai pp.imports.length ci,.slice ad pp.defs.length cd] 38);have Bh:=hb4.alloc hb4.size (.cells #[.slice ai pp.imports.length ci,.slice ad pp.defs.length cd] 38);have g5:=heap_alloc_new w4 (.cells #[.slice ai pp.imports.length ci,.slice ad pp.defs.length cd] 38);have f5:=(Bh.block (tb+1) hs3).trans e2;have r5:=(Bh.block w.heap.size (by omega)).trans e03;have rV:=oC.frame (aT.of (aj w4 (.cells #[.slice ai pp.imports.length ci,.slice ad pp.defs.length cd] 38)));have Yy:=KG.below (aj w4 (.cells #[.slice ai pp.imports.length ci,.slice ad pp.defs.length cd] 38));clear c0 c1 HOx hT oC hb4 qM hbw hn4 KG Bh e2 e03;generalize w4.alloc _=w5 at hb5 g5 f5 r5 rV Yy ⊢;generalize w4.heap.size=pb at g5 ⊢
 have hw3:w.heap.size<w3.heap.size:=by omega
 obtain⟨a0,a1,-⟩:=aX g5;obtain⟨f0,f1,-⟩:=cK f5;obtain⟨r0,r1,rz⟩:=aX r5;clear g5 f5;go_wp2;refine bodyPost_ret (v:=.tuple #[.agg #[.slice ai pp.imports.length ci,.slice ad pp.defs.length cd],.bool true]) (by simp[results,Tryz.results24,go_sem,r0,r1]) rfl ⟨ai,ci,ad,cd,rfl,?_,?_,?_⟩
 ·exact(rV.frame ((aT.set _ fun b hb=>by show b≠w.heap.size;omega).trans (aT.set _ fun b hb=>by show b≠w.heap.size;omega))).imp fun b hb _=>by omega
 ·exact(hb5.setCell (Nat.le_refl _) _).setCell (Nat.le_refl _) _
 ·exact((Yy.set (by show w.heap.size<_;omega) _).set (by show w.heap.size<_;omega) _).base (by omega)
theorem Ng (s:ByteArray)(w:World)(hs:s.size≤65536)(c a:Nat)(h:iK s.data.toList 60=.bad c a) :
  Calls Tryz.prog 24 #[.string s] w fun e w'=>e=.returned (.tuple #[.agg #[.slice none 0 0,.slice none 0 0],.bool false])∧Below w.heap.size w w':=by
 have hc:=SX h;have hcI:((c:Int) == 0)=false:=beq_eq_false_iff_ne.2 (by omega);have HF:=ah (fun W=>vG s 60 W (by omega) (by omega) (by omega));rw[h] at HF;have ED:=aj w (.cells #[.slice none 0 0,.slice none 0 0] 38);have e0:=heap_alloc_new w (.cells #[.slice none 0 0,.slice none 0 0] 38);clear h hc;go_enter Tryz.func24,Tryz.ntmps24
 go_upto_region 2 with (go_at_call 36;refine(HF.out _).mono ?_;rintro e w2 ⟨hb2,rfl⟩)
 have hb3:=(aj w2 (.cells #[.slice none 0 0,.slice none 0 0] 89)).alloc (by simp) (.cells #[.int .i64 c,.int .i64 a] 75);have e1:=(Lib.alloc_old (w2.alloc (.cells #[.slice none 0 0,.slice none 0 0] 89)) (.cells #[.int .i64 c,.int .i64 a] 75) w2.heap.size (by simp)).trans (heap_alloc_new w2 (.cells #[.slice none 0 0,.slice none 0 0] 89));have e2:=heap_alloc_new (w2.alloc (.cells #[.slice none 0 0,.slice none 0 0] 89)) (.cells #[.int .i64 c,.int .i64 a] 75);rw[World.size_alloc] at e2;have e02:=(hb2.block w.heap.size (by simp)).trans e0;have hl2:=(bQ e02).1;have e03:=(hb3.block w.heap.size hl2).trans e02;have hbw:=(ED.trans (hb2.mono ED.size)).trans (hb3.mono (ED.trans (hb2.mono ED.size)).size)
 have hs3:w2.heap.size+1<((w2.alloc (.cells #[.slice none 0 0,.slice none 0 0] 89)).alloc (.cells #[.int .i64 c,.int .i64 a] 75)).heap.size:=by simp
 clear hb2 hb3 HF e02 e0 ED;generalize (w2.alloc _).alloc _=w3 at e1 e2 e03 hbw hs3 ⊢;generalize w2.heap.size=tb at e1 e2 hs3 hl2 ⊢;obtain⟨c0,c1⟩:=bL e1;clear e1
 go_upto_region 3 with (go_at_call 37;refine(Uy _).mono ?_;rintro e w4 ⟨rfl,hb4⟩)
 have qM:=hbw.trans (hb4.mono hbw.size);have hb5:=qM.alloc qM.size (.cells #[.slice none 0 0,.slice none 0 0] 38);have Bh:=hb4.alloc hb4.size (.cells #[.slice none 0 0,.slice none 0 0] 38);have g5:=heap_alloc_new w4 (.cells #[.slice none 0 0,.slice none 0 0] 38);have f5:=(Bh.block (tb+1) hs3).trans e2;have r5:=(Bh.block w.heap.size (by omega)).trans e03;clear c0 c1 hb4 qM hbw Bh e2 e03;generalize w4.alloc _=w5 at hb5 g5 f5 r5 ⊢;generalize w4.heap.size=pb at g5 ⊢;obtain⟨a0,a1,-⟩:=aX g5;obtain⟨f0,f1,-⟩:=cK f5;obtain⟨r0,r1,rz⟩:=aX r5;clear g5 f5;go_wp2;refine bodyPost_ret (v:=.tuple #[.agg #[.slice none 0 0,.slice none 0 0],.bool false]) (by simp[results,Tryz.results24,go_sem,r0,r1]) rfl ⟨rfl,?_⟩;exact(hb5.setCell (Nat.le_refl _) _).setCell (Nat.le_refl _) _
def uQ (z:ZP)(w:World)(e:Ending)(w':World):Prop :=
 ∃ ai ci ad cd,e=.returned (.tuple #[.agg #[.slice ai z.imports.length ci,.slice ad z.defs.length cd],.bool true])∧Below w.heap.size w w'∧fH Q0 w.heap.size 48 w' (.slice ad z.defs.length cd) z.defs
theorem Jt.z {p:PP}{w:World}{e:Ending}{w':World}(h:Jt p w e w'):uQ p.z w e w':=by
 obtain⟨ai,ci,ad,cd,h1,h2,h3,h4⟩:=h;have e1:p.z.imports.length=p.imports.length:=List.length_map _;have e2:p.z.defs.length=p.defs.length:=List.length_map _;refine⟨ai,ci,ad,cd,by rw[e1,e2];exact h1,h3,?_⟩;rw[e2];exact aas h4
theorem Aa (s:ByteArray)(w:World)(hs:s.size≤65536)(toks:List Tok)(nodes:List Nd)(p:j4)(h:iK s.data.toList 60=.good toks nodes)(F:nP s.data.toList toks nodes p) :
  Calls Tryz.prog 24 #[.string s] w (uQ (p.pp toks).z w):=(Ju s w hs toks nodes p h F).mono fun _ _ h=>h.z
theorem fH.Uz {α β:Type}{K:RK α β}{C e:Nat}{w:World}{v:Value}{zs:List α}(h:fH K C e w v zs):RowK K (fun b=>b<w.heap.size) w v zs:=h.row.imp fun b _ hl=>hl
theorem jX (w:World):Calls Tryz.prog 23 #[] w fun r w'=>r=.returned (.bool true)∧Below w.heap.size w w':=by
 have t1:(ByteArray.mk #[102,117,110,32,102,40,120,58,105,110,116,41,58,105,110,116,61,121,59]).data.toList=anS 121:=rfl;have HR1:=ah (fun W=>Aa ⟨#[102,117,110,32,102,40,120,58,105,110,116,41,58,105,110,116,61,121,59]⟩ W (by decide) (UU 121) (Rq.pt.em 0 0) Rq (by rw[t1];exact MW) (by rw[t1];exact MZ));have t2:(ByteArray.mk #[102,117,110,32,102,40,120,58,105,110,116,41,58,105,110,116,61,120,59]).data.toList=anS 120:=rfl;have HR2:=ah (fun W=>Aa ⟨#[102,117,110,32,102,40,120,58,105,110,116,41,58,105,110,116,61,120,59]⟩ W (by decide) (UU 120) (Rq.pt.em 0 0) Rq (by rw[t2];exact MX) (by rw[t2];exact M0))
 have HC:Hid (∀ (p:j4) (toks:List Tok) (nodes:List Nd) (S:List UInt8) (c:UInt8) (f:Fl),nP S toks nodes p→S.length≤1000→(p.pp toks).z=anZ c→(anZ c).check [109] []=f→∀ (ai:Option Addr) (ci:Nat) (ad:Option Addr) (cd:Nat) (W:World),RowK Q0 (fun b=>b<W.heap.size) W (.slice ad 1 cd) (anZ c).defs →
   Calls Tryz.prog 25 #[.string ⟨#[109]⟩,.agg #[.slice ai 0 ci,.slice ad 1 cd],.slice none 0 0] W fun e w'=>e=.returned (.agg #[.int .i64 (JE f),.int .i64 (JF f)])∧Below W.heap.size W w'):=ah fun p toks nodes S c f F hS hz hf ai ci ad cd W hD=>by
  have h:=wZ [109] (anZ c) ai ci ad cd none 0 [] W rfl (by rw[← hz];exact(F.mid hS).pq) (by decide) hD (RowK.nil _ _ _) ⟨by decide,fun m hm=>by cases hm⟩;rw[hf] at h;exact h
 have EU:=ah (HC.out Rq (UU 121) _ _ 121 (some (31,17)) MZ (by decide) (ab3 _) Ur);have zi:=ah (HC.out Rq (UU 120) _ _ 120 none M0 (by decide) (ab3 _) Us);rw[ab3] at HR1 HR2;clear HC t1 t2;go_enter Tryz.func23,Tryz.ntmps23
 go_upto_region 2 with (go_at_call 24;refine(HR1.out _).mono ?_;rintro r w1 ⟨ai1,ci1,ad1,cd1,rfl,hb1,ho1⟩)
 have g1:=heap_alloc_new w1 (.cells #[.slice ai1 0 ci1,.slice ad1 1 cd1] 38);have hb2:=hb1.alloc hb1.size (.cells #[.slice ai1 0 ci1,.slice ad1 1 cd1] 38);have ho2:=ho1.below (aj w1 (.cells #[.slice ai1 0 ci1,.slice ad1 1 cd1] 38))
 have hl2:w1.heap.size<(w1.alloc (.cells #[.slice ai1 0 ci1,.slice ad1 1 cd1] 38)).heap.size:=by simp
 change Code.wp _ _ _ _ (w1.alloc (.cells #[.slice ai1 0 ci1,.slice ad1 1 cd1] 38));clear hb1 ho1 HR1;generalize w1.alloc _=w2 at g1 hb2 ho2 hl2 ⊢;generalize w1.heap.size=q1 at g1 hl2 ⊢
 go_upto_region 3 with (go_at_call 24;refine(HR2.out _).mono ?_;rintro r w3 ⟨ai2,ci2,ad2,cd2,rfl,hb3,ho3⟩)
 have g2:=heap_alloc_new w3 (.cells #[.slice ai2 0 ci2,.slice ad2 1 cd2] 38);have hb4:=hb3.alloc hb3.size (.cells #[.slice ai2 0 ci2,.slice ad2 1 cd2] 38);have KG:=ho3.below (aj w3 (.cells #[.slice ai2 0 ci2,.slice ad2 1 cd2] 38))
 have hl4:w3.heap.size<(w3.alloc (.cells #[.slice ai2 0 ci2,.slice ad2 1 cd2] 38)).heap.size:=by simp
 change Code.wp _ _ _ _ (w3.alloc (.cells #[.slice ai2 0 ci2,.slice ad2 1 cd2] 38));clear hb3 ho3 HR2;generalize w3.alloc _=w4 at g2 hb4 KG hl4 ⊢;generalize w3.heap.size=q2 at g2 hl4 ⊢;have g14:=(hb4.block q1 hl2).trans g1;have hbw:=hb2.trans (hb4.mono hb2.size);have HA1:=ah (EU.out ai1 ci1 ad1 cd1 w4 (ho2.below hb4).Uz);have HA2:Hid (∀ W,Below w4.heap.size w4 W→_):=ah (fun W hW=>zi.out ai2 ci2 ad2 cd2 W (KG.below hW).Uz);obtain⟨a0,a1,-⟩:=aX g14;obtain⟨d0,d1,-⟩:=aX g2;clear g1 g14 g2 ho2 KG hb2 hb4 EU zi;go_wp2_with (first|(go_at_call 25;refine(HA2.out _ hb5).mono ?_;rintro r w6 ⟨rfl,hb6⟩)|(go_at_call 25;refine HA1.out.mono ?_;rintro r w5 ⟨rfl,hb5⟩;have d0:=(hb5.cell (p:=⟨q2,0,none⟩) hl4).trans d0;have d1:=(hb5.cell (p:=⟨q2,1,none⟩) hl4).trans d1));go_ret;exact⟨rfl,hbw.trans ((hb5.trans (hb6.mono hb5.size)).mono hbw.size)⟩
end Go.Proofs.YtknicmmigbhpcaaGreatDoor
