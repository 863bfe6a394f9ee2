/- Walks and plain laws: ScopeW10, ScopeFit, ScopeAnc. -/
import Derived.Test.YtknicmmigbhpcaaGreatDoorF34
set_option maxHeartbeats 16000000
set_option maxRecDepth 100000
set_option linter.unusedVariables false
set_option linter.unusedSimpArgs false
namespace Go.Proofs.YtknicmmigbhpcaaGreatDoor
open Go.RowKit Go
theorem Qh (w:World):Calls Tryz.prog 52 #[] w fun e w'=>e=.returned (.pointer (some ⟨w.heap.size,0,none⟩))∧w'=w.alloc (.cells #[.slice none 0 0] 165):=by
 go_enter Tryz.func52,Tryz.ntmps52;go_wp2;go_ret;exact⟨rfl,rfl⟩
def aat (f:Fl)(w:World)(e:Ending)(w':World):Prop:=e=.returned (.agg #[.int .i64 (JE f),.int .i64 (JF f)])∧Below w.heap.size w w'
def ZP.check (p:ZP)(own:List UInt8)(ms:List (List UInt8)):Fl:=if (p.right && (aR own && og [] ms))=true then p.fI own (fun m=>decide (m∈ms)) (fun _ _=>none) else some (10,0)
theorem l6 {w:World}{b:Nat}{u v:Value}(h:w.heap[b]?=some (.cells #[u,v] 75 (0,0))):(w.cell? ⟨b,0,none⟩=some u∧w.cell? ⟨b,1,none⟩=some v)∧w.frozen? ⟨b,0,none⟩=false∧w.frozen? ⟨b,1,none⟩=false:=by
 refine⟨⟨?_,?_⟩,?_,?_⟩
 ·rw[Lib.cell_of_heap h];rfl
 ·rw[Lib.cell_of_heap h];rfl
 ·simp[World.frozen?,h]
 ·simp[World.frozen?,h]
def Um (w:World)(b:Nat)(v0 v1:Value):World:=(w.setCell ⟨b,0,none⟩ v0).setCell ⟨b,1,none⟩ v1
theorem Ev {B:Nat}{w0 w:World}(h:Below B w0 w){b:Nat}(hb:B≤b)(v0 v1:Value):Below B w0 (Um w b v0 v1):=(h.setCell hb _).setCell hb _
theorem Ew {w:World}{b:Nat}{c0 c1:Value}{T:TypeId}(h:w.heap[b]?=some (.cells #[c0,c1] T (0,0)))(v0 v1:Value):(Um w b v0 v1).heap[b]?=some (.cells #[v0,v1] T (0,0)) :=
 heap_setCell_same _ b 1 _ _ v1 (heap_setCell_same w b 0 _ _ v0 h)
theorem Ey:∀ (l:List ZD) (f:Fl) (seen:List (List UInt8)),gY f→gY (jm f seen l)
 | [],f,seen,h=>h
 | d :: l,f,seen,h=>Ey l _ _ (h.or (by split;exact gY.some (by decide);exact gY.none))
structure ZP.pq (p:ZP):Prop where
 fit:p.fit
 text:p.text.length≤1099511627776
 few:p.defs.length≤1000
 defs:∀ d∈p.defs,d.pq
theorem wZ (own:List UInt8)(p:ZP)(ai:Option Addr)(ci:Nat)(ad:Option Addr)(cd:Nat)(af:Option Addr)(cf:Nat)(ms:List (List UInt8))(w:World)(hi:p.imports=[])(hfit:p.pq)(hown:own.length≤65536)
  (hD:RowK Q0 (fun b=>b<w.heap.size) w (.slice ad p.defs.length cd) p.defs) (hF:RowK sQ (fun b=>b<w.heap.size) w (.slice af ms.length cf) ms) (hms:ms.length≤1000∧∀ m∈ms,m.length≤65536) :
  Calls Tryz.prog 25 #[.string ⟨own.toArray⟩,.agg #[.slice ai p.imports.length ci,.slice ad p.defs.length cd],.slice af ms.length cf] w (aat (p.check own ms) w):=by
 have hal:=(aj w (.cells #[.slice ai p.imports.length ci,.slice ad p.defs.length cd] 38)).alloc (by simp) (.cells #[.int .i64 0,.int .i64 0] 75);have g0:=(Lib.alloc_old (w.alloc (.cells #[.slice ai p.imports.length ci,.slice ad p.defs.length cd] 38)) (.cells #[.int .i64 0,.int .i64 0] 75) w.heap.size (by simp)).trans (heap_alloc_new w (.cells #[.slice ai p.imports.length ci,.slice ad p.defs.length cd] 38));have g1:=heap_alloc_new (w.alloc (.cells #[.slice ai p.imports.length ci,.slice ad p.defs.length cd] 38)) (.cells #[.int .i64 0,.int .i64 0] 75);rw[World.size_alloc] at g1;have HD:=ah hD;have HFC:=ah hF;have DJ:=ah hfit;have HMS:=ah hms;have HI:=ah hi;have hdn:=hfit.few;have Wx:=ah (show p.imports.length=0 by rw[hi];rfl);clear hD hF hfit hms hi
 obtain⟨R,hR⟩:∃ R,R=p.check own ms:=⟨_,rfl⟩
 rw[← hR];have HRR:=ah hR;clear hR;go_enter Tryz.func25,Tryz.ntmps25
 go_upto_region 1 with fail
 change Code.wp _ _ _ _ ((w.alloc (.cells #[.slice ai p.imports.length ci,.slice ad p.defs.length cd] 38)).alloc (.cells #[.int .i64 0,.int .i64 0] 75));generalize (w.alloc (.cells #[.slice ai p.imports.length ci,.slice ad p.defs.length cd] 38)).alloc (.cells #[.int .i64 0,.int .i64 0] 75)=w1 at *;have hz1:=hal.size;have hl1:=(bQ g1).1;obtain⟨y0,y1⟩:=dW g0
 have hn0:w.heap.size<w1.heap.size:=by omega
 have HG:=ah (And.intro g0 g1);clear g0 g1
 go_cut [7] (fun q wc=>∃ lb db,q=.pointer (some ⟨lb,0,none⟩)∧kM ⟨own,.slice ai p.imports.length ci,.slice ad p.defs.length cd,.slice af ms.length cf,db⟩ lb (.slice none 0 0) none wc∧wH w1.heap.size db (.slice none 0 0) [] wc∧Below w1.heap.size w1 wc∧w1.heap.size≤db∧w1.heap.size≤lb∧lb≠db)
 case first =>
  go_region_with (go_at_call 52;refine(Qh _).mono ?_;rintro e w2 ⟨rfl,rfl⟩)
  all_goals
   go_wp2_with fail
   go_meet
   have hA:=heap_alloc_new (w1.alloc (.cells #[.slice none 0 0] 165)) (.cells #[.string ⟨own.toArray⟩,.slice ai p.imports.length ci,.slice ad p.defs.length cd,.slice af ms.length cf,.slice none 0 0,.pointer (some ⟨w1.heap.size,0,none⟩),.int .i64 0,.int .i64 0] 116);rw[World.size_alloc] at hA;have hB:=(Lib.alloc_old (w1.alloc (.cells #[.slice none 0 0] 165)) (.cells #[.string ⟨own.toArray⟩,.slice ai p.imports.length ci,.slice ad p.defs.length cd,.slice af ms.length cf,.slice none 0 0,.pointer (some ⟨w1.heap.size,0,none⟩),.int .i64 0,.int .i64 0] 116) w1.heap.size (by simp)).trans (heap_alloc_new w1 (.cells #[.slice none 0 0] 165));exact⟨w1.heap.size+1,w1.heap.size,rfl,hA,⟨Ab.nil 4,hB,World.ownsRow_nil _ _ _ _⟩,((aj w1 (.cells #[.slice none 0 0] 165)).alloc (by simp) (.cells #[.string ⟨own.toArray⟩,.slice ai p.imports.length ci,.slice ad p.defs.length cd,.slice af ms.length cf,.slice none 0 0,.pointer (some ⟨w1.heap.size,0,none⟩),.int .i64 0,.int .i64 0] 116)).drew,Nat.le_refl _,by omega,by omega⟩
 case rest =>
  obtain⟨lb,db,rfl,hL2,hM2,hqc,hdb,hlb,hne⟩:=hcut
  obtain⟨w2,rfl⟩:∃ w2:World,w2=wc:=⟨_,rfl⟩
  clear y0 y1;have hzc:=hqc.size;have hbw2:=hal.trans (hqc.mono hz1);have af9:=hL2.lt;have gp2:=(hqc.block _ (by omega)).trans HG.out.1;have gr2:=(hqc.block _ hl1).trans HG.out.2
  have hpr:TU p w.heap.size ai ad w2:=by
   obtain⟨ao,cap,hv,hdz⟩:=TT (Nat.le_refl _) HD.out;simp only[Value.slice.injEq] at hv;obtain⟨rfl,-,rfl⟩:=hv;exact⟨fun h0=>absurd h0 (by have:=Wx.out;omega),hdz.qw hbw2,hbw2.size⟩
  have HRT:=ah (PV own db lb w.heap.size (.slice none 0 0) none p ai ci ad cd af cf ms w2 hL2 DJ.out.fit hpr DJ.out.text ((RowK.frame HFC.out (aT.of hbw2)).imp fun _ _ _=>trivial) HMS.out hown);have HL2:=ah hL2;have KI:=ah hM2;have HG2:=ah (And.intro gp2 gr2);obtain⟨⟨r0,r1⟩,rz0,rz1⟩:=l6 gr2;obtain⟨y0,y1⟩:=dW gp2
  obtain⟨rt,hrt⟩:∃ rt,rt=(p.right && (aR own && og [] ms)):=⟨_,rfl⟩
  rw[← hrt] at HRT;have HRI:=ah hrt;clear hrt hL2 hM2 gp2 gr2 hpr HG
  cases rt with
  | false =>
   have HE:Hid (R=some (10,0)):=ah (by rw[HRR.out,ZP.check,← HRI.out];rfl);clear HRR
   go_upto_region 3 with (go_at_call 53;refine HRT.out.mono ?_;rintro e w3 ⟨rfl,hb3⟩)
   clear r0 r1 rz0 rz1 y0 y1;have gr3:=(hb3.block _ (by omega)).trans HG2.out.2;obtain⟨⟨r0,r1⟩,rz0,rz1⟩:=l6 gr3;have Sb:=Ev (hbw2.trans (hb3.mono hbw2.size)) (by omega:w.heap.size≤w.heap.size+1) (.int .i64 10) (.int .i64 0);have hP:=Ew gr3 (.int .i64 10) (.int .i64 0);have HP:=ah hP;have HB:=ah Sb;clear hP Sb gr3;go_wp2;change bodyPost _ _ _ _ _ (Um w3 (w.heap.size+1) (.int .i64 10) (.int .i64 0));generalize Um w3 _ _ _=w4 at *;obtain⟨⟨d0,d1⟩,-⟩:=l6 HP.out;exact bodyPost_ret (v:=.agg #[.int .i64 10,.int .i64 0]) (by simp[results,Tryz.results25,go_sem,d0,d1]) rfl ⟨by rw[HE.out];rfl,HB.out⟩
  | true =>
   have HE:Hid (R=p.fI own (fun m=>decide (m∈ms)) (fun _ _=>none)):=ah (by rw[HRR.out,ZP.check,← HRI.out];rfl);clear HRR
   go_upto_region 4 with (go_at_call 53;refine HRT.out.mono ?_;rintro e w3 ⟨rfl,hb3⟩)
   clear r0 r1 rz0 rz1 y0 y1;have hz3:=hb3.size;have gp3:=(hb3.block _ (by omega)).trans HG2.out.1;have gr3:=(hb3.block _ (by omega)).trans HG2.out.2;have sV:=hbw2.trans (hb3.mono hbw2.size);have Nn:=ah (HL2.out.below hb3);have HM3:=ah (KI.out.below hb3);have HG3:=ah (And.intro gp3 gr3);obtain⟨y0,y1⟩:=dW gp3;clear gp3 gr3 HG2 HL2 KI HRT
   have ae8:¬ ((0:Int)<(p.imports.length:Int)):=by have:=Wx.out;omega
   go_wp2
   go_loopw [9,29] (fun _ q wr=>q=.int .i64 0∧wr=w3) (fun _ _ _=>0)
   case atStart=>exact⟨rfl,rfl⟩
   case round =>
    obtain⟨rfl,rfl⟩:=hrel;clear y0 y1;obtain⟨y0,y1⟩:=dW HG3.out.1
    have hL0:∃ ml,lZ ml ([]:List ZD)∧ml.length≤0:=⟨[],lZ.nil,Nat.le_refl _⟩
    clear hL0
    obtain⟨b0,hb0⟩:∃ n:Nat,n=p.defs.length:=⟨_,rfl⟩
    go_upto_region 10 with fail
    clear y0 y1 ae8 hb0 b0
    rename ¬ (0<p.imports.length)=>hq0
    clear hq0
    go_loopw [11,12,13,40] (fun _ _ _ q wr=>∃ (k:Nat) (mv:Value) (ml:ML) (f1:Fl),k≤p.defs.length∧q=.int .i64 k∧f1=jm none [] (p.defs.take k)∧kM ⟨own,.slice ai p.imports.length ci,.slice ad p.defs.length cd,.slice af ms.length cf,db⟩ lb (.slice none 0 0) f1 wr∧wH w1.heap.size db mv ml wr∧ml.length≤k∧lZ ml (p.defs.take k)∧wr.heap[w.heap.size]?=some (.cells #[.slice ai p.imports.length ci,.slice ad p.defs.length cd] 38 (0,0))∧wr.heap[w.heap.size+1]?=some (.cells #[.int .i64 0,.int .i64 0] 75 (0,0))∧Below w.heap.size w wr∧w1.heap.size≤wr.heap.size) (fun _ _ _ q _=>p.defs.length - (intOf q).toNat)
    case atStart=>exact⟨0,_,[],none,Nat.zero_le _,rfl,rfl,Nn.out,HM3.out,Nat.le_refl _,lZ.nil,HG3.out.1,HG3.out.2,sV,Nat.le_trans hzc hz3⟩
    case round =>
     obtain⟨k,mv,ml,f1,hk,rfl,hf1,hlr,hmr,hml,hinv,gp,gr,hbl,hw1⟩:=hrel;have I6:=hbl.size;have Bv:=ah hlr;have HMR:=ah hmr;have Un:=ah hinv;have UO:=ah (And.intro gp gr);have GA:=ah hf1;have TN:=hlr.lt;have aga:=(bQ hmr.box).1
     have Ms:gY f1:=by rw[hf1];exact Ey _ _ _ gY.none
     have TM:=ah Ms;clear hlr hmr hinv gp gr hf1 Ms
     by_cases hlt:k<p.defs.length
     ·obtain⟨_,_,hvv,_,hdf⟩:=HD.out.form
      simp only[Value.slice.injEq] at hvv;obtain⟨rfl,-,rfl⟩:=hvv;obtain⟨b,off,rfl,hPb,hbw,nN⟩:=hdf (by omega);obtain⟨⟨pv,cv,mg,kv⟩,⟨h5,h7,h8⟩,hc⟩:=nN k hlt;obtain⟨ap,cp,rfl⟩:=RowK.slice h5;obtain⟨ac,cc,rfl⟩:=RowK.slice h7;obtain⟨am,wn,cm,ae,ce,rfl,rfl⟩:=nM.ZE h8
      have hcr:∀ (j:Nat) (u:Value),w.cell? ⟨b,off+k * 15+j,none⟩=some u→wr.cell? ⟨b,off+k * 15+j,none⟩=some u:=fun j u h=>(hbl.cell (p:=⟨b,off+k * 15+j,none⟩) hbw).trans h
      have x0:=hcr 0 _ (hc 0 _ rfl);have x1:=hcr 1 _ (hc 1 _ rfl);have x2:=hcr 2 _ (hc 2 _ rfl);have x3:=hcr 3 _ (hc 3 _ rfl);have x4:=hcr 4 _ (hc 4 _ rfl);have x5:=hcr 5 _ (hc 5 _ rfl);have x6:=hcr 6 _ (hc 6 _ rfl);have x7:=hcr 7 _ (hc 7 _ rfl);have x8:=hcr 8 _ (hc 8 _ rfl);have x9:=hcr 9 _ (hc 9 _ rfl);have x10:=hcr 10 _ (hc 10 _ rfl);have x11:=hcr 11 _ (hc 11 _ rfl);have x12:=hcr 12 _ (hc 12 _ rfl);have x13:=hcr 13 _ (hc 13 _ rfl);have x14:=hcr 14 _ (hc 14 _ rfl);rw[Nat.add_zero] at x0;simp only[dM] at x1 x6 x7;have hfd:=DJ.out.defs _ (List.getElem_mem hlt);have htk:=List.take_succ_eq_append_getElem hlt;have htw:=I5 none hlt;have Uh:=ah (And.intro htk htw);have HFD:=ah hfd;have H57:=ah (And.intro h5 h7);clear nN h5 h7 h8 hc hcr hdf hfd htk htw;generalize p.defs[k]=d at *;have z8:=aj wr (.cells (iY d ap cp ac cc am wn cm ae ce) 48);have gd:=heap_alloc_new wr (.cells (iY d ap cp ac cc am wn cm ae ce) 48)
      have pQ:(k:Int)<(p.defs.length:Int):=by omega
      go_upto_region 12 with fail
      change Code.wp _ _ _ _ (wr.alloc (.cells (iY d ap cp ac cc am wn cm ae ce) 48));clear x0 x1 x2 x3 x4 x5 x6 x7 x8 x9 x10 x11 x12 x13 x14
      have hdl:wr.heap.size<(wr.alloc (.cells (iY d ap cp ac cc am wn cm ae ce) 48)).heap.size:=by simp
      generalize wr.alloc (.cells (iY d ap cp ac cc am wn cm ae ce) 48)=w4 at *;have zn:=z8.size;have hL4:=Bv.out.below z8;have hM4:=HMR.out.below z8;have HL4:=ah hL4;have HM4:=ah hM4;have HGD:=ah gd;have HG4:=ah (And.intro ((z8.block _ (by omega)).trans UO.out.1) ((z8.block _ (by omega)).trans UO.out.2));have hb4:=hbl.trans (z8.mono I6);obtain⟨u0,u1,u2,u3,hgf,hone⟩:=X5 hM4.wf d.res.name;have abX:=ah (fun W (hW:Below w4.heap.size w4 W)=>(Kz w1.heap.size db mv ml d.res.name W (hM4.below hW) (by omega)).mono fun e w' q=>hgf W e w' q)
      have s0:=fun a m W=>run_store Tryz.prog W a u0 m (hone u0 (by simp))
      have s1:=fun a m W=>run_store Tryz.prog W a u1 m (hone u1 (by simp))
      have s2:=fun a m W=>run_store Tryz.prog W a u2 m (hone u2 (by simp))
      have s3:=fun a m W=>run_store Tryz.prog W a u3 m (hone u3 (by simp))
      obtain⟨m,hm⟩:∃ m,m=pK ml d.res.name:=⟨_,rfl⟩
      rw[← hm] at abX;have uI:=ah hm;have k5:=hL4.cells.1.2.2.2.2.2.1;have y1:=(aS gd).2.1
      have hne1:lb≠w4.heap.size:=by omega
      have hne2:wr.heap.size≠w4.heap.size:=by omega
      clear hL4 hM4 gd hgf hone hm Bv HMR UO
      go_cut [12,13] (fun _ v wc=>v=.bool m∧Below w4.heap.size w4 wc)
      case first =>
       go_region_held3 (fun W=>W.cell? ⟨lb,5,none⟩=some (.pointer (some ⟨db,0,none⟩))∧W.cell? ⟨wr.heap.size,1,none⟩=some (.string ⟨d.res.name.toArray⟩))
        (first|(with_reducible exact p3)|(with_reducible exact And.intro ((kP w5 w4.heap.size lb 5 _ _ _ _ hne1).trans p3.1) ((kP w5 w4.heap.size wr.heap.size 1 _ _ _ _ hne2).trans p3.2))|(go_keep;done))
        (first|(go_at_call 55;refine(abX.out _ ?_).mono ?_;(first|exact(Below.refl _ _).drew|exact((Below.refl _ _).alloc (Nat.le_refl _) _).drew);rintro e w5 ⟨rfl,hb5⟩;have vJ:Below w4.heap.size w4 w5:=(by first|exact(Below.refl _ _).drew.trans hb5|exact((Below.refl _ _).alloc (Nat.le_refl _) _).drew.trans (hb5.mono (by simp)));have p3:=And.intro (cell_later vJ k5) (cell_later vJ y1);try (have hT:=(hb5.block w4.heap.size (by simp)).trans (heap_alloc_new w4 (.cells #[.string ⟨#[]⟩,.slice none 0 0,.int .i64 0,.slice none 0 0] 31));obtain⟨⟨t0,t1,t2,t3⟩,g0,g1,g2,g3⟩:=oO hT)))
       ·clear s0 s1 s2 s3 p3
        go_wp2_with fail
        go_meet
        exact⟨rfl,vJ.alloc vJ.size _⟩
       ·clear s0 s1 s2 s3 p3
        go_wp2_with fail
        go_meet
        exact⟨rfl,jg vJ (Nat.le_refl _) u0 u1 u2 u3⟩
      case rest =>
       obtain⟨rfl,vJ⟩:=hcut
       obtain⟨w5,rfl⟩:∃ w5:World,w5=wc:=⟨_,rfl⟩
       clear k5 y1 s0 s1 s2 s3 abX;have Qz:=vJ.size;have TQ:=ah (HL4.out.below vJ);have X6:=ah (HM4.out.below vJ);have abY:=(vJ.block _ hdl).trans HGD.out;have HG5:=ah (And.intro ((vJ.block _ (by omega)).trans HG4.out.1) ((vJ.block _ (by omega)).trans HG4.out.2));have hb5:=hb4.trans (vJ.mono hb4.size);obtain⟨y0,y1,y2,y3,y4,y5,y6,y7,y8,y9,rA,rC,rD,y13,Xi⟩:=aS abY;have Xj:=ah abY;have k5:=TQ.out.cells.1.2.2.2.2.2.1;clear abY HL4 HM4 HG4 HGD
       have PL:w.heap.size≠lb:=by omega
       have ade:w.heap.size+1≠lb:=by omega
       cases m with
       | true =>
        have Ra:=ah (vE _ lb _ f1 30 d.res.at_ w5 TQ.out TM.out)
        have hnx:l7 f1 (some (30,d.res.at_))=jm none [] (p.defs.take (k+1)):=by
         have hh:=Un.out.has d.res.name;rw[← uI.out] at hh;rw[Uh.out.2,← GA.out,if_pos (of_decide_eq_true hh.symm)]
        have hiv:lZ ml (p.defs.take (k+1)):=by rw[Uh.out.1];exact Un.out.same uI.out.symm
        have Bc:=ah (And.intro hnx hiv);clear hnx hiv;go_wp2_with (go_at_call 56;refine Ra.out.mono ?_;rintro e w6 ⟨rfl,Yz,tC⟩)
        go_roundw
        case rel=>exact⟨k+1,mv,ml,_,by omega,by go_num,Bc.out.1,Yz,X6.out.alk tC.2 (fun q=>hne q.symm) (fun b hb q=>by subst q;exact own_ne X6.out.own TQ.out (by decide) hb),by omega,Bc.out.2,(tC.2.2 _ PL (by omega)).trans HG5.out.1,(tC.2.2 _ ade (by omega)).trans HG5.out.2,hb5.trans (tC.1 _ (by omega)),Nat.le_trans (Nat.le_trans hw1 (Nat.le_trans zn Qz)) tC.2.1⟩
        case measure=>simp[intOf];omega
       | false =>
        have ZW:=ah (fun W (hW:Below w5.heap.size w5 W)=>Ul (fun b=>b<w.heap.size) d ap cp ac cc am wn cm ae ce W HFD.out (RowK.frame H57.out.1 (aT.of (hb5.trans (hW.mono hb5.size)))) (RowK.frame H57.out.2 (aT.of (hb5.trans (hW.mono hb5.size)))));unfold Rp iY at ZW;have ae9:=ah (fun (W:World) (hW:Below w5.heap.size w5 W) (a6:Option Addr) (c6:Nat) (a7:Option Addr) (c7:Nat)=>Vx w1.heap.size db mv ml d.res.name (.string ⟨d.res.name.toArray⟩) (.slice a6 d.params.length c6) (.int .i64 d.res.base) (.slice a7 d.res.clause.length c7) W (X6.out.below hW) (by have:=hW.size;omega) hdb (by omega) uI.out.symm (by simp[Value.oneCell']));have agb:db<w5.heap.size:=(bQ X6.out.box).1
        have hwd:wr.heap.size≠db:=by omega
        have hOL:some lb≠mv.ownBlock:=own_ne X6.out.own TQ.out (by decide);have hOD:some wr.heap.size≠mv.ownBlock:=own_ne X6.out.own Xj.out (by decide);have hOP:some w.heap.size≠mv.ownBlock:=own_ne X6.out.own HG5.out.1 (by decide);have hOR:some (w.heap.size+1)≠mv.ownBlock:=own_ne X6.out.own HG5.out.2 (by decide)
        have HS:Hid (∀ W,aT (fun b=>b≠db∧some b≠mv.ownBlock) w5 W→((W.cell? ⟨wr.heap.size,0,none⟩=some (.bool d.pub)∧W.cell? ⟨wr.heap.size,1,none⟩=some (.string ⟨d.res.name.toArray⟩)∧W.cell? ⟨wr.heap.size,2,none⟩=some (.slice ap d.params.length cp)∧W.cell? ⟨wr.heap.size,3,none⟩=some (.int .i64 d.res.base)∧W.cell? ⟨wr.heap.size,4,none⟩=some (.slice ac d.res.clause.length cc)∧W.cell? ⟨wr.heap.size,5,none⟩=some (.int .i64 d.body.op)∧W.cell? ⟨wr.heap.size,6,none⟩=some (.string ⟨d.body.name.toArray⟩)∧W.cell? ⟨wr.heap.size,7,none⟩=some (.string ⟨d.body.module.toArray⟩)∧W.cell? ⟨wr.heap.size,8,none⟩=some (.bool (decide (d.body.num<0)))∧W.cell? ⟨wr.heap.size,9,none⟩=some (.slice am wn cm)∧W.cell? ⟨wr.heap.size,10,none⟩=some (.bool d.body.yes)∧W.cell? ⟨wr.heap.size,11,none⟩=some (.slice ae d.body.kids.length ce)∧W.cell? ⟨wr.heap.size,12,none⟩=some (.int .i64 d.body.at_)∧W.cell? ⟨wr.heap.size,13,none⟩=some (.int .i64 d.res.at_)∧W.cell? ⟨wr.heap.size,14,none⟩=some (.int .i64 d.res.bare))∧W.cell? ⟨lb,5,none⟩=some (.pointer (some ⟨db,0,none⟩)))):=ah fun W hW=>⟨aS ((hW.2 _ ⟨hwd,hOD⟩ (by omega)).trans Xj.out),((World.cell?_of_block (a:=⟨lb,5,none⟩) (hW.2 lb ⟨hne,hOL⟩ (by omega))).trans k5)⟩
        go_upto_region 15 with fail
        go_region_held3 (fun W=>(W.cell? ⟨wr.heap.size,0,none⟩=some (.bool d.pub)∧W.cell? ⟨wr.heap.size,1,none⟩=some (.string ⟨d.res.name.toArray⟩)∧W.cell? ⟨wr.heap.size,2,none⟩=some (.slice ap d.params.length cp)∧W.cell? ⟨wr.heap.size,3,none⟩=some (.int .i64 d.res.base)∧W.cell? ⟨wr.heap.size,4,none⟩=some (.slice ac d.res.clause.length cc)∧W.cell? ⟨wr.heap.size,5,none⟩=some (.int .i64 d.body.op)∧W.cell? ⟨wr.heap.size,6,none⟩=some (.string ⟨d.body.name.toArray⟩)∧W.cell? ⟨wr.heap.size,7,none⟩=some (.string ⟨d.body.module.toArray⟩)∧W.cell? ⟨wr.heap.size,8,none⟩=some (.bool (decide (d.body.num<0)))∧W.cell? ⟨wr.heap.size,9,none⟩=some (.slice am wn cm)∧W.cell? ⟨wr.heap.size,10,none⟩=some (.bool d.body.yes)∧W.cell? ⟨wr.heap.size,11,none⟩=some (.slice ae d.body.kids.length ce)∧W.cell? ⟨wr.heap.size,12,none⟩=some (.int .i64 d.body.at_)∧W.cell? ⟨wr.heap.size,13,none⟩=some (.int .i64 d.res.at_)∧W.cell? ⟨wr.heap.size,14,none⟩=some (.int .i64 d.res.bare))∧W.cell? ⟨lb,5,none⟩=some (.pointer (some ⟨db,0,none⟩)))
         (first|(with_reducible exact p3)|(go_keep;done))
         (first
          | (go_at_call 13;refine(ZW.out _ (Below.refl _ _).drew).mono ?_;rintro e w6 ⟨a6,c6,a7,c7,rfl,-,hb6⟩;have hq6:Below w5.heap.size w5 w6:=(Below.refl _ _).drew.trans hb6;have p3:=HS.out w6 (aT.of hq6))
          | (go_at_call 57;refine(ae9.out w6 hq6 a6 c6 a7 c7).mono ?_;rintro e w7 ⟨rfl,⟨mv',hM7⟩,sI,ha7⟩;have hq7:=(aT.of (P:=fun b=>b≠db∧some b≠mv.ownBlock) hq6).trans ha7;have p3:=HS.out w7 hq7))
        all_goals
         have hnx:f1=jm none [] (p.defs.take (k+1)):=by
          have hh:=Un.out.has d.res.name;rw[← uI.out] at hh;rw[Uh.out.2,← GA.out,if_neg (of_decide_eq_false hh.symm),nO]
         have hiv:lZ (qp ml d.res.name [.string ⟨d.res.name.toArray⟩,.slice a6 d.params.length c6,.int .i64 d.res.base,.slice a7 d.res.clause.length c7]) (p.defs.take (k+1)):=by rw[Uh.out.1];exact Un.out.ins uI.out.symm _ _ _ _ _
         have Bc:=ah (And.intro hnx hiv);have HM7:=ah hM7;clear hnx hiv hM7 p3 y0 y1 y2 y3 y4 y5 y6 y7 y8 y9 rA rC rD y13 Xi k5 HS;go_wp2_with fail
         go_roundw
         case rel=>exact⟨k+1,mv',_,f1,by omega,by go_num,Bc.out.1,(hq7.2 lb ⟨hne,hOL⟩ (by omega)).trans TQ.out,HM7.out,by rw[JH];omega,Bc.out.2,(hq7.2 _ ⟨by omega,hOP⟩ (by omega)).trans HG5.out.1,(hq7.2 _ ⟨by omega,hOR⟩ (by omega)).trans HG5.out.2,(hb5.trans (hq6.mono hb5.size)).trans (sI.mono hz1),Nat.le_trans (Nat.le_trans hw1 (Nat.le_trans zn Qz)) hq7.1⟩
         case measure=>simp[intOf];omega
     ·obtain rfl:k=p.defs.length:=by omega
      obtain⟨wq,rfl⟩:∃ wq:World,wq=wr:=⟨_,rfl⟩
      have ZU:decide ((p.defs.length:Int)<(p.defs.length:Int))=false:=decide_eq_false (by omega);have abZ:=GA.out;rw[List.take_length] at abZ;have X7:=Un.out;rw[List.take_length] at X7
      have hSC:ScM ⟨[],gB p.defs,fun _ _=>none⟩ ⟨own,.slice ai p.imports.length ci,.slice ad p.defs.length cd,.slice af ms.length cf,db⟩ lb w1.heap.size (.slice none 0 0) wq:=⟨⟨mv,ml,HMR.out,by omega,X7.ar⟩,fM.nil _ _,List.Pairwise.nil,Nat.zero_le _,⟨ms,Nat.le_trans HMS.out.1 (by decide),(RowK.frame HFC.out (aT.of hbl)).imp fun b hb _=>by omega⟩,rfl⟩
      have Yu:=ah hSC;have HE2:Hid (R=sw ⟨[],gB p.defs,fun _ _=>none⟩ f1 p.defs):=ah (by rw[HE.out,abZ,ZP.fI,ZP.se,HI.out];rfl);obtain⟨y0,y1⟩:=dW UO.out.1;clear hSC abZ X7 Un HE GA
      go_upto_region 18 with fail
      clear y0 y1
      go_loopw [15,72] (fun _ q wx=>∃ (k:Nat) (fk:Fl),k≤p.defs.length∧q=.int .i64 k∧fk=sw ⟨[],gB p.defs,fun _ _=>none⟩ f1 (p.defs.take k)∧gY fk∧kM ⟨own,.slice ai p.imports.length ci,.slice ad p.defs.length cd,.slice af ms.length cf,db⟩ lb (.slice none 0 0) fk wx∧cZ lb wq wx) (fun _ q _=>p.defs.length - (intOf q).toNat)
      case atStart=>exact⟨0,f1,Nat.zero_le _,rfl,rfl,TM.out,Bv.out,cZ.refl _ _⟩
      case round =>
       obtain⟨k,fk,hk2,rfl,Pg,hfo,hlx,hkx⟩:=hrel;have hzx:=hkx.2.1;have HLX:=ah hlx;have Yw:=ah Pg;have YB:=ah hfo;have afa:=hlx.lt;have ab0:Below w.heap.size w wr:=hbl.trans (hkx.1 _ (by omega));clear hlx Pg hfo
       by_cases hlt:k<p.defs.length
       ·obtain⟨_,_,hvv,_,hdf⟩:=HD.out.form
        simp only[Value.slice.injEq] at hvv;obtain⟨rfl,-,rfl⟩:=hvv;obtain⟨b,off,rfl,hPb,hbw,nN⟩:=hdf (by omega);obtain⟨⟨pv,cv,mg,kv⟩,⟨h5,h7,h8⟩,hc⟩:=nN k hlt;obtain⟨ap,cp,rfl⟩:=RowK.slice h5;obtain⟨ac,cc,rfl⟩:=RowK.slice h7;obtain⟨am,wn,cm,ae,ce,rfl,rfl⟩:=nM.ZE h8
        have hcr:∀ (j:Nat) (u:Value),w.cell? ⟨b,off+k * 15+j,none⟩=some u→wr.cell? ⟨b,off+k * 15+j,none⟩=some u:=fun j u h=>(ab0.cell (p:=⟨b,off+k * 15+j,none⟩) hbw).trans h
        have x0:=hcr 0 _ (hc 0 _ rfl);have x1:=hcr 1 _ (hc 1 _ rfl);have x2:=hcr 2 _ (hc 2 _ rfl);have x3:=hcr 3 _ (hc 3 _ rfl);have x4:=hcr 4 _ (hc 4 _ rfl);have x5:=hcr 5 _ (hc 5 _ rfl);have x6:=hcr 6 _ (hc 6 _ rfl);have x7:=hcr 7 _ (hc 7 _ rfl);have x8:=hcr 8 _ (hc 8 _ rfl);have x9:=hcr 9 _ (hc 9 _ rfl);have x10:=hcr 10 _ (hc 10 _ rfl);have x11:=hcr 11 _ (hc 11 _ rfl);have x12:=hcr 12 _ (hc 12 _ rfl);have x13:=hcr 13 _ (hc 13 _ rfl);have x14:=hcr 14 _ (hc 14 _ rfl);rw[Nat.add_zero] at x0;simp only[dM] at x1 x6 x7;have HFD:=ah (DJ.out.defs _ (List.getElem_mem hlt));have Uh:=ah (Ml ⟨[],gB p.defs,fun _ _=>none⟩ f1 hlt);have ab1:aT (fun b=>b<w.heap.size) w wr:=aT.of ab0
        have h5':=(RowK.frame h5 ab1).imp (Q:=fun b=>b≠lb) fun b hb _=>by omega
        have h7':=(RowK.frame h7 ab1).imp (Q:=fun b=>b≠lb) fun b hb _=>by omega
        have h8':=nM.imp (Q:=fun b=>b≠lb) (fun b hb _=>by omega) (nM.frame ab1 h8);have ab2:=ah (And.intro h5' (And.intro h7' h8'));clear nN h5 h7 h8 hc hcr hdf h5' h7' h8';generalize p.defs[k]=d at *;have z8:=aj wr (.cells (iY d ap cp ac cc am wn cm ae ce) 48);have gd:=heap_alloc_new wr (.cells (iY d ap cp ac cc am wn cm ae ce) 48)
        have pQ:(k:Int)<(p.defs.length:Int):=by omega
        go_upto_region 20 with fail
        change Code.wp _ _ _ _ (wr.alloc (.cells (iY d ap cp ac cc am wn cm ae ce) 48));clear x0 x1 x2 x3 x4 x5 x6 x7 x8 x9 x10 x11 x12 x13 x14;generalize wr.alloc (.cells (iY d ap cp ac cc am wn cm ae ce) 48)=w4 at *;have zn:=z8.size;have hk4:=hkx.trans (cZ.of z8 afa);have hL4:=HLX.out.below z8;have HDF:=ah (Xh _ _ lb w1.heap.size (.slice none 0 0) fk d ap cp ac cc am wn cm ae ce w4 hL4 (Yu.out.keep Bv.out hk4.2) YB.out HFD.out (RowK.frame ab2.out.1 (aT.of z8)) (RowK.frame ab2.out.2.1 (aT.of z8)) (nM.frame (aT.of z8) ab2.out.2.2));unfold iY at HDF;obtain⟨y0,y1,y2,y3,y4,y5,y6,y7,y8,y9,rA,rC,rD,y13,Xi⟩:=aS gd;have hfd:gY (AO ⟨[],gB p.defs,fun _ _=>none⟩ fk d):=((zT _ _ _ YB.out).or (o9 _ _ _ _)).or (PZ.ru _ _ _ _);have Bc:=ah (And.intro (show AO ⟨[],gB p.defs,fun _ _=>none⟩ fk d=sw ⟨[],gB p.defs,fun _ _=>none⟩ f1 (p.defs.take (k+1)) by rw[Uh.out,← Yw.out]) hfd);clear hL4 gd hfd;go_wp2_with (go_at_call 58;refine HDF.out.mono ?_;rintro e w6 ⟨rfl,Yz,tC⟩)
        go_roundw
        case rel=>exact⟨k+1,_,by omega,by go_num,Bc.out.1,Bc.out.2,Yz,hk4.trans tC⟩
        case measure=>simp[intOf];omega
       ·obtain rfl:k=p.defs.length:=by omega
        have pQ:decide ((p.defs.length:Int)<(p.defs.length:Int))=false:=decide_eq_false (by omega);have HE3:Hid (R=fk):=ah (by rw[HE2.out,Yw.out,List.take_length]);have afb:=(bQ UO.out.2).1;have gr9:=(hkx.2.2 (w.heap.size+1) (by omega) afb).trans UO.out.2;obtain⟨⟨r0,r1⟩,rz0,rz1⟩:=l6 gr9;obtain⟨⟨k0,k1,k2,k3,k4,k5,k6,k7⟩,-⟩:=HLX.out.cells;have HP:=ah (Ew gr9 (.int .i64 (JE fk)) (.int .i64 (JF fk)));have HB:=ah (Ev ab0 (by omega:w.heap.size≤w.heap.size+1) (.int .i64 (JE fk)) (.int .i64 (JF fk)));clear gr9 Yw;go_wp2;change bodyPost _ _ _ _ _ (Um wr (w.heap.size+1) (.int .i64 (JE fk)) (.int .i64 (JF fk)));generalize Um wr _ _ _=w9 at *;obtain⟨⟨d0,d1⟩,-⟩:=l6 HP.out;exact bodyPost_ret (v:=.agg #[.int .i64 (JE fk),.int .i64 (JF fk)]) (by simp[results,Tryz.results25,go_sem,d0,d1]) rfl ⟨by rw[HE3.out],HB.out⟩
end Go.Proofs.YtknicmmigbhpcaaGreatDoor

namespace Go.Proofs.YtknicmmigbhpcaaGreatDoor
theorem Ez {α β:Type}(f:α→List β)(K:Nat):∀ l:List α,(∀ x∈l,(f x).length≤K)→(l.flatMap f).length≤l.length * K
 | [],_=>by simp
 | x :: l,h=>by
  rw[List.flatMap_cons,bC,dI,Nat.succ_mul];have h1:=h x List.mem_cons_self
  have h2:=Ez f K l fun y hy=>h y (List.mem_cons_of_mem _ hy)
  omega
theorem EA (K:Nat):∀ l:List (List UInt8),(∀ x∈l,x.length≤K)→(bB l).length≤l.length * (K+2)
 | [],_=>by simp[bB]
 | [x],h=>by
  have:=h x List.mem_cons_self;simp only[bB,dI,List.length_nil];omega
 | x :: y :: l,h=>by
  have h1:=h x List.mem_cons_self
  have h2:=EA K (y :: l) fun z hz=>h z (List.mem_cons_of_mem _ hz)
  rw[bB,bC,bC,dI (a:=x),Nat.succ_mul];simp only[dI,List.length_nil] at h2 ⊢;omega
theorem Uo (b:Int):(sP b).length≤4:=by unfold sP;split<;>simp
theorem AU (K:Nat):∀ l:List PZ,(∀ e∈l,e.text.length≤K)→(fT l).length≤l.length * (K+3)
 | [],_=>by simp[fT]
 | e :: l,h=>by
  have h1:=h e List.mem_cons_self
  have h2:=AU K l fun z hz=>h z (List.mem_cons_of_mem _ hz)
  rw[fT,dI,Nat.succ_mul];simp only[bC,dI,List.length_nil];omega
theorem EB (b:Int)(l:List PZ)(hl:l.length≤1)(h:∀ e∈l,e.text.length≤600600000):(jU b l).length≤600600007:=by
 have h1:=Uo b;have h2:=AU _ l h;have h3:l.length * (600600000+3)≤1 * (600600000+3):=Nat.mul_le_mul_right _ hl;rw[jU,bC];omega
def Uq (e:PZ):Prop:=e.fit∧e.size≤2002
theorem Uq.text {e:PZ}(h:Uq e):e.text.length≤600600000:=by
 have h1:=PZ.DU e h.1;have h2:=h.2;omega
structure ZF.mid (f:ZF):Prop where
 name:f.name.length≤65536
 few:f.clause.length≤1
 all:∀ e∈f.clause,Uq e
structure ZD.mid (d:ZD):Prop where
 kJ:∀ f∈d.params,f.mid
 few:d.params.length≤8
 res:d.res.mid
 body:Uq d.body
structure ZP.mid (p:ZP):Prop where
 imps:∀ m∈p.imports,m.1.length≤65536
 OP:p.imports.length≤16
 defs:∀ d∈p.defs,d.mid
 LC:p.defs.length≤64
theorem ZF.mid.text {f:ZF}(h:f.mid):f.text.length≤600665545:=by
 have h1:=EB f.base f.clause h.few fun e he=>(h.all e he).text
 have h2:=h.name;rw[ZF.text];simp only[bC,dI,List.length_nil];omega
theorem ZD.mid.text {d:ZD}(h:d.mid):d.text.length≤6100000000:=by
 have h1:=EB d.res.base d.res.clause h.res.few fun e he=>(h.res.all e he).text
 have h2:=h.res.name;have h3:=h.body.text
 have h4:=EA 600665545 (d.params.map ZF.text) fun x hx=>by
  obtain⟨f,hf,rfl⟩:=List.mem_map.1 hx;exact(h.kJ f hf).text
 have h5:(d.params.map ZF.text).length * (600665545+2)≤8 * (600665545+2):=Nat.mul_le_mul_right _ (by rw[List.length_map];exact h.few)
 have h6:(if d.pub=true then [112,117,98,32] else []:List UInt8).length≤4:=by split<;>simp
 rw[ZD.text];simp only[bC,dI,List.length_nil];omega
theorem ZP.mid.text {p:ZP}(h:p.mid):p.text.length≤1099511627776:=by
 have h1:=Ez qA 65545 p.imports fun m hm=>by
  have:=h.imps m hm;rw[qA];simp only[bC,dI,List.length_nil];omega
 have h2:=Ez ZD.text 6100000000 p.defs fun d hd=>(h.defs d hd).text
 have h3:p.imports.length * 65545≤16 * 65545:=Nat.mul_le_mul_right _ h.OP;have h4:p.defs.length * 6100000000≤64 * 6100000000:=Nat.mul_le_mul_right _ h.LC;rw[ZP.text,bC];omega
theorem ZF.mid.fit {f:ZF}(h:f.mid):f.fit:=⟨h.name,by have:=h.few;omega,fun e he=>(h.all e he).1⟩
theorem ZD.mid.fit {d:ZD}(h:d.mid):d.fit:=⟨by have:=h.few;omega,fun f hf=>(h.kJ f hf).fit,h.res.fit,h.body.1⟩
theorem ZD.mid.pq {d:ZD}(h:d.mid):d.pq :=
 ⟨by have:=h.few;omega,fun f hf=>⟨by have:=(h.kJ f hf).few;omega,fun e he=>by have:=((h.kJ f hf).all e he).2;omega⟩,⟨by have:=h.res.few;omega,fun e he=>by have:=(h.res.all e he).2;omega⟩,by have:=h.body.2;omega⟩
theorem ZP.mid.pq {p:ZP}(h:p.mid):p.pq :=
 ⟨⟨by have:=h.OP;omega,h.imps,by have:=h.LC;omega,fun d hd=>(h.defs d hd).fit⟩,h.text,by have:=h.LC;omega,fun d hd=>(h.defs d hd).pq⟩
theorem FF.small.mid {M:Nat}{f:FF}(h:f.small M)(hM:M≤65536)(ha:f.all fun e=>Uq e.z):f.z.mid :=
 ⟨Nat.le_trans h.name hM,by show (f.clause.map PE.z).length≤1;rw[List.length_map];exact h.clause,fun e he=>by obtain⟨x,hx,rfl⟩:=List.mem_map.1 he;exact ha x hx⟩
theorem PP.small.mid {M:Nat}{p:PP}(h:p.small M)(hM:M≤65536)(ha:p.all fun e=>Uq e.z):p.z.mid:=by
 refine⟨fun m hm=>?_,by show (p.imports.map _).length≤16;rw[List.length_map];exact h.OP,fun d hd=>?_,by show (p.defs.map _).length≤64;rw[List.length_map];exact h.LC⟩
 ·obtain⟨x,hx,rfl⟩:=List.mem_map.1 hm
  exact Nat.le_trans (h.imports x hx) hM
 ·obtain⟨x,hx,rfl⟩:=List.mem_map.1 hd
  have h1:=h.defs x hx;have h2:=ha x hx;refine⟨fun f hf=>?_,by show (x.params.map _).length≤8;rw[List.length_map];exact h1.few,h1.res.mid hM h2.2.1,h2.2.2⟩;obtain⟨y,hy,rfl⟩:=List.mem_map.1 hf;exact(h1.params y hy).mid hM (h2.1 y hy)
theorem nP.mid {S:List UInt8}{toks:List Tok}{nodes:List Nd}{p:j4}(F:nP S toks nodes p)(hs:S.length≤1000):(p.pp toks).z.mid :=
 F.Qc.mid (by omega) (PP.Rl F.fits F.few F.few fun e h1 h2 _=>by
  have h3:=F.nd;have h4:=F.count
  exact⟨PE.aaO (by omega) e h1 (by omega),by rw[PE.XW];omega⟩)
theorem yN {S:List UInt8}{d:Nat}{toks:List Tok}{nodes:List Nd}{p:j4}(hd:d≤200)(h:iK S d=.good toks nodes)(hl:bH S=.ok toks)(he:nodes=p.pt.em 0 0)(hok:p.ok toks)(hlv:p.pt.lv=toks.length)(hn:nodes.length≤2 * toks.length):nP S toks nodes p:=by
 have hs:S.length≤65536:=by
  unfold bH at hl
  split at hl
  ·cases hl
  ·omega
 have hL:=iy hl
 have hM:∀ u,(aH toks u).length≤S.length+1:=fun u=>Nat.le_succ_of_le (Ef hl u)
 have hN:=ql hl
 have hnd:nodes.length=p.pt.nd:=by rw[he,PT.rO]
 exact⟨hs,hl,he,hok,hlv,hL.count,by omega,MN hl he p.wf hlv (by omega),hL.KF,yh hd h,j4.zB (fun cl e u ho _=>CE.fits hL.some hN hM (by omega) e u ho) hok,j4.zB (fun cl e u ho _=>CE.told (vP hl) e u ho) hok,j4.zB (fun cl e u ho hn=>Nat.le_trans (CE.gT toks e u) hn) hok,j4.LG hM hok⟩
def anS (c:UInt8):List UInt8:=[102,117,110,32,102,40,120,58,105,110,116,41,58,105,110,116,61,c,59]
def UU (c:UInt8):List Tok:=[⟨2,[],[102,117,110],0⟩,⟨1,[32],[102],4⟩,⟨4,[],[40],5⟩,⟨1,[],[120],6⟩,⟨4,[],[58],7⟩,⟨2,[],[105,110,116],8⟩,⟨4,[],[41],11⟩,⟨4,[],[58],12⟩,⟨2,[],[105,110,116],13⟩,⟨4,[],[61],16⟩,⟨1,[],[c],17⟩,⟨4,[],[59],18⟩,⟨5,[],[],19⟩]
def Rq:j4:=⟨0,[⟨false,[⟨none⟩],⟨none⟩,.Nw⟩]⟩
theorem aau:bH (anS 121)=.ok (UU 121):=by rfl
theorem aav:bH (anS 120)=.ok (UU 120):=by rfl
theorem MW:iK (anS 121) 60=.good (UU 121) (Rq.pt.em 0 0):=by kernel_rfl
theorem MX:iK (anS 120) 60=.good (UU 120) (Rq.pt.em 0 0):=by kernel_rfl
theorem aaQ (c:UInt8):Rq.ok (UU c):=by
 refine⟨by decide,by decide,trivial,⟨fun h=>?_,rfl,rfl,by decide,⟨⟨rfl,?_,trivial⟩,trivial⟩,⟨?_,trivial⟩,?_⟩,trivial⟩
 ·cases h
 ·exact .head _
 ·exact .head _
 ·simp only[CE.ok];rfl
theorem MZ:nP (anS 121) (UU 121) (Rq.pt.em 0 0) Rq:=yN (d:=60) (by omega) MW aau rfl (aaQ _) (by decide) (by decide)
theorem M0:nP (anS 120) (UU 120) (Rq.pt.em 0 0) Rq:=yN (d:=60) (by omega) MX aav rfl (aaQ _) (by decide) (by decide)
def anZ (c:UInt8):ZP:=⟨[],[⟨false,[⟨[120],1,[],6,11⟩],⟨[102],1,[],4,16⟩,.mk 3 [c] [] 0 false [] 17⟩]⟩
theorem ab3 (c:UInt8):(Rq.pp (UU c)).z=anZ c:=by rfl
theorem Ur:(anZ 121).check [109] []=some (31,17):=by kernel_rfl
theorem Us:(anZ 120).check [109] []=none:=by kernel_rfl
end Go.Proofs.YtknicmmigbhpcaaGreatDoor
