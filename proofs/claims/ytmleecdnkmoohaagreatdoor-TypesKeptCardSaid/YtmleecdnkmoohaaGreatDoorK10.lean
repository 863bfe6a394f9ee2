/- Walks and plain laws, without a condition. -/
import Derived.Test.YtmleecdnkmoohaaGreatDoorK09
import Derived.Deep.CutBlock
set_option maxHeartbeats 16000000
set_option maxRecDepth 100000
set_option linter.unusedVariables false
set_option linter.unusedSimpArgs false
namespace Go.Proofs.YtmleecdnkmoohaaGreatDoor
open Go.RowKit Go
variable{w w' W W':World}{x y:Value}{b k B B':Nat}{acc:aH}{r:Ending}
def jB (w:World)(kb:Nat)(nJ:List Bool):Prop:=w.heap[kb]?=some (.cells (nJ.map Value.bool).toArray 4 (0,0))
theorem jB.cell {w:World}{kb:Nat}{nJ:List Bool}(h:jB w kb nJ){j:Nat}(hj:j<nJ.length):w.cell? ⟨kb,j,none⟩=some (.bool nJ[j]):=by
 rw[aZ h];simp[hj]
theorem jB.free {kb:Nat}{nJ:List Bool}(h:jB w kb nJ)(j:Nat):w.frozen? ⟨kb,j,none⟩=false:=by simp[World.frozen?,show w.heap[kb]?=_ from h]
theorem jB.set {w:World}{kb:Nat}{nJ:List Bool}(h:jB w kb nJ)(j:Nat)(b:Bool):jB (w.setCell ⟨kb,j,none⟩ (.bool b)) kb (nJ.set j b):=by
 have:=jN w kb j _ _ (.bool b) h;rw[jB,this];simp[List.map_set]
theorem Iz (kb m cap:Nat)(nJ:List Bool)(p:Bool)(w:World)(h:jB w kb nJ)(hm:m<=nJ.length)(hn:nJ.length<=1099511627776)(hp:p=(nJ.take m).contains false) :
  Calls Tryz.prog 296 #[.slice (some ⟨kb,0,none⟩) m cap,.bool false] w (afI p w):=by
 have HM:=ay (λ(j:Nat) (hj:j<nJ.length)=>h.cell hj);have HP:=ay hp;clear h hp;go_enter Tryz.func296,Tryz.ntmps296;go_wp2
 go_loop [8] (λq=>∃ k:Nat,k<=m/\q=.int .i64 k/\∀ j,(hj:j<nJ.length)->j<k->nJ[j]=true) (λq=>m - (intOf q).toNat)
 case atStart=>exact⟨0,kJ _,rfl,λj _ h=>absurd h (by omega)⟩
 case round =>
  obtain⟨k,hk,rfl,hj⟩:=hrel
  by_cases hlt:k<m
  ·have hx:=HM.out k (by omega)
   have hI:(k:Int)<(m:Int):=by omega
   cases hv:nJ[k] with
   | false =>
    rw[hv] at hx
    have hc:(nJ.take m).contains false=true:=by
     rw[List.contains_iff_mem,<- hv];exact List.mem_take_iff_getElem.2 ⟨k,by omega,rfl⟩
    have HC:=ay hc;clear hj hv hc;go_wp2;go_ret;exact⟨⟨k,rfl,⟨λ_=>HP.out.trans HC.out,λ_=>by omega⟩,by omega⟩,rfl⟩
   | true =>
    rw[hv] at hx
    have HJ:Hid (∀ j,(hj:j<nJ.length)->j<k+1->nJ[j]=true):=ay (λj hjl hjk=>by
     by_cases hkj:j=k
     ·subst hkj;exact hv
     ·exact hj j hjl (by omega))
    clear hj hv;go_wp2
    go_round
    case rel=>exact⟨k+1,by omega,by go_num,HJ.out⟩
    case measure=>simp[intOf];omega
  ·obtain rfl:k=m:=by omega
   have hc:(nJ.take k).contains false=false:=by
    rw[<- vM,List.contains_iff_mem];intro q;obtain⟨j,hj1,hj2⟩:=List.mem_take_iff_getElem.1 q;rw[hj j (by omega) (by omega)] at hj2;cases hj2
   have HC:=ay hc;have hI:decide ((k:Int)<(k:Int))=false:=dX (by omega);clear hj hc;go_wp2;go_ret;exact⟨⟨-1,rfl,⟨λh=>by omega,λh=>by rw[HP.out,HC.out] at h;cases h⟩,by omega⟩,rfl⟩
theorem tT (kb m cap:Nat)(nJ:List Bool)(w:World)(h:jB w kb nJ)(hm:m<=nJ.length)(hn:nJ.length<=1099511627776) :
  Calls Tryz.prog 268 #[.slice (some ⟨kb,0,none⟩) m cap,.bool false] w λe w'=>e=.returned (.bool ((nJ.take m).contains false))/\w'=w:=by
 have H:=ay (Iz kb m cap nJ _ w h hm hn rfl);clear h;go_enter Tryz.func268,Tryz.ntmps268;go_wp2_with (go_at_call 296;refine H.out.mono ?_);rintro e w1 ⟨⟨r,rfl,hr,_⟩,rfl⟩
 have hq:((nJ.take m).contains false)=decide (0<=r):=by
  by_cases h:0<=r
  ·rw[jV h];exact hr.1 h
  ·rw[dX h,<- vM];exact λq=>h (hr.2 q)
 have HQ:=ay hq;clear hq hr;go_wp2;go_ret;exact⟨bB HQ.out.symm,rfl⟩
theorem Tryz.YV:(Tryz.prog.info? 4).map (λi=>(i.zero,i.size,i.bytes))=some (some (.bool false),1,1):=by kernel_rfl
theorem FV (n:Nat):(madeCells (Value.bool false).cells (n * 1))=((List.replicate n false).map Value.bool).toArray:=by
 apply Array.toList_inj.1
 have:=toList_madeCells_one (.bool false) n;rw[Nat.mul_one];show (madeCells #[Value.bool false] n).toList=_;rw[this]
 simp
theorem JI (B:Nat)(tv nv:Value)(ah:List Tok)(aj:List Nd)(l:List Int)(g:Nat)(w:World)(h:lW B w (.agg #[tv,nv]) ah aj)(hB:B<=w.heap.size)(hn:aj.length<=1000000)(hkl:∀ n∈aj,n.aB.length<=1000000)
  (hlv:∀ nJ,qW ah.length aj=some nJ->nJ.length≠0->(nJ.take (aj.length - 1)).contains false=false->gF aj g [((aj.length:Nat):Int) - 1] []=some l) (hll:l.length<=549755813888) (ai8:ah.length<=1099511627776) :
  Calls Tryz.prog 215 #[.agg #[tv,nv]] w λe w'=>e=.returned (.bool (mh ah.length aj l))/\Below w.heap.size w w':=by
 obtain⟨i0,hi,hz0,hz1,hz2⟩:=info_parts Tryz.YV;obtain⟨at_,ct,an,cn,hv⟩:=h.slices;simp only[Value.agg.injEq,Array.mk.injEq,List.cons.injEq,and_true] at hv;obtain⟨rfl,rfl⟩:=hv;have hmk:=run_make (P:=Tryz.prog) (w.alloc (.cells #[.slice at_ ah.length ct,.slice an aj.length cn] 93)) 342 4 i0 (.bool false) Tryz.underlying342 hi hz0 .i64 .i64 aj.length aj.length (by omega) (by omega) (by rw[hz2];omega) (by omega);rw[hz1,Int.toNat_natCast,FV] at hmk;have HT:=ay h;have HLV:=ay hlv;have HKL:=ay hkl;clear h hlv hkl;go_enter Tryz.func215,Tryz.ntmps215;go_wp2;have T2:=(gZ (w.alloc (.cells #[.slice at_ ah.length ct,.slice an aj.length cn] 93)) (.cells (Array.replicate aj.length (Value.bool false)) 4) w.heap.size (by simp)).trans (aX w (.cells #[.slice at_ ah.length ct,.slice an aj.length cn] 93))
 have G2:jB ((w.alloc (.cells #[.slice at_ ah.length ct,.slice an aj.length cn] 93)).alloc (.cells (Array.replicate aj.length (Value.bool false)) 4)) (w.heap.size+1) (List.replicate aj.length false):=by
  have:=aX (w.alloc (.cells #[.slice at_ ah.length ct,.slice an aj.length cn] 93)) (.cells (Array.replicate aj.length (Value.bool false)) 4);rw[nG] at this;rw[jB,this]
  simp
 have hb2:Below w.heap.size w ((w.alloc (.cells #[.slice at_ ah.length ct,.slice an aj.length cn] 93)).alloc (.cells (Array.replicate aj.length (Value.bool false)) 4)):=((bQ _ w).alloc (bD _) _).alloc (by simp) _;clear hmk;generalize (w.alloc _).alloc _=W2 at T2 G2 hb2 |-
 go_loopw [18] (λq wr=>∃ (i:Nat) (nJ:List Bool),i<=aj.length/\q=.int .i64 i/\nJ.length=aj.length/\nN ah.length i (aj.drop i) nJ=qW ah.length aj/\jB wr (w.heap.size+1) nJ/\wr.heap[w.heap.size]?=some (.cells #[.slice at_ ah.length ct,.slice an aj.length cn] 93 (0,0))/\Below w.heap.size w wr) (λq _=>aj.length - (intOf q).toNat)
 case atStart=>exact⟨0,List.replicate aj.length false,kJ _,rfl,by simp,rfl,G2,T2,hb2⟩
 case round =>
  obtain⟨i,nJ,hi',rfl,hkl,hmk,hG,hT,hbl⟩:=hrel;have hz:=hbl.size
  have c0:wr.cell? ⟨w.heap.size,0,none⟩=some (.slice at_ ah.length ct):=by rw[aZ hT];rfl
  have c1:wr.cell? ⟨w.heap.size,1,none⟩=some (.slice an aj.length cn):=by rw[aZ hT];rfl
  clear T2 G2 hb2
  by_cases hlt:i<aj.length
  ·obtain⟨b,off,cap2,kv,hnv,hbB,hx0,hx1,hx2,hkv⟩:=HT.out.node hlt
   simp only[Value.slice.injEq] at hnv;obtain⟨rfl,-,rfl⟩:=hnv;have hdr:aj.drop i=aj[i] :: aj.drop (i+1):=List.drop_eq_getElem_cons hlt;have hkn:=HKL.out aj[i] (nH hlt);rw[hdr,nN] at hmk;obtain⟨vH,vI,rfl,_,_⟩:=hkv.form;have x0:=(hbl.cell (p:=⟨b,off+i * 3,none⟩) (by show b<_;omega)).trans hx0;have x1:=(hbl.cell (p:=⟨b,off+i * 3+1,none⟩) (by show b<_;omega)).trans hx1;have x2:=(hbl.cell (p:=⟨b,off+i * 3+2,none⟩) (by show b<_;omega)).trans hx2;have K:=(hkv.mono hB).below hbl
   have hiI:(i:Int)<(aj.length:Int):=by omega
   have HMK:=ay hmk;clear hmk hx0 hx1 hx2 hkv hdr;generalize hnd:aj[i]=nd at x0 x1 x2 K hkn HMK;obtain⟨kind,tok,ks⟩:=nd;simp only at x0 x1 x2 K hkn;have N1:=aX wr (.cells #[.int .i64 kind,.int .i64 tok,.slice vH ks.length vI] 156);have hbn:=aA wr (.cells #[.int .i64 kind,.int .i64 tok,.slice vH ks.length vI] 156);have T1:=(hbn.block w.heap.size (bP hT).1).trans hT;have G1:jB (wr.alloc (.cells #[.int .i64 kind,.int .i64 tok,.slice vH ks.length vI] 156)) (w.heap.size+1) nJ:=(hbn.block _ (bP hG).1).trans hG;have K1:=K.below (hbn.mono hz);have hb1:=hbl.trans (hbn.mono hz)
   go_upto_region 5 with (fail)
   clear c0 c1 x0 x1 x2 K hbn hT hG hbl;generalize wr.heap.size=xb at N1 hz |-;generalize wr.alloc _=W1 at N1 T1 G1 K1 hb1 |-;have hz1:=hb1.size
   have c0:W1.cell? ⟨w.heap.size,0,none⟩=some (.slice at_ ah.length ct):=by rw[aZ T1];rfl
   have c1:W1.cell? ⟨w.heap.size,1,none⟩=some (.slice (some ⟨b,off,none⟩) aj.length cn):=by rw[aZ T1];rfl
   have y0:W1.cell? ⟨xb,0,none⟩=some (.int .i64 kind):=by rw[aZ N1];rfl
   have y1:W1.cell? ⟨xb,1,none⟩=some (.int .i64 tok):=by rw[aZ N1];rfl
   have y2:W1.cell? ⟨xb,2,none⟩=some (.slice vH ks.length vI):=by rw[aZ N1];rfl
   have HF:=ay (Qt at_ (some ⟨b,off,none⟩) ah.length ct aj.length cn i w.heap.size ⟨kind,tok,ks⟩ (.slice vH ks.length vI) W1 K1 hz1 (by simp only;omega))
   by_cases hfm:jy ah.length i ⟨kind,tok,ks⟩=true
   ·have hq:=HMK.out
    rw[bR hfm] at hq;rw[hfm] at HF;have HQ:=ay hq;clear hq HMK;have hlx:=(bP N1).1;go_wp2_with (go_at_call 267;refine HF.out.mono ?_;rintro e w3 ⟨rfl,hb3⟩;have z2:w3.cell? ⟨xb,2,none⟩=some (.slice vH ks.length vI):=(hb3.cell (p:=⟨xb,2,none⟩) hlx).trans y2);have T3:=(hb3.block w.heap.size (bP T1).1).trans T1;have G3:jB w3 (w.heap.size+1) nJ:=(hb3.block _ (bP G1).1).trans G1;have K3:=K1.below (hb3.mono hz1);have FW:=hb1.trans (hb3.mono hz1)
    have BI:∀ k∈ks,0<=k/\k<(i:Int):=by
     unfold jy at hfm
     by_cases h1:kind<1\/19<kind
     ·rw[bR h1] at hfm;cases hfm
     rw[aU h1] at hfm
     by_cases h2:kind=19
     ·rw[bR h2] at hfm
      simp only[uw,AZ] at hfm;have:=List.length_eq_zero_iff.1 hfm.1;subst this
      exact λk hk=>by cases hk
     ·rw[aU h2,uw] at hfm
      have h3:=hfm.2;rw[Bool.not_eq_true',<- vM,List.any_eq_true] at h3;intro k hk
      by_cases h4:0<=k/\k<(i:Int)
      ·exact h4
      ·exact absurd ⟨k,hk,by simp only[Bool.or_eq_true,AZ];omega⟩ h3
    have HFK:=ay BI;clear hb3 T1 G1 K1 hb1 hz1 c0 c1 y0 y1 y2 N1 HF hfm BI;obtain⟨ai9,aja,hvk,_,yE⟩:=K3.form;simp only[Value.slice.injEq] at hvk;obtain⟨rfl,-,rfl⟩:=hvk;have HKF:=ay yE;clear yE z2
    go_loopw [31] (λq wi=>∃ (j:Nat) (VB:List Bool),j<=ks.length/\q=.int .i64 j/\VB.length=aj.length/\(zR VB (ks.drop j)).bind (nN ah.length (i+1) (aj.drop (i+1)))=qW ah.length aj/\jB wi (w.heap.size+1) VB/\(∀ q,q≠w.heap.size+1->wi.heap[q]?=w3.heap[q]?)/\Below w.heap.size w wi) (λq _=>ks.length - (intOf q).toNat)
    case atStart=>exact⟨0,nJ,kJ _,rfl,hkl,HQ.out,G3,λ_ _=>rfl,FW⟩
    case round =>
     obtain⟨j,VB,hj,rfl,hkl',hq,hG,hoth,hbl⟩:=hrel
     by_cases hjl:j<ks.length
     ·obtain⟨bk,acC,rfl,hbk,hcell⟩:=HKF.out (by omega)
      have hx:wr.cell? ⟨bk,acC+j,none⟩=some (.int .i64 ks[j]):=(yK (a:=⟨bk,acC+j,none⟩) (hoth bk (by omega))).trans (hcell j hjl);have hdr:ks.drop j=ks[j] :: ks.drop (j+1):=List.drop_eq_getElem_cons hjl;have hkr:=HFK.out ks[j] (nH hjl);rw[hdr,zR] at hq;generalize ks[j]=k at hx hkr hq
      obtain⟨k,rfl⟩:∃ kk:Nat,k=(kk:Int):=⟨k.toNat,by omega⟩
      rw[Int.toNat_natCast,Kr,AY (by omega),Option.getD_some] at hq;have hm:=hG.cell (j:=k) (by omega)
      have Ij:(j:Int)<(ks.length:Int):=by omega
      have nK:(k:Int)<(aj.length:Int):=by omega
      clear hcell hdr
      cases hv:VB[k]'(by omega) with
      | true =>
       rw[hv] at hm hq;rw[bR rfl,Option.bind_none] at hq;have HRB:Hid (mh ah.length aj l=false):=ay (by rw[mh,<- hq]);clear hq hv;go_wp2;go_ret;exact⟨bB HRB.out.symm,hbl⟩
      | false =>
       rw[hv] at hm hq;rw[aU (by decide)] at hq;have hset:=hG.set k true;have hfz:=hG.free k;have Qc:=ay hq
       have af8:∀ q,q≠w.heap.size+1->(wr.setCell ⟨w.heap.size+1,k,none⟩ (.bool true)).heap[q]?=w3.heap[q]?:=λq hqn=>(qm _ _ _ _ hqn).trans (hoth q hqn)
       clear hq hv;go_wp2
       go_roundw
       case rel=>exact⟨j+1,_,by omega,by go_num,by rw[List.length_set];exact hkl',Qc.out,hset,af8,hbl.setCell (by show w.heap.size<=w.heap.size+1;omega) _⟩
       case measure=>simp[intOf];omega
     ·obtain rfl:j=ks.length:=by omega
      rw[List.drop_length,zR,pO] at hq;have hTi:=(hoth w.heap.size (by omega)).trans T3;have Qc:=ay hq;have Ij:decide ((ks.length:Int)<(ks.length:Int))=false:=dX (by omega);clear hq;go_wp2;exact⟨⟨i+1,VB,by omega,by go_num,hkl',Qc.out,hG,hTi,hbl⟩,by simp[intOf];omega⟩
   ·have hq:=HMK.out
    rw[aU hfm] at hq;have HRB:Hid (mh ah.length aj l=false):=ay (by rw[mh,<- hq]);rw[vM] at hfm;rw[hfm] at HF;clear hq HMK;go_wp2_with (go_at_call 267;refine HF.out.mono ?_;rintro e w3 ⟨rfl,hb3⟩);go_ret;exact⟨bB HRB.out.symm,hb1.trans (hb3.mono hz1)⟩
  ·obtain rfl:i=aj.length:=by omega
   rw[List.drop_length,nN] at hmk;have hqI:decide ((aj.length:Int)<(aj.length:Int))=false:=dX (by omega)
   by_cases h0:aj.length=0
   ·have HRB:Hid (mh ah.length aj l=false):=ay (by rw[mh,<- hmk];simp only[hkl,h0];rfl)
    have h0I:((aj.length:Int) == 0)=true:=by simp[h0]
    clear hmk hG;go_wp2;go_ret;exact⟨bB HRB.out.symm,hbl⟩
   ·have h0I:((aj.length:Int) == 0)=false:=by simp[h0]
    have hR:=λ(W:World)=>MU (.slice at_ ah.length ct) an aj.length cn W (by omega)
    have HR:=ay hR;have HG:=ay hG;clear hR
    obtain⟨p,hp⟩:∃ p,p=(nJ.take (aj.length - 1)).contains false:=⟨_,rfl⟩
    have HP:=ay hp
    have hnI:((aj.length:Int) - 1)=((aj.length - 1:Nat):Int):=by omega
    clear hp hG
    cases p with
    | true =>
     have HRB:Hid (mh ah.length aj l=false):=ay (by rw[mh,<- hmk];simp only;rw[<- HP.out];simp);clear hmk;go_wp2_with (first|(go_at_call 67;refine(HR.out _).mono ?_;rintro e w3 ⟨rfl,hb3⟩;rw[hnI])|(go_at_call 268;refine(tT (w.heap.size+1) (aj.length - 1) aj.length nJ _ ((hb3.block _ (bP HG.out).1).trans HG.out) (by omega) (by omega)).mono ?_;rintro e w4 ⟨rfl,rfl⟩;rw[<- HP.out]));go_ret;exact⟨bB HRB.out.symm,hbl.trans (hb3.mono hz)⟩
    | false =>
     have hlq:=HLV.out nJ hmk.symm (by omega) HP.out.symm
     have HRB:Hid (mh ah.length aj l=(pF 0 l && decide (l.length=ah.length))):=ay (by
      rw[mh,<- hmk];simp only;rw[<- HP.out,dX (by omega:¬ nJ.length=0)]
      simp)
     have HL:=ay (λ(W:World) (hW:Below w.heap.size w W)=>Rn w.heap.size (.slice at_ ah.length ct) (.slice an aj.length cn) ah aj (((aj.length:Nat):Int) - 1) l g W ((HT.out.mono hB).below hW) hW.size (by omega) hlq hll);rw[hnI] at HL;clear hmk hlq;go_wp2_with (first|(go_at_call 67;refine(HR.out _).mono ?_;rintro e w3 ⟨rfl,hb3⟩;rw[hnI])|(go_at_call 268;refine(tT (w.heap.size+1) (aj.length - 1) aj.length nJ _ ((hb3.block _ (bP HG.out).1).trans HG.out) (by omega) (by omega)).mono ?_;rintro e w4 ⟨rfl,rfl⟩;rw[<- HP.out]));have hb4:=hbl.trans (hb3.mono hz);have T4:=(hb3.block w.heap.size (bP hT).1).trans hT;clear hb3 hbl hT c0 c1 HG HP hkl hz;have BJ:=hb4.size
     have c0:w4.cell? ⟨w.heap.size,0,none⟩=some (.slice at_ ah.length ct):=by rw[aZ T4];rfl
     have c1:w4.cell? ⟨w.heap.size,1,none⟩=some (.slice an aj.length cn):=by rw[aZ T4];rfl
     go_cut [8] (λv wx=>∃ ao cap,v=.slice ao l.length cap/\Ints wx.heap.size wx (.slice ao l.length cap) l/\wx.heap[w.heap.size]?=some (.cells #[.slice at_ ah.length ct,.slice an aj.length cn] 93 (0,0))/\Below w.heap.size w wx)
     case first =>
      have af9:=(bP T4).1
      go_region_with (first|(go_at_call 67;refine(HR.out _).mono ?_;rintro e w5 ⟨rfl,hb5⟩;rw[hnI];have d0:=(hb5.cell (p:=⟨w.heap.size,0,none⟩) af9).trans c0;have d1:=(hb5.cell (p:=⟨w.heap.size,1,none⟩) af9).trans c1)|(go_at_call 269;refine(HL.out _ (hb4.drew.trans (hb5.mono BJ))).mono ?_;rintro e w6 ⟨v6,rfl,hv6,hb6⟩;obtain⟨al,cl,rfl,_,_⟩:=hv6.form))
      all_goals
       have oU:=(hb4.drew.trans (hb5.mono BJ))
       have T6:=(hb6.block w.heap.size (xw (bP T4).1 hb5.size)).trans ((hb5.block w.heap.size (bP T4).1).trans T4);clear c0 c1 d0 d1 T4;go_wp2_with fail
       go_meet
       exact⟨al,cl,rfl,hv6,T6,oU.trans (hb6.mono oU.size)⟩
     case rest =>
      obtain⟨al,cl,rfl,hv,hT,hbc⟩:=hcut;clear hb4 T4 c0 c1 HR HT HLV HKL
      obtain⟨wo,rfl⟩:∃ wo:World,wo=wc:=⟨_,rfl⟩
      have c0:wo.cell? ⟨w.heap.size,0,none⟩=some (.slice at_ ah.length ct):=by rw[aZ hT];rfl
      obtain⟨ao,cp,hvv,_,hvf⟩:=hv.form;simp only[Value.slice.injEq] at hvv;obtain⟨rfl,-,rfl⟩:=hvv;have HV:=ay hvf;clear hvf hv hT HL;go_wp2
      go_loopw [60] (λq wr=>∃ j:Nat,j<=l.length/\q=.int .i64 j/\pF 0 l=pF j (l.drop j)/\wr=wo) (λq _=>l.length - (intOf q).toNat)
      case atStart=>exact⟨0,kJ _,rfl,rfl,rfl⟩
      case round =>
       obtain⟨j,hj,rfl,hcn,hwr⟩:=hrel;subst hwr
       by_cases hjl:j<l.length
       ·obtain⟨b,off,rfl,hb,hc⟩:=HV.out (by omega)
        have hx:=hc j hjl;rw[List.drop_eq_getElem_cons hjl,pF] at hcn
        have Ij:(j:Int)<(l.length:Int):=by omega
        generalize l[j]=x at hx hcn;clear hc
        by_cases hxe:(j:Int)=x
        ·subst hxe
         rw[jV rfl,Bool.true_and] at hcn;have HC:=ay hcn;clear hcn;go_wp2;exact⟨⟨j+1,by omega,by go_num,HC.out,(by first|trivial|rfl)⟩,by simp[intOf];omega⟩
        ·rw[dX hxe,Bool.false_and] at hcn
         have HC:=ay hcn
         have hne:((j:Int) == x)=false:=by simp[hxe]
         clear hcn;go_wp2;go_ret;exact⟨bB (by rw[HRB.out,HC.out];rfl),hbc⟩
       ·obtain rfl:j=l.length:=by omega
        have Ij:decide ((l.length:Int)<(l.length:Int))=false:=dX (by omega);rw[List.drop_length,pF] at hcn;have HC:=ay hcn;clear hcn;go_wp2;go_ret;refine⟨bB ?_,hbc⟩;rw[HRB.out,HC.out,Bool.true_and];exact decide_eq_decide.2 (by omega)
def Lh (B' b:Nat)(acc:aH)(w:World)(e:Ending)(w':World):Prop:=e=.returned (.tuple #[])/\lV B' b acc w'/\Below B' w w'/\Lib.OthersKept 5 (some b) w w'
def YW (B B' b:Nat)(tv nv:Value)(ah:List Tok)(aj:List Nd)(g:Nat):Prop:=∀ (n:Int) (s acc:aH) (w:World),lW B w (.agg #[tv,nv]) ah aj->B<=B'->lV B' b acc w->B'<=w.heap.size->vC ah aj g n=some s->acc.length+s.length<=1099511627776 ->
 Calls Tryz.prog 166 #[.agg #[tv,nv],.pointer (some ⟨b,0,none⟩),.int .i64 n] w (Lh B' b (acc++s) w)
theorem YX (i:Nat)(h:i<100)(w:World):Calls Tryz.prog 216 #[.int .i64 i] w λe w'=>e=.returned (.string ⟨(kg i).toArray⟩)/\w'=w:=by
 rw[<- Q8];exact Tryz.strconv_Itoa_small i h w
theorem bV (h:w.heap[b]?=some (.cells #[x,y] 93 (0,0))):w.cell? ⟨b,0,none⟩=some x/\w.cell? ⟨b,1,none⟩=some y:=by
 constructor<;>(rw[aZ h];rfl)
theorem Ro (B B' b:Nat)(tv nv:Value)(ah:List Tok)(aj:List Nd)(k u:Nat)(ks:List Int)(acc:aH)(w:World)(h:lW B w (.agg #[tv,nv]) ah aj)(mZ:B<=B')(hbd:lV B' b acc w)(hB:B'<=w.heap.size)
  (hn:aj[k]?=some ⟨19,(u:Nat),ks⟩) (hu:u<ah.length) (hlen:acc.length+(pX ah[u]).length<=1099511627776) :
  Calls Tryz.prog 166 #[.agg #[tv,nv],.pointer (some ⟨b,0,none⟩),.int .i64 k] w (Lh B' b (acc++pX ah[u]) w):=by
 obtain⟨hi,hni⟩:=pE hn;obtain⟨bn,off,cap,kv,rfl,hbn,x0,x1,x2,hkv⟩:=h.node hi;obtain⟨b2,off2,cap2,c,q,rfl,hb2,hcq,t0,t1,t2,t3⟩:=h.tok hu;obtain⟨vH,vI,rfl,-,-⟩:=hkv.form;rw[hni] at x0 x1 x2;simp only at x0 x1 x2;generalize hkl:ks.length=kl at x2;generalize ah[u]=t at t1 t2 hcq hlen;obtain⟨c0,x,y,q0⟩:=t;simp only at t1 t2 hcq;obtain⟨X,rfl,eX⟩:=jD x;obtain⟨Y,rfl,eY⟩:=jD y;rw[eX] at t1;rw[eY] at t2;have hal:=(bQ w.heap.size w).alloc (bD _) (.cells #[.slice (some ⟨b2,off2,none⟩) ah.length cap2,.slice (some ⟨bn,off,none⟩) aj.length cap] 93);have cO:=hal.alloc (by simp) (.cells #[.int .i64 19,.int .i64 (u:Nat),.slice vH kl vI] 156);have fJ:=cO.alloc (by simp;omega) (.cells #[.int .i64 c,.string X,.string Y,.int .i64 q] 159);have hb3:=((hbd.alloc (.cells #[.slice (some ⟨b2,off2,none⟩) ah.length cap2,.slice (some ⟨bn,off,none⟩) aj.length cap] 93)).alloc (.cells #[.int .i64 19,.int .i64 (u:Nat),.slice vH kl vI] 156)).alloc (.cells #[.int .i64 c,.string X,.string Y,.int .i64 q] 159);have eP:=(((Lib.OthersKept.refl 5 (some b) w).alloc (.cells #[.slice (some ⟨b2,off2,none⟩) ah.length cap2,.slice (some ⟨bn,off,none⟩) aj.length cap] 93)).alloc (.cells #[.int .i64 19,.int .i64 (u:Nat),.slice vH kl vI] 156)).alloc (.cells #[.int .i64 c,.string X,.string Y,.int .i64 q] 159);have x0':=(hal.cell (p:=⟨bn,off+k * 3,none⟩) (by show bn<_;omega)).trans x0;have x1':=(hal.cell (p:=⟨bn,off+k * 3+1,none⟩) (by show bn<_;omega)).trans x1;have x2':=(hal.cell (p:=⟨bn,off+k * 3+2,none⟩) (by show bn<_;omega)).trans x2;have y0:=(cO.cell (p:=⟨b2,off2+u * 4,none⟩) (by show b2<_;omega)).trans t0;have y1:=(cO.cell (p:=⟨b2,off2+u * 4+1,none⟩) (by show b2<_;omega)).trans t1;have y2:=(cO.cell (p:=⟨b2,off2+u * 4+2,none⟩) (by show b2<_;omega)).trans t2;have y3:=(cO.cell (p:=⟨b2,off2+u * 4+3,none⟩) (by show b2<_;omega)).trans t3
 have i1:(k:Int)<(aj.length:Int):=by omega
 have i2:(u:Int)<(ah.length:Int):=by omega
 simp only[pX,bY,aY] at hlen;clear t0 t1 t2 t3 x0 x1 x2 hn hni h hkv hal cO hi eX eY
 have hk4:((((w.alloc (.cells #[.slice (some ⟨b2,off2,none⟩) ah.length cap2,.slice (some ⟨bn,off,none⟩) aj.length cap] 93)).alloc (.cells #[.int .i64 19,.int .i64 (u:Nat),.slice vH kl vI] 156)).alloc (.cells #[.int .i64 c,.string X,.string Y,.int .i64 q] 159))).heap[w.heap.size+1+1]?=some (.cells #[.int .i64 c,.string X,.string Y,.int .i64 q] 159 (0,0)):=by
  have:=aX ((w.alloc (.cells #[.slice (some ⟨b2,off2,none⟩) ah.length cap2,.slice (some ⟨bn,off,none⟩) aj.length cap] 93)).alloc (.cells #[.int .i64 19,.int .i64 (u:Nat),.slice vH kl vI] 156)) (.cells #[.int .i64 c,.string X,.string Y,.int .i64 q] 159);rw[nG,nG] at this;exact this
 by_cases h5:c0=5
 ·have h5I:(c == 5)=true:=by simp;exact hcq.2 h5
  clear hcq;rw[bR h5] at hlen;have H5:=ay h5;clear h5;simp only[fu,jC] at hlen;go_enter Tryz.func166,Tryz.ntmps166
  go_upto_region 6 with (go_at_call 176;refine(mO B' b acc ⟨#[36]⟩ _ hb3 (by show acc.length+1<=140737488355328;omega) (by simp;omega)).mono ?_;rintro e w4 ⟨rfl,hb4,hl4,Qk⟩)
  have z4:=hb3.block Qk hk4 (by decide) (by decide)
  have z2:w4.cell? ⟨w.heap.size+1+1,2,none⟩=some (.string Y):=by rw[aZ z4];rfl
  have BJ:=hl4.size;simp only[nG] at BJ;clear z4 hb3 hk4;go_wp2_with (go_at_call 176;refine(mO B' b _ Y _ hb4 (by have e:(ByteArray.mk #[36]).data.toList.length=1:=rfl;rw[bY,e];omega) (by omega)).mono ?_;rintro e w5 ⟨rfl,hb5,hl5,ho5⟩)
  go_end0
  refine⟨rfl,?_,(fJ.mono hB).trans (hl4.trans hl5),eP.trans (Qk.trans ho5)⟩;rw[pX,bR H5.out,<- om];exact hb5
 ·have h5I:(c == 5)=false:=by simp;exact λq=>h5 (hcq.1 q)
  clear hcq;rw[aU h5] at hlen;simp only[jC] at hlen;go_enter Tryz.func166,Tryz.ntmps166;go_wp2_with (go_at_call 176;(refine(mO B' b acc Y _ hb3 (by omega) (by simp;omega)).mono ?_;rintro e w4 ⟨rfl,hb4,hl4,Qk⟩))
  go_end0
  refine⟨rfl,?_,(fJ.mono hB).trans hl4,eP.trans Qk⟩;rw[pX,aU h5,uD];exact hb4
theorem Rp (B B' b:Nat)(tv nv:Value)(ah:List Tok)(aj:List Nd)(g k kd:Nat)(tk:Int)(ks:List Int)(s acc:aH)(w:World)(h:lW B w (.agg #[tv,nv]) ah aj)(mZ:B<=B')(hbd:lV B' b acc w)(hB:B'<=w.heap.size)
  (IH:YW B B' b tv nv ah aj g) (hn:aj[k]?=some ⟨kd,tk,ks⟩) (hkd:kd<100) (aga:kd≠19) (hks:ks.length<=1000000) (hs:nO (vC ah aj g) ks=some s) (hlen:acc.length+([40]++kg kd++s++[41]).length<=1099511627776) :
  Calls Tryz.prog 166 #[.agg #[tv,nv],.pointer (some ⟨b,0,none⟩),.int .i64 k] w (Lh B' b (acc++([40]++kg kd++s++[41])) w):=by
 obtain⟨hi,hni⟩:=pE hn;obtain⟨at_,ct,an,cn,hv⟩:=h.slices;obtain⟨bn,off,cap,kv,rfl,hbn,x0,x1,x2,hkv⟩:=h.node hi;simp only[Value.agg.injEq,Array.mk.injEq,List.cons.injEq,and_true] at hv;obtain⟨rfl,-⟩:=hv;obtain⟨vH,vI,rfl,-,yE⟩:=hkv.form;rw[hni] at x0 x1 x2 yE;simp only at x0 x1 x2 yE;have hal:=(bQ w.heap.size w).alloc (bD _) (.cells #[.slice at_ ah.length ct,.slice (some ⟨bn,off,none⟩) aj.length cap] 93);have cO:=hal.alloc (by simp) (.cells #[.int .i64 kd,.int .i64 tk,.slice vH ks.length vI] 156);have hb2:=(hbd.alloc (.cells #[.slice at_ ah.length ct,.slice (some ⟨bn,off,none⟩) aj.length cap] 93)).alloc (.cells #[.int .i64 kd,.int .i64 tk,.slice vH ks.length vI] 156);have hk2:=((Lib.OthersKept.refl 5 (some b) w).alloc (.cells #[.slice at_ ah.length ct,.slice (some ⟨bn,off,none⟩) aj.length cap] 93)).alloc (.cells #[.int .i64 kd,.int .i64 tk,.slice vH ks.length vI] 156);have x0':=(hal.cell (p:=⟨bn,off+k * 3,none⟩) (by show bn<_;omega)).trans x0;have x1':=(hal.cell (p:=⟨bn,off+k * 3+1,none⟩) (by show bn<_;omega)).trans x1;have x2':=(hal.cell (p:=⟨bn,off+k * 3+2,none⟩) (by show bn<_;omega)).trans x2
 have i1:(k:Int)<(aj.length:Int):=by omega
 have nK:((kd:Int) == 19)=false:=by simp;omega
 have e2:=aX (w.alloc (.cells #[.slice at_ ah.length ct,.slice (some ⟨bn,off,none⟩) aj.length cap] 93)) (.cells #[.int .i64 kd,.int .i64 tk,.slice vH ks.length vI] 156);rw[nG] at e2;have e1:=(gZ (w.alloc (.cells #[.slice at_ ah.length ct,.slice (some ⟨bn,off,none⟩) aj.length cap] 93)) (.cells #[.int .i64 kd,.int .i64 tk,.slice vH ks.length vI] 156) w.heap.size (by simp)).trans (aX w (.cells #[.slice at_ ah.length ct,.slice (some ⟨bn,off,none⟩) aj.length cap] 93));obtain⟨DG,hDG,eDG⟩:=jD (kg kd)
 have HIT:Hid (∀ W,Calls Tryz.prog 216 #[.int .i64 kd] W λe w'=>e=.returned (.string DG)/\w'=W):=ay λW=>(YX kd hkd W).mono λe w' h=>⟨by rw[h.1,<- hDG,<- eDG,<- hDG],h.2⟩
 rw[<- hDG] at hlen |-;simp only[bY,aY,fu,jC] at hlen;have HT:=ay h;have HKF:=ay yE;have HS:=ay hs
 have hD0:(ByteArray.mk #[40]++DG).data.toList=[40]++DG.data.toList:=by simp
 clear x0 x1 x2 hn hni h hkv hal hi yE aga hkd hDG eDG hs hbd;go_enter Tryz.func166,Tryz.ntmps166
 go_upto_region 8 with (first|(go_at_call 216;refine(HIT.out _).mono ?_;rintro e w3 ⟨rfl,rfl⟩)|(go_at_call 176;refine(mO B' b acc (ByteArray.mk #[40]++DG) _ hb2 (by rw[<- aY,hD0];simp;omega) (by simp;omega)).mono ?_;rintro e w4 ⟨rfl,hb4,hl4,Qk⟩))
 have hbB:Below B' w w4:=(cO.mono hB).trans hl4;have hk4:=hk2.trans Qk;have T4:=hb2.block Qk e1 (by decide) (by decide);have N4:=hb2.block Qk e2 (by decide) (by decide)
 have q2:w4.cell? ⟨w.heap.size+1,2,none⟩=some (.slice vH ks.length vI):=by rw[aZ N4];rfl
 rw[hD0] at hb4;clear hb2 hl4 Qk e1 e2 N4 hk2 cO HIT hD0 x0' x1' x2' i1 nK;have hab:(acc++([40]++DG.data.toList))++s=acc++([40]++DG.data.toList)++s:=rfl;generalize hA:acc++([40]++DG.data.toList)=A at hb4 hab
 have hAl:A.length+s.length+1<=1099511627776:=by
  rw[<- hA];simp only[bY,aY,fu,jC];omega
 have HA:Hid (acc++([40]++DG.data.toList++s++[41])=A++s++[41]):=ay (by rw[<- hA];simp);clear hA hlen hab;go_wp2
 go_loopw [42] (λq wr=>∃ (j:Nat) (a r:aH),j<=ks.length/\q=.int .i64 j/\nO (vC ah aj g) (ks.drop j)=some r/\a++r=A++s/\lV B' b a wr/\wr.heap[w.heap.size]?=some (.cells #[.slice at_ ah.length ct,.slice (some ⟨bn,off,none⟩) aj.length cap] 93 (0,0))/\Below B' w wr/\Lib.OthersKept 5 (some b) w wr) (λq _=>ks.length - (intOf q).toNat)
 case atStart=>exact⟨0,A,s,kJ _,rfl,HS.out,rfl,hb4,T4,hbB,hk4⟩
 case round =>
  obtain⟨j,a,r,hj,rfl,hr,har,hbd,hT,hbl,hok⟩:=hrel;have hz:=hbl.size;have ajb:=(bP hT).1;have hal:=congrArg List.length har;rw[bY,bY] at hal;obtain⟨c0,c1⟩:=bV hT
  by_cases hjl:j<ks.length
  ·obtain⟨bk,acC,rfl,hbk,hcell⟩:=HKF.out (by omega)
   have hx:=(hbl.cell (p:=⟨bk,acC+j,none⟩) (by show bk<_;omega)).trans (hcell j hjl);rw[List.drop_eq_getElem_cons hjl,nO] at hr;generalize ks[j]=k1 at hx hr;obtain⟨s1,h1,hr⟩:=cZ hr;obtain⟨s2,h2,hr⟩:=cZ hr
   injection hr with hr
   rw[<- hr] at har hal;simp only[bY,fu,jC] at hal
   have Ij:(j:Int)<(ks.length:Int):=by omega
   have H2:=ay h2;have HR:Hid (a++[32]++s1++s2=A++s):=ay (by rw[<- har];simp);have HT1:=ay (λW (hW:Below B' w W)=>(HT.out.below (hW.mono mZ)));have H1:=ay h1;have Me:=ay hT;clear hcell hr har h1 h2 hT
   go_upto_region 12 with (go_at_call 176;refine(mO B' b a ⟨#[32]⟩ _ hbd (by show a.length+1<=140737488355328;omega) (by omega)).mono ?_;rintro e w5 ⟨rfl,hb5,hl5,ho5⟩)
   have T5:=hbd.block ho5 Me.out (by decide) (by decide);obtain⟨d0,d1⟩:=bV T5;have Tk:=hl5.size;have agb:=hbl.trans hl5
   have hC:=IH k1 s1 _ w5 (HT1.out w5 agb) mZ hb5 (by omega) H1.out (by
    rw[bY];have e:(ByteArray.mk #[32]).data.toList.length=1:=rfl;rw[e]
    omega)
   have HC:=ay hC;have ahI:=hok.trans ho5;have HB5:=ay hb5;clear hC c0 c1 hbd hl5 ho5 hok hb5;go_wp2_with (go_at_call 166;refine HC.out.mono ?_;rintro e w6 ⟨rfl,hb6,Xi,ho6⟩);refine⟨⟨j+1,_,s2,by omega,by go_num,H2.out,HR.out,hb6,?_,agb.trans Xi,ahI.trans ho6⟩,by simp[intOf];omega⟩;exact HB5.out.block ho6 T5 (by decide) (by decide)
  ·obtain rfl:j=ks.length:=by omega
   have Ij:decide ((ks.length:Int)<(ks.length:Int))=false:=dX (by omega);rw[List.drop_length,nO] at hr
   injection hr with hr
   rw[<- hr,List.append_nil] at har;have HR:=ay har;clear hr har HS;go_wp2_with (go_at_call 176;refine(mO B' b a ⟨#[41]⟩ _ hbd (by show a.length+1<=140737488355328;omega) (by omega)).mono ?_;rintro e w5 ⟨rfl,hb5,hl5,ho5⟩)
   go_end0
   refine⟨rfl,?_,hbl.trans hl5,hok.trans ho5⟩;show lV B' b (acc++([40]++DG.data.toList++s++[41])) w5;rw[HA.out,<- HR.out];exact hb5
structure FX (ah:List Tok) (aj:List Nd) (D:aH):Prop where
 pos:0<aj.length
 few:aj.length<=1000000
 aB:∀ n∈aj,n.aB.length<=1000000
 VD:ah.length<=1000000
 right:mh ah.length aj (vX 0 ah.length)=true
 leaves:gF aj (aj.length+1) [((aj.length:Nat):Int) - 1] []=some (vX 0 ah.length)
 dump:vC ah aj aj.length ((aj.length:Int) - 1)=some D
 ahJ:D.length<=1099511627776
 kinds:∀ n∈aj,0<=n.kind/\n.kind<100
 leafs:∀ n∈aj,n.kind=19->0<=n.tok/\n.tok<(ah.length:Int)
theorem JJ {ah:List Tok}{aj:List Nd}{D:aH}(G:FX ah aj D)(B B' b:Nat)(tv nv:Value):∀ g,YW B B' b tv nv ah aj g
 | 0=>λn s acc w h mZ hbd hB hs hlen=>by rw[vC] at hs;cases hs
 | g+1=>λn s acc w h mZ hbd hB hs hlen=>by
  rw[vC] at hs
  by_cases h0:n<0
  ·rw[bR h0] at hs;cases hs
  rw[aU h0] at hs
  obtain⟨k,rfl⟩:∃ k:Nat,n=(k:Int):=⟨n.toNat,by omega⟩
  rw[Int.toNat_natCast] at hs
  cases hn:aj[k]? with
  | none=>rw[hn] at hs;cases hs
  | some x =>
   rw[hn] at hs;simp only at hs;have hm:=List.mem_of_getElem? hn;obtain⟨kind,tok,ks⟩:=x;have hkd:=G.kinds _ hm;simp only at hkd hs
   by_cases h19:kind=19
   ·rw[bR h19] at hs
    subst h19;have hl:=G.leafs _ hm rfl;simp only at hl;rw[aU (by omega)] at hs
    obtain⟨u,rfl⟩:∃ u:Nat,tok=(u:Int):=⟨tok.toNat,by omega⟩
    have hul:u<ah.length:=by omega
    rw[Int.toNat_natCast,AY hul,Option.map_some] at hs
    injection hs with hs
    subst hs;exact Ro B B' b tv nv ah aj k u ks acc w h mZ hbd hB hn hul hlen
   ·rw[aU h19] at hs
    obtain⟨kd,rfl⟩:∃ kd:Nat,kind=(kd:Int):=⟨kind.toNat,by omega⟩
    rw[Int.toNat_natCast] at hs;obtain⟨r,hr,rfl⟩:=Option.map_eq_some_iff.1 hs;exact Rp B B' b tv nv ah aj g k kd tok ks r acc w h mZ hbd hB (JJ G B B' b tv nv g) hn (by omega) (by omega) (G.aB _ hm) hr hlen
def agc:Array Value:=#[.int .i64 6,.int .i64 6,.int .i64 7,.string ⟨#[43]⟩,.int .i64 6,.int .i64 6,.int .i64 7,.string ⟨#[45]⟩,.int .i64 7,.int .i64 7,.int .i64 8,.string ⟨#[42]⟩,.int .i64 7,.int .i64 7,.int .i64 8,.string ⟨#[47]⟩,.int .i64 7,.int .i64 7,.int .i64 8,.string ⟨#[37]⟩,.int .i64 5,.int .i64 6,.int .i64 6,.string ⟨#[61]⟩,.int .i64 5,.int .i64 6,.int .i64 6,.string ⟨#[60,62]⟩,.int .i64 5,.int .i64 6,.int .i64 6,.string ⟨#[60]⟩,.int .i64 5,.int .i64 6,.int .i64 6,.string ⟨#[60,61]⟩,.int .i64 5,.int .i64 6,.int .i64 6,.string ⟨#[62]⟩,.int .i64 5,.int .i64 6,.int .i64 6,.string ⟨#[62,61]⟩,.int .i64 3,.int .i64 3,.int .i64 4,.string ⟨#[38,38]⟩,.int .i64 2,.int .i64 2,.int .i64 3,.string ⟨#[124,124]⟩,.int .i64 1,.int .i64 2,.int .i64 1,.string ⟨#[61,62]⟩]
theorem VE:∀ k:Nat,k<14->∀ w:World,(Instr.index 351 (.agg agc) (.int .i64 k)).run Tryz.prog w=.ok (.agg #[.int .i64 (KE ((k+7:Nat):Int)),.int .i64 (vY ((k+7:Nat):Int)),.int .i64 (CG ((k+7:Nat):Int)),.string ⟨(zW ((k+7:Nat):Int)).toArray⟩]) w
 | 0,_=>λ_=>by kernel_rfl
 | 1,_=>λ_=>by kernel_rfl
 | 2,_=>λ_=>by kernel_rfl
 | 3,_=>λ_=>by kernel_rfl
 | 4,_=>λ_=>by kernel_rfl
 | 5,_=>λ_=>by kernel_rfl
 | 6,_=>λ_=>by kernel_rfl
 | 7,_=>λ_=>by kernel_rfl
 | 8,_=>λ_=>by kernel_rfl
 | 9,_=>λ_=>by kernel_rfl
 | 10,_=>λ_=>by kernel_rfl
 | 11,_=>λ_=>by kernel_rfl
 | 12,_=>λ_=>by kernel_rfl
 | 13,_=>λ_=>by kernel_rfl
 | k+14,h=>absurd h (by omega)
theorem TI (op:Int)(h1:7<=op)(h2:op<=20)(w:World):Calls Tryz.prog 240 #[.int .i64 op] w λr w'=>r=.returned (.agg #[.int .i64 (KE op),.int .i64 (vY op),.int .i64 (CG op),.string ⟨(zW op).toArray⟩])/\Below w.heap.size w w':=by
 have hx:=VE (op - 7).toNat (by omega);rw[show (((op - 7).toNat:Nat):Int)=op - 7 by omega,show ((((op - 7).toNat+7:Nat)):Int)=op by omega] at hx;unfold agc at hx;generalize KE op=a at *;generalize vY op=b at *;generalize CG op=c at *;generalize ByteArray.mk (zW op).toArray=d at *;go_enter Tryz.func240,Tryz.ntmps240;go_wp2;refine nI (v:=.agg #[.int .i64 a,.int .i64 b,.int .i64 c,.string d]) (by simp[results,Tryz.results240,go_sem]) rfl ⟨rfl,?_⟩;exact aA w _
theorem Rq (a b c d:Value)(w:World):(Instr.field 320 (.agg #[a,b,c,d]) 0).run Tryz.prog w=.ok a w:=by kernel_rfl
theorem VF (op:Int)(NM MD:ByteArray)(ng:Bool)(am:Option Addr)(wn cm:Nat)(ys:Bool)(ae:Option Addr)(wk ce:Nat)(a_:Int)(w:World) :
  Calls Tryz.prog 278 #[.agg #[.int .i64 op,.string NM,.string MD,.bool ng,.slice am wn cm,.bool ys,.slice ae wk ce,.int .i64 a_]] w λr w'=>r=.returned (.int .i64 (KE op))/\Below w.heap.size w w':=by
 have agd:∀ W,Calls Tryz.prog 299 #[.int .i64 op] W λr w'=>r=.returned (.bool (decide (7<=op) && decide (op<=20)))/\W=w':=λW=>by
  by_cases h7:7<=op
  ·rw[jV h7,Bool.true_and]
   go_enter Tryz.func299,Tryz.ntmps299;go_wp2;go_ret;exact⟨rfl,rfl⟩
  ·rw[dX h7,Bool.false_and]
   have h7':op<7:=by omega
   go_enter Tryz.func299,Tryz.ntmps299;go_wp2;go_ret;exact⟨rfl,rfl⟩
 have HBn:=ay agd;clear agd;have hb0:=aA w (.cells (aR op NM MD ng (.slice am wn cm) ys (.slice ae wk ce) a_) 60)
 by_cases h:7<=op/\op<=20
 ·have HT:=ay (λW=>TI op h.1 h.2 W)
  have HB:Hid (∀ W,Calls Tryz.prog 299 #[.int .i64 op] W λr w'=>r=.returned (.bool true)/\W=w'):=ay λW=>(HBn.out W).mono λr w' q=>⟨by rw[q.1,jV h.1,jV h.2];rfl,q.2⟩
  clear HBn h;have tf:=Rq;generalize KE op=l at *;go_enter Tryz.func278,Tryz.ntmps278;go_wp2_with (first|(go_at_call 299;refine(HB.out _).mono ?_;rintro r w' ⟨rfl,rfl⟩)|(go_at_call 240;refine(HT.out _).mono ?_;rintro r w1 ⟨rfl,hb1⟩));go_ret;exact⟨rfl,hb0.trans (hb1.mono hb0.size)⟩
 ·have HB:Hid (∀ W,Calls Tryz.prog 299 #[.int .i64 op] W λr w'=>r=.returned (.bool false)/\W=w'):=ay λW=>(HBn.out W).mono λr w' q=>⟨by
   rw[q.1]
   by_cases h7:7<=op
   ·rw[dX (by omega:¬ op<=20),Bool.and_false]
   ·rw[dX h7,Bool.false_and],q.2⟩
  clear HBn
  have hl:KE op=if op=5 then 8 else if op=6 then 4 else if 21<=op/\op<=23 then 0 else 9:=by
   unfold KE
   repeat' (first|omega|split)
  rw[hl];clear hl
  by_cases h5:op=5
  ·subst h5
   clear h;go_enter Tryz.func278,Tryz.ntmps278;go_wp2_with (go_at_call 299;refine(HB.out _).mono ?_;rintro r w' ⟨rfl,rfl⟩);go_ret;exact⟨rfl,hb0⟩
  by_cases h6:op=6
  ·subst h6
   clear h h5;go_enter Tryz.func278,Tryz.ntmps278;go_wp2_with (go_at_call 299;refine(HB.out _).mono ?_;rintro r w' ⟨rfl,rfl⟩);go_ret;exact⟨rfl,hb0⟩
  rw[aU h5,aU h6];have t5:(op == 5)=false:=Ea.2 h5;have t6:(op == 6)=false:=Ea.2 h6
  by_cases h21:21<=op/\op<=23
  ·rw[bR h21]
   obtain⟨u1,u2⟩:=h21;clear h h5 h6;go_enter Tryz.func278,Tryz.ntmps278;go_wp2_with (go_at_call 299;refine(HB.out _).mono ?_;rintro r w' ⟨rfl,rfl⟩);go_ret;exact⟨rfl,hb0⟩
  ·rw[aU h21]
   by_cases u1:21<=op
   ·have u2:23<op:=by omega
    clear h h5 h6 h21;go_enter Tryz.func278,Tryz.ntmps278;go_wp2_with (go_at_call 299;refine(HB.out _).mono ?_;rintro r w' ⟨rfl,rfl⟩);go_ret;exact⟨rfl,hb0⟩
   ·have u2:op<21:=by omega
    clear h h5 h6 h21 u1;go_enter Tryz.func278,Tryz.ntmps278;go_wp2_with (go_at_call 299;refine(HB.out _).mono ?_;rintro r w' ⟨rfl,rfl⟩);go_ret;exact⟨rfl,hb0⟩
def bS (B' b:Nat)(acc:aH)(w:World)(r:Ending)(w':World):Prop:=r=.returned (.tuple #[])/\lV B' b acc w' 225/\Below B' w w'/\Lib.OthersKept 5 (some b) w w'
def tV (l:List ByteArray):aH:=l.flatMap λs=>s.data.toList
theorem VG {l:List ByteArray}(h:k<l.length):tV (l.take (k+1))=tV (l.take k)++l[k].data.toList:=by
 unfold tV;rw[zF h,abo,List.flatMap_singleton]
theorem acD (l:List ByteArray)(k:Nat):(tV (l.take k)).length<=(tV l).length:=by
 unfold tV
 conv=>rhs;rw[<- List.take_append_drop k l,abo,bY]
 omega
theorem BK (ss:List ByteArray)(B' b sb cap:Nat)(fr:Nat × Nat)(acc:aH)(w:World)(hb:lV B' b acc w 225)(hs:w.heap[sb]?=some (.cells (ss.map Value.string).toArray 9 fr))(hB:B'<=w.heap.size)(hn:acc.length+(tV ss).length<=1099511627776)(hl:ss.length<=1000) :
  Calls Tryz.prog 120 #[.pointer (some ⟨b,0,none⟩),.slice (some ⟨sb,0,none⟩) ss.length cap] w (bS B' b (acc++tV ss) w):=by
 have H0:Hid (lV B' b acc w 225):=ay hb;have HS:=ay hs;clear hb hs;go_enter Tryz.func120,Tryz.ntmps120;go_wp2
 go_loopw [8] (λq wr=>∃ k:Nat,k<=ss.length/\q=.int .i64 k/\lV B' b (acc++tV (ss.take k)) wr 225/\Below B' w wr/\Lib.OthersKept 5 (some b) w wr) (λq _=>ss.length - (intOf q).toNat)
 case atStart=>exact⟨0,kJ _,rfl,by simpa [tV] using H0.out,bQ _ _,Lib.OthersKept.refl _ _ _⟩
 case round =>
  obtain⟨k,hk,rfl,hbd,hbl,hok⟩:=hrel;have hz:=hbl.size
  by_cases hlt:k<ss.length
  ·have hS2:=H0.out.block hok HS.out (by decide) (by decide)
   have hx:wr.cell? ⟨sb,k,none⟩=some (.string ss[k]):=by
    rw[aZ hS2];simp[hlt]
   have hts:=VG hlt;have hle:=acD ss (k+1);rw[hts,bY,aY] at hle;have TJ:=ay hbd;have HTS:=ay hts;generalize ss[k]=S at hx hle HTS;generalize tV (ss.take k)=c at hle HTS TJ
   have hlen:(acc++c).length+S.size<=140737488355328:=by rw[bY];omega
   have hnc:(⟨b,0,none⟩:Addr).block<wr.heap.size:=TJ.out.lt
   have nK:(k:Int)<(ss.length:Int):=by omega
   clear hbd hts hS2 hle;go_wp2_with (go_at_call 176;refine(mO B' b (acc++c) S _ TJ.out hlen (by omega)).mono ?_;rintro r w2 ⟨rfl,hb2,hl2,ho2⟩);exact⟨⟨k+1,by omega,by go_num,by rw[HTS.out,<- om];exact hb2,hbl.trans hl2,hok.trans ho2⟩,by simp[intOf];omega⟩
  ·obtain rfl:k=ss.length:=by omega
   have nK:decide ((ss.length:Int)<(ss.length:Int))=false:=dX (by omega);rw[zG] at hbd;have TJ:=ay hbd;clear hbd;go_wp2
   go_end0
   exact⟨rfl,TJ.out,hbl,hok⟩
theorem rA {r:Option Nat}(hb:Below w.heap.size w w'):Lib.OthersKept 5 r w w':=λk o hk _ _=>(hb.block k (bP hk).1).trans hk
structure iK (w:World) (B' b:Nat) (acc:aH) (W:World):Prop where
 lU:lV B' b acc W 225
 kW:Below B' w W
 kept:Lib.OthersKept 5 (some b) w W
theorem lV.mE {T:TypeId}(h:lV B b acc w T)(hb:Below w.heap.size w w'):lV B b acc w' T:=by
 have key:∀ p,Lib.BuilderAtF T 5 B b p (Lib.byteCells acc) w->Lib.BuilderAtF T 5 B b p (Lib.byteCells acc) w':=by
  rintro p ⟨h1,v,h2,⟨h3,h4⟩,h5⟩;refine⟨h1,v,(hb.block b h.lt).trans h2,⟨h3,?_⟩,h5⟩
  rcases h4 with h4|⟨g,cap,cur,fz,q1,q2,q3,q4⟩
  ·exact Or.inl h4
  ·exact Or.inr ⟨g,cap,cur,fz,q1,q2,(hb.block g (bP q3).1).trans q3,q4⟩
 rcases h with h|h
 ·exact Or.inl (key _ h)
 ·exact Or.inr (key _ h)
theorem iK.start (h:lV B' b acc w 225):iK w B' b acc w:=⟨h,bQ _ _,Lib.OthersKept.refl _ _ _⟩
theorem iK.below (h:iK w B' b acc W)(hb:Below W.heap.size W W')(hB:B'<=w.heap.size):iK w B' b acc W' :=
 ⟨h.lU.mE hb,h.kW.trans (hb.mono (jq hB h.kW.size)),h.kept.trans (rA hb)⟩
theorem iK.write {acc':aH}(h:iK w B' b acc W)(hw:bS B' b acc' W r W'):iK w B' b acc' W':=⟨hw.2.1,h.kW.trans hw.2.2.1,h.kept.trans hw.2.2.2⟩
theorem iK.box {acc0:aH}(h:iK w B' b acc W)(h0:lV B' b acc0 w 225){cs:Array Value}{T:TypeId}{fr:Nat × Nat}(hk:w.heap[k]?=some (.cells cs T fr))(hT:T≠225)(he:T≠5):W.heap[k]?=some (.cells cs T fr):=h0.block h.kept hk hT he
theorem bS.from {w1:World}(hb:Below w.heap.size w w1)(hB:B'<=w.heap.size)(h:iK w1 B' b acc W):bS B' b acc w (.returned (.tuple #[])) W :=
 ⟨rfl,h.lU,(hb.mono hB).trans h.kW,(rA hb).trans h.kept⟩
theorem bS.eq (h:bS B' b acc w r W):r=.returned (.tuple #[]):=h.1
theorem dO (S:ByteArray)(B' b:Nat)(acc:aH)(w:World)(hb:lV B' b acc w 225)(hB:B'<=w.heap.size)(hn:acc.length+S.size<=1099511627776) :
  Calls Tryz.prog 120 #[.pointer (some ⟨b,0,none⟩),.slice (some ⟨w.heap.size,0,none⟩) 1 1] (w.alloc (.cells #[.string S] 9)) (bS B' b (acc++S.data.toList) w):=by
 have hal:=aA w (.cells #[.string S] 9);have h:=BK [S] B' b w.heap.size 1 (0,0) acc (w.alloc (.cells #[.string S] 9)) (hb.alloc _) (aX w _) (by simp;omega) (by simp[tV,aY];omega) (by simp);rw[show tV [S]=S.data.toList by simp[tV]] at h
 exact h.mono λr w' q=>⟨q.1,q.2.1,(hal.mono hB).trans q.2.2.1,(rA hal).trans q.2.2.2⟩
theorem xO (S T:ByteArray)(B' b:Nat)(acc:aH)(w:World)(hb:lV B' b acc w 225)(hB:B'<=w.heap.size)(hn:acc.length+S.size+T.size<=1099511627776) :
  Calls Tryz.prog 120 #[.pointer (some ⟨b,0,none⟩),.slice (some ⟨w.heap.size,0,none⟩) 2 2] (w.alloc (.cells #[.string S,.string T] 9)) (bS B' b (acc++(S.data.toList++T.data.toList)) w):=by
 have hal:=aA w (.cells #[.string S,.string T] 9);have h:=BK [S,T] B' b w.heap.size 2 (0,0) acc (w.alloc (.cells #[.string S,.string T] 9)) (hb.alloc _) (aX w _) (by simp;omega) (by simp[tV,aY];omega) (by simp);rw[show tV [S,T]=S.data.toList++T.data.toList by simp[tV]] at h
 exact h.mono λr w' q=>⟨q.1,q.2.1,(hal.mono hB).trans q.2.2.1,(rA hal).trans q.2.2.2⟩
theorem xP (S T U:ByteArray)(B' b:Nat)(acc:aH)(w:World)(hb:lV B' b acc w 225)(hB:B'<=w.heap.size)(hn:acc.length+S.size+T.size+U.size<=1099511627776) :
  Calls Tryz.prog 120 #[.pointer (some ⟨b,0,none⟩),.slice (some ⟨w.heap.size,0,none⟩) 3 3] (w.alloc (.cells #[.string S,.string T,.string U] 9)) (bS B' b (acc++(S.data.toList++(T.data.toList++U.data.toList))) w):=by
 have hal:=aA w (.cells #[.string S,.string T,.string U] 9);have h:=BK [S,T,U] B' b w.heap.size 3 (0,0) acc (w.alloc (.cells #[.string S,.string T,.string U] 9)) (hb.alloc _) (aX w _) (by simp;omega) (by simp[tV,aY];omega) (by simp);rw[show tV [S,T,U]=S.data.toList++(T.data.toList++U.data.toList) by simp[tV]] at h
 exact h.mono λr w' q=>⟨q.1,q.2.1,(hal.mono hB).trans q.2.2.1,(rA hal).trans q.2.2.2⟩
def Rs (e:PZ):Prop:=∀ (B B' b:Nat) (am:Option Addr) (wn cm:Nat) (ae:Option Addr) (ce:Nat) (acc:aH) (w:World),l7 YA (λk=>k<B) w (.slice am wn cm) (.slice ae e.aB.length ce) e->B<=B'->lV B' b acc w 225->B'<=w.heap.size->acc.length+e.text.length<=1099511627776 ->
  Calls Tryz.prog 184 #[.pointer (some ⟨b,0,none⟩),.agg #[.int .i64 e.op,.string ⟨e.name.toArray⟩,.string ⟨e.module.toArray⟩,.bool (decide (e.num<0)),.slice am wn cm,.bool e.yes,.slice ae e.aB.length ce,.int .i64 e.at_]] w (bS B' b (acc++e.text) w)
def BL (e:PZ):Prop:=∀ (least:Int) (B B' b:Nat) (am:Option Addr) (wn cm:Nat) (ae:Option Addr) (ce:Nat) (acc:aH) (w:World),l7 YA (λk=>k<B) w (.slice am wn cm) (.slice ae e.aB.length ce) e->B<=B'->lV B' b acc w 225->B'<=w.heap.size->acc.length+(rU least (e.op,e.text)).length<=1099511627776 ->
  Calls Tryz.prog 237 #[.pointer (some ⟨b,0,none⟩),.agg #[.int .i64 e.op,.string ⟨e.name.toArray⟩,.string ⟨e.module.toArray⟩,.bool (decide (e.num<0)),.slice am wn cm,.bool e.yes,.slice ae e.aB.length ce,.int .i64 e.at_],.int .i64 least] w (bS B' b (acc++rU least (e.op,e.text)) w)
theorem acE (e:PZ)(he:Rs e):BL e:=by
 intro least B B' b am wn cm ae ce acc w h mZ hbd hB hn;have hal:=aA w (.cells (aR e.op ⟨e.name.toArray⟩ ⟨e.module.toArray⟩ (decide (e.num<0)) (.slice am wn cm) e.yes (.slice ae e.aB.length ce) e.at_) 60);have hN:=aX w (.cells (aR e.op ⟨e.name.toArray⟩ ⟨e.module.toArray⟩ (decide (e.num<0)) (.slice am wn cm) e.yes (.slice ae e.aB.length ce) e.at_) 60);have hb1:=hbd.mE hal
 have hlv:=λW=>VF e.op ⟨e.name.toArray⟩ ⟨e.module.toArray⟩ (decide (e.num<0)) am wn cm e.yes ae e.aB.length ce e.at_ W
 have HLV:=ay hlv;have HE:=ay (λ(acc':aH) (W:World) (hW:Below B' w W) (hb:lV B' b acc' W 225) (hn':acc'.length+e.text.length<=1099511627776)=>he B B' b am wn cm ae ce acc' W (h.frame (aW.rV hW (λk hk=>by omega))) mZ hb (jq hB hW.size) hn')
 have hp:rU least (e.op,e.text)=if KE e.op<least then [40]++e.text++[41] else e.text:=rfl
 have HP:=ay hp;clear h he hbd hlv hp;generalize rU least (e.op,e.text)=out at *;generalize e.text=tx at *;generalize decide (e.num<0)=ng at *;generalize e.op=op at *;generalize KE op=lv at *;have yj:=hal.mono hB
 by_cases hl:lv<least
 ·have HO:Hid (out=[40]++tx++[41]):=ay (by rw[HP.out,bR hl])
  have hln:acc.length+1+tx.length+1<=1099511627776:=by
   have:=congrArg List.length HO.out;simp only[bY,fu,jC] at this;omega
  clear HP hn;go_enter Tryz.func237,Tryz.ntmps237
  go_upto_region 1 with fail
  change Code.wp _ _ _ _ (w.alloc (.cells (aR op ⟨e.name.toArray⟩ ⟨e.module.toArray⟩ ng (.slice am wn cm) e.yes (.slice ae e.aB.length ce) e.at_) 60));generalize w.alloc _=w1 at hal hN hb1 yj |-;have hB1:=jq hB hal.size;obtain⟨y0,y1,y2,y3,y4,y5,y6,y7⟩:=aI hN;have hl1:=(bP hN).1
  go_upto_region 3 with (go_at_call 278;refine(HLV.out _).mono ?_;rintro r w2 ⟨rfl,hb2⟩)
  have s2:=(iK.start hb1).below hb2 hB1;have hz2:=s2.kW.size;clear y0 y1 y2 y3 y4 y5 y6 y7
  go_upto_region 4 with (go_at_call 120;refine(dO ⟨#[40]⟩ B' b acc w2 s2.lU (by omega) (by show acc.length+1<=_;omega)).mono ?_;rintro r w3 h3;obtain rfl:=h3.eq)
  have s3:=s2.write h3;have hz3:=s3.kW.size;obtain⟨y0,y1,y2,y3,y4,y5,y6,y7⟩:=aI (s3.box hb1 hN (by decide) (by decide));have HE3:=ay (HE.out (acc++[40]) w3 (yj.trans s3.kW) s3.lU (by rw[bY];simp;omega))
  go_upto_region 5 with (go_at_call 184;refine HE3.out.mono ?_;rintro r w4 h4;obtain rfl:=h4.eq)
  have s4:=s3.write h4;have BJ:=s4.kW.size;clear y0 y1 y2 y3 y4 y5 y6 y7;go_wp2_with (go_at_call 120;refine(dO ⟨#[41]⟩ B' b (acc++[40]++tx) w4 s4.lU (by omega) (by show (acc++[40]++tx).length+1<=_;simp;omega)).mono ?_;rintro r w5 h5;obtain rfl:=h5.eq)
  go_end0
  have:=bS.from hal hB (s4.write h5)
  rw[HO.out]
  simpa [om] using this
 ·have HO:Hid (out=tx):=ay (by rw[HP.out,aU hl])
  have hln:acc.length+tx.length<=1099511627776:=by rw[<- HO.out];exact hn
  have hl':least<=lv:=by omega
  clear HP hn hl;go_enter Tryz.func237,Tryz.ntmps237
  go_upto_region 1 with fail
  change Code.wp _ _ _ _ (w.alloc (.cells (aR op ⟨e.name.toArray⟩ ⟨e.module.toArray⟩ ng (.slice am wn cm) e.yes (.slice ae e.aB.length ce) e.at_) 60));generalize w.alloc _=w1 at hal hN hb1 yj |-;have hB1:=jq hB hal.size;obtain⟨y0,y1,y2,y3,y4,y5,y6,y7⟩:=aI hN
  go_upto_region 2 with (go_at_call 278;refine(HLV.out _).mono ?_;rintro r w2 ⟨rfl,hb2⟩)
  have s2:=(iK.start hb1).below hb2 hB1;clear y0 y1 y2 y3 y4 y5 y6 y7;obtain⟨y0,y1,y2,y3,y4,y5,y6,y7⟩:=aI (s2.box hb1 hN (by decide) (by decide));have HE3:=ay (HE.out acc w2 (yj.trans s2.kW) s2.lU hln);go_wp2_with (go_at_call 184;refine HE3.out.mono ?_;rintro r w4 h4;obtain rfl:=h4.eq)
  go_end0
  rw[HO.out]
  exact bS.from hal hB (s2.write h4)
theorem acF (op:Int):0<=KE op:=by
 unfold KE
 repeat' (first|omega|split)
theorem BM (k:Int × aH):rU 0 k=k.2:=by
 have:=acF k.1;unfold rU;rw[aU (by omega)]
def dh:List ByteArray->List PZ->aH
 | s :: ss,x :: xs=>s.data.toList++x.text++dh ss xs
 | _,_=>[]
theorem CW:∀ {ss:List ByteArray} {xs:List PZ} {k:Nat} (h:k<ss.length) (h2:k<xs.length),dh (ss.take (k+1)) (xs.take (k+1))=dh (ss.take k) (xs.take k)++(ss[k].data.toList++xs[k].text)
 | [],_,_,h,_=>absurd h (by simp)
 | _ :: _,[],_,_,h=>absurd h (by simp)
 | s :: ss,x :: xs,0,_,_=>by simp[dh]
 | s :: ss,x :: xs,k+1,h,h2=>by
  have ih:=CW (ss:=ss) (xs:=xs) (k:=k) (by simpa using h) (by simpa using h2);simp only[List.take_succ_cons,dh,H9] at ih |-;rw[ih]
  simp
theorem JK:∀ (ss:List ByteArray) (xs:List PZ) (k:Nat),(dh (ss.take k) (xs.take k)).length<=(dh ss xs).length
 | [],xs,k=>by simp[dh]
 | s :: ss,[],k=>by simp[dh]
 | s :: ss,x :: xs,0=>by simp[dh]
 | s :: ss,x :: xs,k+1=>by
  have:=JK ss xs k;simp only[List.take_succ_cons,dh,bY];omega
theorem kV.at {ae:Option Addr}{ks:List PZ}(h:kV B w ae ks)(hW:Below B w W)(hk:k<ks.length):∃ b off am wn cm ak ck,ae=some ⟨b,off,none⟩/\b<B/\l7 YA (λb=>b<B) W (.slice am wn cm) (.slice ak ks[k].aB.length ck) ks[k] /\
  W.cell? ⟨b,off+k * 8,none⟩=some (.int .i64 ks[k].op)/\W.cell? ⟨b,off+k * 8+1,none⟩=some (.string ⟨ks[k].name.toArray⟩)/\W.cell? ⟨b,off+k * 8+2,none⟩=some (.string ⟨ks[k].module.toArray⟩)/\W.cell? ⟨b,off+k * 8+3,none⟩=some (.bool (decide (ks[k].num<0)))/\W.cell? ⟨b,off+k * 8+4,none⟩=some (.slice am wn cm)/\W.cell? ⟨b,off+k * 8+5,none⟩=some (.bool ks[k].yes)/\W.cell? ⟨b,off+k * 8+6,none⟩=some (.slice ak ks[k].aB.length ck)/\W.cell? ⟨b,off+k * 8+7,none⟩=some (.int .i64 ks[k].at_):=by
 obtain⟨b,off,h1,h2,h3,h4⟩:=h (by omega);obtain⟨am,wn,cm,ak,ck,h5,h6⟩:=h4 k hk;exact⟨b,off,am,wn,cm,ak,ck,h1,h2,h5.frame (aW.rV hW (λb hb=>hb)),(hW.cell (p:=⟨b,off+k * 8,none⟩) h2).trans (h6 0 _ rfl),(hW.cell (p:=⟨b,off+k * 8+1,none⟩) h2).trans (h6 1 _ rfl),(hW.cell (p:=⟨b,off+k * 8+2,none⟩) h2).trans (h6 2 _ rfl),(hW.cell (p:=⟨b,off+k * 8+3,none⟩) h2).trans (h6 3 _ rfl),(hW.cell (p:=⟨b,off+k * 8+4,none⟩) h2).trans (h6 4 _ rfl),(hW.cell (p:=⟨b,off+k * 8+5,none⟩) h2).trans (h6 5 _ rfl),(hW.cell (p:=⟨b,off+k * 8+6,none⟩) h2).trans (h6 6 _ rfl),(hW.cell (p:=⟨b,off+k * 8+7,none⟩) h2).trans (h6 7 _ rfl)⟩
theorem BN (op:Int)(NM MD:ByteArray)(ng:Bool)(am:Option Addr)(wn cm:Nat)(ys:Bool)(ae:Option Addr)(ce:Nat)(a_:Int)(ks:List PZ)(ss:List ByteArray)(hl:ss.length<=ks.length)(hl2:ss.length<=1000)(hk:∀ x∈ks,BL x)(B B' b sb cap:Nat)(fr:Nat × Nat)(acc:aH)(w:World)
  (h:kV B w ae ks) (mZ:B<=B') (hbd:lV B' b acc w 225) (hs:w.heap[sb]?=some (.cells (ss.map Value.string).toArray 9 fr)) (hB:B'<=w.heap.size) (hn:acc.length+(dh ss ks).length<=1099511627776) :
  Calls Tryz.prog 238 #[.pointer (some ⟨b,0,none⟩),.agg #[.int .i64 op,.string NM,.string MD,.bool ng,.slice am wn cm,.bool ys,.slice ae ks.length ce,.int .i64 a_],.slice (some ⟨sb,0,none⟩) ss.length cap] w (bS B' b (acc++dh ss ks) w):=by
 have hal:=aA w (.cells (aR op NM MD ng (.slice am wn cm) ys (.slice ae ks.length ce) a_) 60);have hN:=aX w (.cells (aR op NM MD ng (.slice am wn cm) ys (.slice ae ks.length ce) a_) 60);have hb1:=hbd.mE hal;have hs1:=(hal.block sb (bP hs).1).trans hs;have yj:=hal.mono hB;have HH:=ay h;have HK:=ay hk;clear h hk hbd hs;go_enter Tryz.func238,Tryz.ntmps238
 go_upto_region 1 with fail
 change Code.wp _ _ _ _ (w.alloc (.cells (aR op NM MD ng (.slice am wn cm) ys (.slice ae ks.length ce) a_) 60));generalize w.alloc _=w1 at hal hN hb1 yj hs1 |-;have hB1:=jq hB hal.size;have H7:=ay hs1;have HN:=ay hN;have HB1:=ay hb1;clear hs1 hN hb1;go_wp2
 go_loopw [10] (λq wr=>∃ k:Nat,k<=ss.length/\q=.int .i64 k/\iK w1 B' b (acc++dh (ss.take k) (ks.take k)) wr) (λq _=>ss.length - (intOf q).toNat)
 case atStart=>exact⟨0,kJ _,rfl,by simpa [dh] using iK.start HB1.out⟩
 case round =>
  obtain⟨k,hkl,rfl,st⟩:=hrel;have hz:=st.kW.size
  by_cases hlt:k<ss.length
  ·have hS2:=st.box HB1.out H7.out (by decide) (by decide)
   have hx:wr.cell? ⟨sb,k,none⟩=some (.string ss[k]):=by
    rw[aZ hS2];simp[hlt]
   have hsn:=CW hlt (by omega:k<ks.length);have hle:=JK ss ks (k+1);rw[hsn,bY,bY,aY] at hle;have HD:=ay (HK.out _ (nH (by omega:k<ks.length)));have HKZ:=ay (λW hW=>HH.out.at (W:=W) hW (by omega:k<ks.length));have rO:=ay hsn;have HST:=ay st;clear hS2 hsn st;generalize ss[k]=S at hx hle rO;generalize dh (ss.take k) (ks.take k)=c at hle rO HST;generalize ks[k]'(by omega)=x at hle HD HKZ rO
   have nK:(k:Int)<(ss.length:Int):=by omega
   have agf:(k:Int)<(ks.length:Int):=by omega
   have hln:acc.length+c.length+(S.size+x.text.length)<=1099511627776:=by omega
   clear hle
   go_upto_region 5 with (go_at_call 120;refine(dO S B' b (acc++c) wr HST.out.lU (by omega) (by rw[bY];omega)).mono ?_;rintro r w2 h2;obtain rfl:=h2.eq)
   have s2:=HST.out.write h2;have hz2:=s2.kW.size;obtain⟨y0,y1,y2,y3,y4,y5,y6,y7⟩:=aI (s2.box HB1.out HN.out (by decide) (by decide));obtain⟨kb,off,qH,qI,qJ,Mf,ck1,rfl,hkB,hE,x0,x1,x2,x3,x4,x5,x6,x7⟩:=HKZ.out w2 ((yj.trans s2.kW).mono mZ);have HC:=ay (HD.out 0 B B' b qH qI qJ Mf ck1 (acc++c++S.data.toList) w2 hE mZ s2.lU (by omega) (by rw[BM];simp only[bY,aY];omega));have HSS:=ay s2;clear hE HST h2 s2 HKZ HD y0 y1 y2 y3 y4 y5 y7 hx;go_wp2_with (go_at_call 237;refine HC.out.mono ?_;rintro r w3 h3;obtain rfl:=h3.eq);refine⟨⟨k+1,by omega,by go_num,?_⟩,by simp[intOf];omega⟩;have:=HSS.out.write h3;rw[BM] at this;rw[rO.out]
   simpa [om] using this
  ·obtain rfl:k=ss.length:=by omega
   have nK:decide ((ss.length:Int)<(ss.length:Int))=false:=dX (by omega)
   have hp:dh (ss.take ss.length) (ks.take ss.length)=dh ss ks:=by
    have:∀ (ss:List ByteArray) (ks:List PZ),dh (ss.take ss.length) (ks.take ss.length)=dh ss ks:=by
     intro ss
     induction ss with
     | nil=>intro ks;simp[dh]
     | cons s ss ih =>
      intro ks
      cases ks with
      | nil=>simp[dh]
      | cons x xs=>simp only[fu,List.take_succ_cons,dh,ih]
    exact this ss ks
   rw[hp] at st;have HST:=ay st;clear st hp;go_wp2
   go_end0
   exact bS.from hal hB HST.out
theorem sI:∀ (l:List aH) (t:aH),bO (l++[t])=if l=[] then t else bO l++[44,32]++t
 | [],t=>rfl
 | [a],t=>by simp[bO]
 | a :: b :: l,t=>by
  have ih:=sI (b :: l) t;rw[aU (by simp)] at ih |-;simp only[pJ] at ih |-;rw[bO,ih,bO]
  simp
theorem BO:∀ (l r:List aH),(bO l).length<=(bO (l++r)).length
 | l,[]=>by simp
 | l,t :: r=>by
  have h:=BO (l++[t]) r;rw[om] at h;have h2:=sI l t;refine jq ?_ h;rw[h2]
  split
  ·rename_i q;subst q;simp[bO]
  ·simp only[bY];omega
 termination_by _ r=>r.length
def YZ (f:FuncId)(lb:Array Value)(B' b:Nat)(w:World)(x:PZ):Prop:=∀ (acc:aH) (W:World) (am:Option Addr) (wn cm:Nat) (ak:Option Addr) (ck:Nat),iK w B' b acc W->l7 YA (λk=>k<B') W (.slice am wn cm) (.slice ak x.aB.length ck) x->acc.length+x.text.length<=1099511627776 ->
 Calls Tryz.prog f (#[.agg #[.int .i64 x.op,.string ⟨x.name.toArray⟩,.string ⟨x.module.toArray⟩,.bool (decide (x.num<0)),.slice am wn cm,.bool x.yes,.slice ak x.aB.length ck,.int .i64 x.at_]]++lb) W (bS B' b (acc++x.text) W)
theorem Y3 (f:FuncId)(lb:Array Value)(eg:∀ args w,(callFunc f args).run Tryz.prog w=.ok (.enter f args) w)(ks:List PZ)(B B' b:Nat)(ae:Option Addr)(ce:Nat)(acc:aH)(w:World)(hk:∀ x∈ks,YZ f lb B' b w x)(h:kV B w ae ks)(mZ:B<=B')(hbd:lV B' b acc w 225)(hB:B'<=w.heap.size)(hn:acc.length+(bO (ks.map PZ.text)).length<=1099511627776)(hkl:ks.length<=1000000) :
  Calls Tryz.prog 279 #[.pointer (some ⟨b,0,none⟩),.slice ae ks.length ce,.func (.func f) #[] lb] w (bS B' b (acc++bO (ks.map PZ.text)) w):=by
 have HH:=ay h;have HK:=ay hk;have HB:=ay hbd;clear h hk hbd;go_enter Tryz.func279,Tryz.ntmps279;go_wp2
 go_loopw [6,10] (λ_ q wr=>∃ k:Nat,k<=ks.length/\q=.int .i64 k/\iK w B' b (acc++bO ((ks.map PZ.text).take k)) wr) (λ_ q _=>ks.length - (intOf q).toNat)
 case atStart=>exact⟨0,kJ _,rfl,by simpa [bO] using iK.start HB.out⟩
 case round =>
  obtain⟨k,hkk,rfl,st⟩:=hrel;have hz:=st.kW.size
  by_cases hlt:k<ks.length
  ·have hlm:k<(ks.map PZ.text).length:=by simpa using hlt
   have hts:(ks.map PZ.text).take (k+1)=(ks.map PZ.text).take k++[ks[k].text]:=by rw[zF hlm];simp
   have hsn:=sI ((ks.map PZ.text).take k) ks[k].text;rw[<- hts] at hsn;have hle:=BO ((ks.map PZ.text).take (k+1)) ((ks.map PZ.text).drop (k+1));rw[List.take_append_drop] at hle
   have hnil:((ks.map PZ.text).take k=[])↔k=0:=by
    constructor
    ·intro q
     have:=congrArg List.length q;rw[pK,jC] at this;omega
    ·rintro rfl;rfl
   simp only[hnil] at hsn;have HD:=ay (HK.out _ (nH hlt));obtain⟨kb,off,qH,qI,qJ,Mf,ck1,rfl,hkB,hE,x0,x1,x2,x3,x4,x5,x6,x7⟩:=HH.out.at (st.kW.mono mZ) hlt;have rO:=ay hsn;have HST:=ay st
   have hc0:k=0->bO ((ks.map PZ.text).take k)=[]:=by rintro rfl;rfl
   have VH:=ay hc0;clear hsn hts hlm hnil st hc0;generalize bO ((ks.map PZ.text).take k)=c at rO HST VH;generalize hcc:bO ((ks.map PZ.text).take (k+1))=c2 at hle rO;have HCC:=ay hcc;clear hcc;generalize ks[k]=x at *
   have nK:(k:Int)<(ks.length:Int):=by omega
   have hln:acc.length+c2.length<=1099511627776:=by omega
   have hal:=aA wr (.cells (aR x.op ⟨x.name.toArray⟩ ⟨x.module.toArray⟩ (decide (x.num<0)) (.slice qH qI qJ) x.yes (.slice Mf x.aB.length ck1) x.at_) 60);have hN:=aX wr (.cells (aR x.op ⟨x.name.toArray⟩ ⟨x.module.toArray⟩ (decide (x.num<0)) (.slice qH qI qJ) x.yes (.slice Mf x.aB.length ck1) x.at_) 60);have s1:=HST.out.below hal hB;have hE1:=hE.frame (aW.rV (hal.mono (jq hB hz)) (λb hb=>by omega:∀ b,b<B->b<B'));clear hle hE
   go_upto_region 3 with fail
   change Code.wp _ _ _ _ (wr.alloc (.cells (aR x.op ⟨x.name.toArray⟩ ⟨x.module.toArray⟩ (decide (x.num<0)) (.slice qH qI qJ) x.yes (.slice Mf x.aB.length ck1) x.at_) 60));clear x0 x1 x2 x3 x4 x5 x6 x7;generalize wr.alloc _=w1 at hal hN s1 hE1 |-;have hz1:=hal.size
   by_cases h0:k=0
   ·have Y4:Hid (c2=x.text):=ay (by rw[rO.out,bR h0])
    have hc0:=VH.out h0;subst hc0;rw[List.append_nil] at s1;have HX:=ay (HD.out acc w1 qH qI qJ Mf ck1 s1 (hE1.imp λb hb _=>by omega) (by rw[<- Y4.out];exact hln));have zH:Hid (bO ((ks.map PZ.text).take (k+1))=c2):=HCC;have H7:=ay s1;obtain⟨y0,y1,y2,y3,y4,y5,y6,y7⟩:=aI hN
    have VI:(k:Int)<=0:=by omega
    clear rO HST HD hal hN s1 hE1 VH HCC h0;go_wp2_with (go_at_fn f;refine HX.out.mono ?_;rintro r w3 h3;obtain rfl:=h3.eq);refine⟨⟨k+1,by omega,by go_num,?_⟩,by simp[intOf];omega⟩;rw[zH.out,Y4.out];exact H7.out.write h3
   ·have Y4:Hid (c2=c++[44,32]++x.text):=ay (by rw[rO.out,aU h0])
    have hl2:acc.length+c.length+2+x.text.length<=1099511627776:=by
     have:=congrArg List.length Y4.out;simp only[bY,fu,jC] at this;omega
    have VI:(0:Int)<(k:Int):=by omega
    have zH:Hid (bO ((ks.map PZ.text).take (k+1))=c2):=HCC;clear h0 rO VH HCC hln
    go_upto_region 5 with (go_at_call 120;refine(dO ⟨#[44,32]⟩ B' b (acc++c) w1 s1.lU (by omega) (by show (acc++c).length+2<=_;rw[bY];omega)).mono ?_;rintro r w2 h2;obtain rfl:=h2.eq)
    have s2:=s1.write h2;obtain⟨y0,y1,y2,y3,y4,y5,y6,y7⟩:=aI (s1.lU.block h2.2.2.2 hN (by decide) (by decide));have HX:=ay (HD.out (acc++c++[44,32]) w2 qH qI qJ Mf ck1 s2 ((hE1.frame (aW.rV h2.2.2.1 λb hb=>by omega)).imp λb hb _=>by omega) (by simp only[bY,fu,jC];omega));have H7:=ay s2;clear HST HD hal hN s1 hE1 s2 h2;go_wp2_with (go_at_fn f;refine HX.out.mono ?_;rintro r w3 h3;obtain rfl:=h3.eq);refine⟨⟨k+1,by omega,by go_num,?_⟩,by simp[intOf];omega⟩;have:=H7.out.write h3;rw[zH.out,Y4.out]
    simpa [om] using this
  ·obtain rfl:k=ks.length:=by omega
   have nK:decide ((ks.length:Int)<(ks.length:Int))=false:=dX (by omega);rw[show (ks.map PZ.text).take ks.length=ks.map PZ.text by rw[Ba (by simp)]] at st;have HST:=ay st;clear st;go_wp2
   go_end0
   exact⟨rfl,HST.out.lU,HST.out.kW,HST.out.kept⟩
theorem VJ (x:PZ)(hx:BL x)(B' b tb:Nat)(acc0:aH)(w:World)(hb0:lV B' b acc0 w 225)(ht:w.heap[tb]?=some (.cells #[.pointer (some ⟨b,0,none⟩)] 220 (0,0)))(hB:B'<=w.heap.size) :
  YZ 280 #[.pointer (some ⟨tb,0,none⟩)] B' b w x:=by
 intro acc W am wn cm ak ck st hE hn;have hT:=st.box hb0 ht (by decide) (by decide);have hal:=aA W (.cells (aR x.op ⟨x.name.toArray⟩ ⟨x.module.toArray⟩ (decide (x.num<0)) (.slice am wn cm) x.yes (.slice ak x.aB.length ck) x.at_) 60);have hN:=aX W (.cells (aR x.op ⟨x.name.toArray⟩ ⟨x.module.toArray⟩ (decide (x.num<0)) (.slice am wn cm) x.yes (.slice ak x.aB.length ck) x.at_) 60);have hBW:=jq hB st.kW.size;have hT1:=(hal.block tb (bP hT).1).trans hT;have s1:=(iK.start st.lU).below hal hBW;have HX:=ay (λhl=>hx 0 B' B' b am wn cm ak ck acc (W.alloc (.cells (aR x.op ⟨x.name.toArray⟩ ⟨x.module.toArray⟩ (decide (x.num<0)) (.slice am wn cm) x.yes (.slice ak x.aB.length ck) x.at_) 60)) (hE.frame (aW.of hal)) (bD _) s1.lU (jq hBW hal.size) hl);rw[BM] at HX;have JH:=ay (HX.out hn);show Calls _ _ #[_,_] _ _;clear hE hn hx HX st hT ht hb0;go_enter Tryz.func280,Tryz.ntmps280
 go_upto_region 1 with fail
 change Code.wp _ _ _ _ (W.alloc (.cells (aR x.op ⟨x.name.toArray⟩ ⟨x.module.toArray⟩ (decide (x.num<0)) (.slice am wn cm) x.yes (.slice ak x.aB.length ck) x.at_) 60));generalize W.alloc _=w1 at hal hN hT1 s1 JH |-;obtain⟨y0,y1,y2,y3,y4,y5,y6,y7⟩:=aI hN
 have yt:w1.cell? ⟨tb,0,none⟩=some (.pointer (some ⟨b,0,none⟩)):=by rw[aZ hT1];rfl
 go_wp2_with (go_at_call 237;refine JH.out.mono ?_;rintro r w3 h3;obtain rfl:=h3.eq)
 go_end0
 exact⟨rfl,h3.2.1,(hal.mono hBW).trans h3.2.2.1,(rA hal).trans h3.2.2.2⟩
theorem iK.drew {w W:World}{B' b:Nat}{acc:aH}(h:iK w B' b acc W):iK w B' b acc W.drew:=⟨h.lU.drew,h.kW.drew,h.kept.drew⟩
theorem qy {z u:Value}(h:w.heap[b]?=some (.cells #[x,y,z,u] 320 (0,0))):w.cell? ⟨b,0,none⟩=some x/\w.cell? ⟨b,1,none⟩=some y/\w.cell? ⟨b,2,none⟩=some z/\w.cell? ⟨b,3,none⟩=some u:=by
 refine⟨?_,?_,?_,?_⟩<;>(rw[aZ h];rfl)
theorem Y5 (op:Int)(NM MD:ByteArray)(ng:Bool)(am:Option Addr)(wn cm:Nat)(ys:Bool)(ae:Option Addr)(ce:Nat)(a_:Int)(ks:List PZ)(hk:∀ x∈ks,BL x)(B B' b:Nat)(acc:aH)(w:World)(hkl:ks.length<=1000000)
  (h:kV B w ae ks) (mZ:B<=B') (hbd:lV B' b acc w 225) (hB:B'<=w.heap.size) (out:aH) (ho:out=(if MD.data.toList=[] then [] else MD.data.toList++[46])++NM.data.toList++[40]++bO (ks.map PZ.text)++[41]) (hn:acc.length+out.length<=1099511627776) :
  Calls Tryz.prog 239 #[.pointer (some ⟨b,0,none⟩),.agg #[.int .i64 op,.string NM,.string MD,.bool ng,.slice am wn cm,.bool ys,.slice ae ks.length ce,.int .i64 a_]] w (bS B' b (acc++out) w):=by
 have hlo:=congrArg List.length ho;have HO:=ay ho;clear ho;have hal:=(aA w (.cells #[.pointer (some ⟨b,0,none⟩)] 220)).alloc (by simp) (.cells (aR op NM MD ng (.slice am wn cm) ys (.slice ae ks.length ce) a_) 60);have hT:=(gZ (w.alloc (.cells #[.pointer (some ⟨b,0,none⟩)] 220)) (.cells (aR op NM MD ng (.slice am wn cm) ys (.slice ae ks.length ce) a_) 60) w.heap.size (by simp)).trans (aX w (.cells #[.pointer (some ⟨b,0,none⟩)] 220));have hN:=aX (w.alloc (.cells #[.pointer (some ⟨b,0,none⟩)] 220)) (.cells (aR op NM MD ng (.slice am wn cm) ys (.slice ae ks.length ce) a_) 60);rw[nG] at hN;have hb1:=hbd.mE hal;have yj:=hal.mono hB;have HH:=ay h;have HK:=ay hk;clear h hk hbd;go_enter Tryz.func239,Tryz.ntmps239
 go_upto_region 1 with fail
 change Code.wp _ _ _ _ ((w.alloc (.cells #[.pointer (some ⟨b,0,none⟩)] 220)).alloc (.cells (aR op NM MD ng (.slice am wn cm) ys (.slice ae ks.length ce) a_) 60));generalize (w.alloc _).alloc _=w1 at hal hN hT hb1 yj |-;have hB1:=jq hB hal.size;obtain⟨y0,y1,y2,y3,y4,y5,y6,y7⟩:=aI hN
 have yt:w1.cell? ⟨w.heap.size,0,none⟩=some (.pointer (some ⟨b,0,none⟩)):=by rw[aZ hT];rfl
 have HB1:=ay hb1;have HN:=ay hN;have HT:=ay hT
 obtain⟨md,hmd⟩:∃ md,md=if MD.data.toList=[] then [] else MD.data.toList++[46]:=⟨_,rfl⟩
 rw[<- hmd] at hlo;have HMD:=ay hmd;clear hb1 hN hT hmd;simp only[bY,aY,fu,jC] at hlo
 have hle:acc.length+md.length+NM.size+1+(bO (ks.map PZ.text)).length+1<=1099511627776:=by omega
 clear hlo hn
 go_upto_if 6 with fail
 generalize ht:(!MD.toList.isEmpty)=t;rw[(BD MD).1] at ht
 go_cut [6] (λs wc=>iK w1 B' b (acc++md) wc)
 case first =>
  by_cases hm:MD.data.toList=[]
  ·rw[jV hm] at ht
   obtain rfl:t=false:=ht.symm
   have ahK:md=[]:=by rw[HMD.out,bR hm]
   subst ahK;clear hm;go_wp2
   go_meet
   rw[List.append_nil];exact iK.start HB1.out
  ·rw[dX hm] at ht
   obtain rfl:t=true:=ht.symm;have Rt:Hid (md=MD.data.toList++[46]):=ay (by rw[HMD.out,aU hm]);have hml:=congrArg List.length Rt.out;simp only[bY,aY,fu,jC] at hml
   have ajc:MD.size+1<=md.length:=by omega
   clear hm hml;go_wp2_with (go_at_call 120;refine(xO MD ⟨#[46]⟩ B' b acc w1 HB1.out hB1 (by show acc.length+MD.size+1<=_;omega)).mono ?_;rintro r w2 h2;obtain rfl:=h2.eq)
   go_meet
   rw[Rt.out];exact(iK.start HB1.out).write h2
 case rest =>
  obtain⟨wo,rfl⟩:∃ wo:World,wo=wc:=⟨_,rfl⟩
  have hzo:=hcut.kW.size;clear y0 y1 y2 y3 y4 y5 y6 y7 yt ht;obtain⟨y0,y1,y2,y3,y4,y5,y6,y7⟩:=aI (hcut.box HB1.out HN.out (by decide) (by decide))
  have yt:wo.cell? ⟨w.heap.size,0,none⟩=some (.pointer (some ⟨b,0,none⟩)):=by rw[aZ (hcut.box HB1.out HT.out (by decide) (by decide))];rfl
  go_upto_region 4 with (go_at_call 120;refine(xO NM ⟨#[40]⟩ B' b (acc++md) wo hcut.lU (by omega) (by show (acc++md).length+NM.size+1<=_;rw[bY];omega)).mono ?_;rintro r w2 h2;obtain rfl:=h2.eq)
  have s2:=hcut.write h2;have hz2:=s2.kW.size;clear y0 y1 y2 y3 y4 y5 y6 y7 yt h2 hcut;have T2:=s2.box HB1.out HT.out (by decide) (by decide);obtain⟨y0,y1,y2,y3,y4,y5,y6,y7⟩:=aI (s2.box HB1.out HN.out (by decide) (by decide))
  have yt:w2.cell? ⟨w.heap.size,0,none⟩=some (.pointer (some ⟨b,0,none⟩)):=by rw[aZ T2];rfl
  have HL:=ay (Y3 280 #[.pointer (some ⟨w.heap.size,0,none⟩)] (enters_of Tryz.func280 (by kernel_rfl) rfl) ks B B' b ae ce (acc++md++(NM.data.toList++[40])) w2 (λx hx=>VJ x (HK.out x hx) B' b w.heap.size _ w2 s2.lU T2 (by omega)) (λh0=>by
   obtain⟨kb,off,q1,q2,q3,q4⟩:=HH.out h0;have hb2:=(yj.trans s2.kW).mono mZ;refine⟨kb,off,q1,q2,xw q3 hb2.size,λi hi=>?_⟩;obtain⟨Ef,wn',Eh,Le,Lf,q5,q6⟩:=q4 i hi
   exact⟨Ef,wn',Eh,Le,Lf,q5.frame (aW.rV hb2 λb hb=>hb),λj u hu=>(hb2.cell (p:=⟨kb,off+i * 8+j,none⟩) q2).trans (q6 j u hu)⟩) mZ s2.lU (by omega) (by simp only[bY,aY,fu,jC];omega) hkl)
  go_upto_region 5 with (go_at_call 279;refine HL.out.mono ?_;rintro r w3 h3;obtain rfl:=h3.eq)
  have s3:=s2.write h3;have hz3:=s3.kW.size;clear y0 y1 y2 y3 y4 y5 y6 y7 yt h3 s2 HL T2
  have yt:w3.cell? ⟨w.heap.size,0,none⟩=some (.pointer (some ⟨b,0,none⟩)):=by rw[aZ (s3.box HB1.out HT.out (by decide) (by decide))];rfl
  go_wp2_with (go_at_call 120;refine(dO ⟨#[41]⟩ B' b _ w3 s3.lU (by omega) (by show List.length _+1<=_;simp only[bY,aY,fu,jC];omega)).mono ?_;rintro r w4 h4;obtain rfl:=h4.eq)
  go_end0
  have:=bS.from hal hB (s3.write h4)
  rw[HO.out,<- HMD.out]
  simpa [om] using this
