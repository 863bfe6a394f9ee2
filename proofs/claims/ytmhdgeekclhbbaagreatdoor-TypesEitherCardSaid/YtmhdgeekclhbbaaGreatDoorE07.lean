/- Walks and plain laws, without a condition. -/
import Derived.Test.YtmhdgeekclhbbaaGreatDoorE06
import Derived.Lib.ItoaNum
import Derived.Lib.TrimByte
set_option maxHeartbeats 16000000
set_option maxRecDepth 100000
set_option linter.unusedVariables false
set_option linter.unusedSimpArgs false
namespace Go.Proofs.YtmhdgeekclhbbaaGreatDoor
open Go.RowKit Go
def jM (w:World)(kb:Nat)(l6:List Bool):Prop:=w.heap[kb]?=some (.cells (l6.map Value.bool).toArray 4 (0,0))
theorem jM.cell {w:World}{kb:Nat}{l6:List Bool}(h:jM w kb l6){j:Nat}(hj:j<l6.length):w.cell? ⟨kb,j,none⟩=some (.bool l6[j]):=by
 rw[bg h];simp[hj]
theorem jM.free {w:World}{kb:Nat}{l6:List Bool}(h:jM w kb l6)(j:Nat):w.frozen? ⟨kb,j,none⟩=false:=by simp[World.frozen?,show w.heap[kb]?=_ from h]
theorem jM.set {w:World}{kb:Nat}{l6:List Bool}(h:jM w kb l6)(j:Nat)(b:Bool):jM (w.setCell ⟨kb,j,none⟩ (.bool b)) kb (l6.set j b):=by
 have:=kG w kb j _ _ (.bool b) h;rw[jM,this];simp[List.map_set]
theorem JU (kb m cap:Nat)(l6:List Bool)(p:Bool)(w:World)(h:jM w kb l6)(hm:m<=l6.length)(hn:l6.length<=1099511627776)(hp:p=(l6.take m).contains false) :
  Calls Tryz.prog 297 #[.slice (some ⟨kb,0,none⟩) m cap,.bool false] w (agx p w):=by
 have HM:=ay (λ(j:Nat) (hj:j<l6.length)=>h.cell hj);have HP:=ay hp;clear h hp;go_enter Tryz.func297,Tryz.ntmps297;go_wp2
 go_loop [8] (λq=>∃ k:Nat,k<=m/\q=.int .i64 k/\∀ j,(hj:j<l6.length)->j<k->l6[j]=true) (λq=>m - (intOf q).toNat)
 case atStart=>exact⟨0,mD _,rfl,λj _ h=>absurd h (by omega)⟩
 case round =>
  obtain⟨k,hk,rfl,hj⟩:=hrel
  by_cases hlt:k<m
  ·have hx:=HM.out k (by omega)
   have hI:(k:Int)<(m:Int):=by omega
   cases hv:l6[k] with
   | false =>
    rw[hv] at hx
    have hc:(l6.take m).contains false=true:=by
     rw[List.contains_iff_mem,<- hv];exact List.mem_take_iff_getElem.2 ⟨k,by omega,rfl⟩
    have HC:=ay hc;clear hj hv hc;go_wp2;go_ret;exact⟨⟨k,rfl,⟨λ_=>HP.out.trans HC.out,λ_=>by omega⟩,by omega⟩,rfl⟩
   | true =>
    rw[hv] at hx
    have HJ:Hid (∀ j,(hj:j<l6.length)->j<k+1->l6[j]=true):=ay (λj hjl hjk=>by
     by_cases hkj:j=k
     ·subst hkj;exact hv
     ·exact hj j hjl (by omega))
    clear hj hv;go_wp2
    go_round
    case rel=>exact⟨k+1,by omega,by go_num,HJ.out⟩
    case measure=>simp[intOf];omega
  ·obtain rfl:k=m:=by omega
   have hc:(l6.take k).contains false=false:=by
    rw[<- wT,List.contains_iff_mem];intro q;obtain⟨j,hj1,hj2⟩:=List.mem_take_iff_getElem.1 q;rw[hj j (by omega) (by omega)] at hj2;cases hj2
   have HC:=ay hc;have hI:decide ((k:Int)<(k:Int))=false:=fu (by omega);clear hj hc;go_wp2;go_ret;exact⟨⟨-1,rfl,⟨λh=>by omega,λh=>by rw[HP.out,HC.out] at h;cases h⟩,by omega⟩,rfl⟩
theorem uU (kb m cap:Nat)(l6:List Bool)(w:World)(h:jM w kb l6)(hm:m<=l6.length)(hn:l6.length<=1099511627776) :
  Calls Tryz.prog 276 #[.slice (some ⟨kb,0,none⟩) m cap,.bool false] w λe w'=>e=.returned (.bool ((l6.take m).contains false))/\w'=w:=by
 have H:=ay (JU kb m cap l6 _ w h hm hn rfl);clear h;go_enter Tryz.func276,Tryz.ntmps276;go_wp2_with (go_at_call 297;refine H.out.mono ?_);rintro e w1 ⟨⟨r,rfl,hr,_⟩,rfl⟩
 have hq:((l6.take m).contains false)=decide (0<=r):=by
  by_cases h:0<=r
  ·rw[kS h];exact hr.1 h
  ·rw[fu h,<- wT];exact λq=>h (hr.2 q)
 have HQ:=ay hq;clear hq hr;go_wp2;go_ret;exact⟨bF HQ.out.symm,rfl⟩
theorem Tryz.ZX:(Tryz.prog.info? 4).map (λi=>(i.zero,i.size,i.bytes))=some (some (.bool false),1,1):=by kernel_rfl
theorem Gu (n:Nat):(madeCells (Value.bool false).cells (n * 1))=((List.replicate n false).map Value.bool).toArray:=by
 apply Array.toList_inj.1
 have:=toList_madeCells_one (.bool false) n;rw[Nat.mul_one];show (madeCells #[Value.bool false] n).toList=_;rw[this]
 simp
theorem KA (B:Nat)(tv nv:Value)(ah:List Tok)(aj:List Nd)(l:List Int)(g:Nat)(w:World)(h:bE B w (.agg #[tv,nv]) ah aj)(hB:B<=w.heap.size)(hn:aj.length<=1000000)(hkl:∀ n∈aj,n.aA.length<=1000000)
  (hlv:∀ l6,rW ah.length aj=some l6->l6.length≠0->(l6.take (aj.length - 1)).contains false=false->gG aj g [((aj.length:Nat):Int) - 1] []=some l) (hll:l.length<=549755813888) (ajP:ah.length<=1099511627776) :
  Calls Tryz.prog 233 #[.agg #[tv,nv]] w λe w'=>e=.returned (.bool (mW ah.length aj l))/\Below w.heap.size w w':=by
 obtain⟨i0,hi,hz0,hz1,hz2⟩:=info_parts Tryz.ZX;obtain⟨at_,ct,an,cn,hv⟩:=h.slices;simp only[Value.agg.injEq,Array.mk.injEq,List.cons.injEq,and_true] at hv;obtain⟨rfl,rfl⟩:=hv;have hmk:=run_make (P:=Tryz.prog) (w.alloc (.cells #[.slice at_ ah.length ct,.slice an aj.length cn] 81)) 327 4 i0 (.bool false) Tryz.underlying327 hi hz0 .i64 .i64 aj.length aj.length (by omega) (by omega) (by rw[hz2];omega) (by omega);rw[hz1,Int.toNat_natCast,Gu] at hmk;have HT:=ay h;have HLV:=ay hlv;have HKL:=ay hkl;clear h hlv hkl;go_enter Tryz.func233,Tryz.ntmps233;go_wp2;have T2:=(iB (w.alloc (.cells #[.slice at_ ah.length ct,.slice an aj.length cn] 81)) (.cells (Array.replicate aj.length (Value.bool false)) 4) w.heap.size (by simp)).trans (aZ w (.cells #[.slice at_ ah.length ct,.slice an aj.length cn] 81))
 have G2:jM ((w.alloc (.cells #[.slice at_ ah.length ct,.slice an aj.length cn] 81)).alloc (.cells (Array.replicate aj.length (Value.bool false)) 4)) (w.heap.size+1) (List.replicate aj.length false):=by
  have:=aZ (w.alloc (.cells #[.slice at_ ah.length ct,.slice an aj.length cn] 81)) (.cells (Array.replicate aj.length (Value.bool false)) 4);rw[oU] at this;rw[jM,this]
  simp
 have hb2:Below w.heap.size w ((w.alloc (.cells #[.slice at_ ah.length ct,.slice an aj.length cn] 81)).alloc (.cells (Array.replicate aj.length (Value.bool false)) 4)):=((bY _ w).alloc (bI _) _).alloc (by simp) _;clear hmk;generalize (w.alloc _).alloc _=W2 at T2 G2 hb2 |-
 go_loopw [18] (λq wr=>∃ (i:Nat) (l6:List Bool),i<=aj.length/\q=.int .i64 i/\l6.length=aj.length/\oq ah.length i (aj.drop i) l6=rW ah.length aj/\jM wr (w.heap.size+1) l6/\wr.heap[w.heap.size]?=some (.cells #[.slice at_ ah.length ct,.slice an aj.length cn] 81 (0,0))/\Below w.heap.size w wr) (λq _=>aj.length - (intOf q).toNat)
 case atStart=>exact⟨0,List.replicate aj.length false,mD _,rfl,by simp,rfl,G2,T2,hb2⟩
 case round =>
  obtain⟨i,l6,hi',rfl,hkl,hmk,hG,hT,hbl⟩:=hrel;have hz:=hbl.size
  have c0:wr.cell? ⟨w.heap.size,0,none⟩=some (.slice at_ ah.length ct):=by rw[bg hT];rfl
  have c1:wr.cell? ⟨w.heap.size,1,none⟩=some (.slice an aj.length cn):=by rw[bg hT];rfl
  clear T2 G2 hb2
  by_cases hlt:i<aj.length
  ·obtain⟨b,off,cap2,kv,hnv,Vb,hx0,hx1,hx2,hkv⟩:=HT.out.node hlt
   simp only[Value.slice.injEq] at hnv;obtain⟨rfl,-,rfl⟩:=hnv;have hdr:aj.drop i=aj[i] :: aj.drop (i+1):=List.drop_eq_getElem_cons hlt;have hkn:=HKL.out aj[i] (oQ hlt);rw[hdr,oq] at hmk;obtain⟨wN,wO,rfl,_,_⟩:=hkv.form;have x0:=(hbl.cell (p:=⟨b,off+i * 3,none⟩) (by show b<_;omega)).trans hx0;have x1:=(hbl.cell (p:=⟨b,off+i * 3+1,none⟩) (by show b<_;omega)).trans hx1;have x2:=(hbl.cell (p:=⟨b,off+i * 3+2,none⟩) (by show b<_;omega)).trans hx2;have K:=(hkv.mono hB).below hbl
   have hiI:(i:Int)<(aj.length:Int):=by omega
   have HMK:=ay hmk;clear hmk hx0 hx1 hx2 hkv hdr;generalize hnd:aj[i]=nd at x0 x1 x2 K hkn HMK;obtain⟨kind,tok,ks⟩:=nd;simp only at x0 x1 x2 K hkn;have N1:=aZ wr (.cells #[.int .i64 kind,.int .i64 tok,.slice wN ks.length wO] 129);have hbn:=aB wr (.cells #[.int .i64 kind,.int .i64 tok,.slice wN ks.length wO] 129);have T1:=(hbn.block w.heap.size (bU hT).1).trans hT;have G1:jM (wr.alloc (.cells #[.int .i64 kind,.int .i64 tok,.slice wN ks.length wO] 129)) (w.heap.size+1) l6:=(hbn.block _ (bU hG).1).trans hG;have K1:=K.below (hbn.mono hz);have hb1:=hbl.trans (hbn.mono hz)
   go_upto_region 5 with (fail)
   clear c0 c1 x0 x1 x2 K hbn hT hG hbl;generalize wr.heap.size=xb at N1 hz |-;generalize wr.alloc _=W1 at N1 T1 G1 K1 hb1 |-;have hz1:=hb1.size
   have c0:W1.cell? ⟨w.heap.size,0,none⟩=some (.slice at_ ah.length ct):=by rw[bg T1];rfl
   have c1:W1.cell? ⟨w.heap.size,1,none⟩=some (.slice (some ⟨b,off,none⟩) aj.length cn):=by rw[bg T1];rfl
   have y0:W1.cell? ⟨xb,0,none⟩=some (.int .i64 kind):=by rw[bg N1];rfl
   have y1:W1.cell? ⟨xb,1,none⟩=some (.int .i64 tok):=by rw[bg N1];rfl
   have y2:W1.cell? ⟨xb,2,none⟩=some (.slice wN ks.length wO):=by rw[bg N1];rfl
   have HF:=ay (RN at_ (some ⟨b,off,none⟩) ah.length ct aj.length cn i w.heap.size ⟨kind,tok,ks⟩ (.slice wN ks.length wO) W1 K1 hz1 (by simp only;omega))
   by_cases hfm:jK ah.length i ⟨kind,tok,ks⟩=true
   ·have hq:=HMK.out
    rw[bq hfm] at hq;rw[hfm] at HF;have HQ:=ay hq;clear hq HMK;have hlx:=(bU N1).1;go_wp2_with (go_at_call 275;refine HF.out.mono ?_;rintro e w3 ⟨rfl,hb3⟩;have z2:w3.cell? ⟨xb,2,none⟩=some (.slice wN ks.length wO):=(hb3.cell (p:=⟨xb,2,none⟩) hlx).trans y2);have T3:=(hb3.block w.heap.size (bU T1).1).trans T1;have G3:jM w3 (w.heap.size+1) l6:=(hb3.block _ (bU G1).1).trans G1;have K3:=K1.below (hb3.mono hz1);have Gv:=hb1.trans (hb3.mono hz1)
    have JV:∀ k∈ks,0<=k/\k<(i:Int):=by
     unfold jK at hfm
     by_cases h1:kind<1\/19<kind
     ·rw[bq h1] at hfm;cases hfm
     rw[aP h1] at hfm
     by_cases h2:kind=19
     ·rw[bq h2] at hfm
      simp only[qM,uK] at hfm;have:=List.length_eq_zero_iff.1 hfm.1;subst this
      exact λk hk=>by cases hk
     ·rw[aP h2,qM] at hfm
      have h3:=hfm.2;rw[Bool.not_eq_true',<- wT,List.any_eq_true] at h3;intro k hk
      by_cases h4:0<=k/\k<(i:Int)
      ·exact h4
      ·exact absurd ⟨k,hk,by simp only[Bool.or_eq_true,uK];omega⟩ h3
    have HFK:=ay JV;clear hb3 T1 G1 K1 hb1 hz1 c0 c1 y0 y1 y2 N1 HF hfm JV;obtain⟨ajQ,ajR,hvk,_,zu⟩:=K3.form;simp only[Value.slice.injEq] at hvk;obtain⟨rfl,-,rfl⟩:=hvk;have HKF:=ay zu;clear zu z2
    go_loopw [31] (λq wi=>∃ (j:Nat) (WS:List Bool),j<=ks.length/\q=.int .i64 j/\WS.length=aj.length/\(AY WS (ks.drop j)).bind (oq ah.length (i+1) (aj.drop (i+1)))=rW ah.length aj/\jM wi (w.heap.size+1) WS/\(∀ q,q≠w.heap.size+1->wi.heap[q]?=w3.heap[q]?)/\Below w.heap.size w wi) (λq _=>ks.length - (intOf q).toNat)
    case atStart=>exact⟨0,l6,mD _,rfl,hkl,HQ.out,G3,λ_ _=>rfl,Gv⟩
    case round =>
     obtain⟨j,WS,hj,rfl,hkl',hq,hG,hoth,hbl⟩:=hrel
     by_cases hjl:j<ks.length
     ·obtain⟨bk,adG,rfl,hbk,hcell⟩:=HKF.out (by omega)
      have hx:wr.cell? ⟨bk,adG+j,none⟩=some (.int .i64 ks[j]):=(AJ (a:=⟨bk,adG+j,none⟩) (hoth bk (by omega))).trans (hcell j hjl);have hdr:ks.drop j=ks[j] :: ks.drop (j+1):=List.drop_eq_getElem_cons hjl;have hkr:=HFK.out ks[j] (oQ hjl);rw[hdr,AY] at hq;generalize ks[j]=k at hx hkr hq
      obtain⟨k,rfl⟩:∃ kk:Nat,k=(kk:Int):=⟨k.toNat,by omega⟩
      rw[Int.toNat_natCast,Fb,AB (by omega),Option.getD_some] at hq;have hm:=hG.cell (j:=k) (by omega)
      have Md:(j:Int)<(ks.length:Int):=by omega
      have qF:(k:Int)<(aj.length:Int):=by omega
      clear hcell hdr
      cases hv:WS[k]'(by omega) with
      | true =>
       rw[hv] at hm hq;rw[bq rfl,Option.bind_none] at hq;have HRB:Hid (mW ah.length aj l=false):=ay (by rw[mW,<- hq]);clear hq hv;go_wp2;go_ret;exact⟨bF HRB.out.symm,hbl⟩
      | false =>
       rw[hv] at hm hq;rw[aP (by decide)] at hq;have hset:=hG.set k true;have hfz:=hG.free k;have RZ:=ay hq
       have agV:∀ q,q≠w.heap.size+1->(wr.setCell ⟨w.heap.size+1,k,none⟩ (.bool true)).heap[q]?=w3.heap[q]?:=λq hqn=>(qo _ _ _ _ hqn).trans (hoth q hqn)
       clear hq hv;go_wp2
       go_roundw
       case rel=>exact⟨j+1,_,by omega,by go_num,by rw[List.length_set];exact hkl',RZ.out,hset,agV,hbl.setCell (by show w.heap.size<=w.heap.size+1;omega) _⟩
       case measure=>simp[intOf];omega
     ·obtain rfl:j=ks.length:=by omega
      rw[List.drop_length,AY,ko] at hq;have hTi:=(hoth w.heap.size (by omega)).trans T3;have RZ:=ay hq;have Md:decide ((ks.length:Int)<(ks.length:Int))=false:=fu (by omega);clear hq;go_wp2;exact⟨⟨i+1,WS,by omega,by go_num,hkl',RZ.out,hG,hTi,hbl⟩,by simp[intOf];omega⟩
   ·have hq:=HMK.out
    rw[aP hfm] at hq;have HRB:Hid (mW ah.length aj l=false):=ay (by rw[mW,<- hq]);rw[wT] at hfm;rw[hfm] at HF;clear hq HMK;go_wp2_with (go_at_call 275;refine HF.out.mono ?_;rintro e w3 ⟨rfl,hb3⟩);go_ret;exact⟨bF HRB.out.symm,hb1.trans (hb3.mono hz1)⟩
  ·obtain rfl:i=aj.length:=by omega
   rw[List.drop_length,oq] at hmk;have hqI:decide ((aj.length:Int)<(aj.length:Int))=false:=fu (by omega)
   by_cases h0:aj.length=0
   ·have HRB:Hid (mW ah.length aj l=false):=ay (by rw[mW,<- hmk];simp only[hkl,h0];rfl)
    have h0I:((aj.length:Int) == 0)=true:=by simp[h0]
    clear hmk hG;go_wp2;go_ret;exact⟨bF HRB.out.symm,hbl⟩
   ·have h0I:((aj.length:Int) == 0)=false:=by simp[h0]
    have hR:=λ(W:World)=>OI (.slice at_ ah.length ct) an aj.length cn W (by omega)
    have HR:=ay hR;have HG:=ay hG;clear hR
    obtain⟨p,hp⟩:∃ p,p=(l6.take (aj.length - 1)).contains false:=⟨_,rfl⟩
    have HP:=ay hp
    have YN:((aj.length:Int) - 1)=((aj.length - 1:Nat):Int):=by omega
    clear hp hG
    cases p with
    | true =>
     have HRB:Hid (mW ah.length aj l=false):=ay (by rw[mW,<- hmk];simp only;rw[<- HP.out];simp);clear hmk;go_wp2_with (first|(go_at_call 60;refine(HR.out _).mono ?_;rintro e w3 ⟨rfl,hb3⟩;rw[YN])|(go_at_call 276;refine(uU (w.heap.size+1) (aj.length - 1) aj.length l6 _ ((hb3.block _ (bU HG.out).1).trans HG.out) (by omega) (by omega)).mono ?_;rintro e w4 ⟨rfl,rfl⟩;rw[<- HP.out]));go_ret;exact⟨bF HRB.out.symm,hbl.trans (hb3.mono hz)⟩
    | false =>
     have hlq:=HLV.out l6 hmk.symm (by omega) HP.out.symm
     have HRB:Hid (mW ah.length aj l=(qw 0 l && decide (l.length=ah.length))):=ay (by
      rw[mW,<- hmk];simp only;rw[<- HP.out,fu (by omega:¬ l6.length=0)]
      simp)
     have HL:=ay (λ(W:World) (hW:Below w.heap.size w W)=>SI w.heap.size (.slice at_ ah.length ct) (.slice an aj.length cn) ah aj (((aj.length:Nat):Int) - 1) l g W ((HT.out.mono hB).below hW) hW.size (by omega) hlq hll);rw[YN] at HL;clear hmk hlq;go_wp2_with (first|(go_at_call 60;refine(HR.out _).mono ?_;rintro e w3 ⟨rfl,hb3⟩;rw[YN])|(go_at_call 276;refine(uU (w.heap.size+1) (aj.length - 1) aj.length l6 _ ((hb3.block _ (bU HG.out).1).trans HG.out) (by omega) (by omega)).mono ?_;rintro e w4 ⟨rfl,rfl⟩;rw[<- HP.out]));have hb4:=hbl.trans (hb3.mono hz);have T4:=(hb3.block w.heap.size (bU hT).1).trans hT;clear hb3 hbl hT c0 c1 HG HP hkl hz;have D7:=hb4.size
     have c0:w4.cell? ⟨w.heap.size,0,none⟩=some (.slice at_ ah.length ct):=by rw[bg T4];rfl
     have c1:w4.cell? ⟨w.heap.size,1,none⟩=some (.slice an aj.length cn):=by rw[bg T4];rfl
     go_cut [8] (λv wx=>∃ ao cap,v=.slice ao l.length cap/\Ints wx.heap.size wx (.slice ao l.length cap) l/\wx.heap[w.heap.size]?=some (.cells #[.slice at_ ah.length ct,.slice an aj.length cn] 81 (0,0))/\Below w.heap.size w wx)
     case first =>
      have agW:=(bU T4).1
      go_region_with (first|(go_at_call 60;refine(HR.out _).mono ?_;rintro e w5 ⟨rfl,hb5⟩;rw[YN];have d0:=(hb5.cell (p:=⟨w.heap.size,0,none⟩) agW).trans c0;have d1:=(hb5.cell (p:=⟨w.heap.size,1,none⟩) agW).trans c1)|(go_at_call 277;refine(HL.out _ (hb4.drew.trans (hb5.mono D7))).mono ?_;rintro e w6 ⟨v6,rfl,hv6,hb6⟩;obtain⟨al,cl,rfl,_,_⟩:=hv6.form))
      all_goals
       have uF:=(hb4.drew.trans (hb5.mono D7))
       have T6:=(hb6.block w.heap.size (zI (bU T4).1 hb5.size)).trans ((hb5.block w.heap.size (bU T4).1).trans T4);clear c0 c1 d0 d1 T4;go_wp2_with fail
       go_meet
       exact⟨al,cl,rfl,hv6,T6,uF.trans (hb6.mono uF.size)⟩
     case rest =>
      obtain⟨al,cl,rfl,hv,hT,hbc⟩:=hcut;clear hb4 T4 c0 c1 HR HT HLV HKL
      obtain⟨wo,rfl⟩:∃ wo:World,wo=wc:=⟨_,rfl⟩
      have c0:wo.cell? ⟨w.heap.size,0,none⟩=some (.slice at_ ah.length ct):=by rw[bg hT];rfl
      obtain⟨ao,cp,hvv,_,hvf⟩:=hv.form;simp only[Value.slice.injEq] at hvv;obtain⟨rfl,-,rfl⟩:=hvv;have HV:=ay hvf;clear hvf hv hT HL;go_wp2
      go_loopw [60] (λq wr=>∃ j:Nat,j<=l.length/\q=.int .i64 j/\qw 0 l=qw j (l.drop j)/\wr=wo) (λq _=>l.length - (intOf q).toNat)
      case atStart=>exact⟨0,mD _,rfl,rfl,rfl⟩
      case round =>
       obtain⟨j,hj,rfl,hcn,hwr⟩:=hrel;subst hwr
       by_cases hjl:j<l.length
       ·obtain⟨b,off,rfl,hb,hc⟩:=HV.out (by omega)
        have hx:=hc j hjl;rw[List.drop_eq_getElem_cons hjl,qw] at hcn
        have Md:(j:Int)<(l.length:Int):=by omega
        generalize l[j]=x at hx hcn;clear hc
        by_cases hxe:(j:Int)=x
        ·subst hxe
         rw[kS rfl,Bool.true_and] at hcn;have HC:=ay hcn;clear hcn;go_wp2;exact⟨⟨j+1,by omega,by go_num,HC.out,(by first|trivial|rfl)⟩,by simp[intOf];omega⟩
        ·rw[fu hxe,Bool.false_and] at hcn
         have HC:=ay hcn
         have hne:((j:Int) == x)=false:=by simp[hxe]
         clear hcn;go_wp2;go_ret;exact⟨bF (by rw[HRB.out,HC.out];rfl),hbc⟩
       ·obtain rfl:j=l.length:=by omega
        have Md:decide ((l.length:Int)<(l.length:Int))=false:=fu (by omega);rw[List.drop_length,qw] at hcn;have HC:=ay hcn;clear hcn;go_wp2;go_ret;refine⟨bF ?_,hbc⟩;rw[HRB.out,HC.out,Bool.true_and];exact decide_eq_decide.2 (by omega)
variable{w w':World}{acc:aH}{B b k base e sz n:Nat}{fr:Nat × Nat}{cs:Array Value}{xs:List Value}{v:Value}
theorem sizeBuilder:(Tryz.prog.info? 149).map (·.size)=some 2:=by kernel_rfl
class WT (T:TypeId):Prop where
 lies:liesAt Tryz.prog Tryz.prog.depth T (2 / Tryz.prog.cellsOf T) 0 149 1=true
 ne:T≠5
instance:WT 149:=⟨by kernel_rfl,by decide⟩
instance:WT 151:=⟨by kernel_rfl,by decide⟩
theorem Tryz.infoByte:(Tryz.prog.info? 5).map (λi=>(i.zero,i.size,i.bytes))=some (some (.int .u8 0),1,1):=by kernel_rfl
theorem Gw (b:Nat)(w:World)(h0:w.cell? ⟨b,0,none⟩=some (.pointer (some ⟨b,0,none⟩))) :
  Calls Tryz.prog 125 #[.pointer (some ⟨b,0,none⟩)] w λe w'=>e=.returned (.tuple #[])/\w'=w:=by
 obtain⟨j,hj,_⟩:=Option.map_eq_some_iff.1 sizeBuilder;go_enter Tryz.func125,Tryz.ntmps125;go_wp2;rw[Lib.run_neq_ptr_same w _ Tryz.underlying146 hj];go_wp2
 go_end0
 exact⟨rfl,rfl⟩
theorem EN {T:TypeId}[hT:WT T](b:Nat)(w:World)(h0:w.cell? ⟨b,0,none⟩=some (.pointer none))(hsh:w.shape? b=some (T,2))(hfz:w.frozen? ⟨b,0,none⟩=false) :
  Calls Tryz.prog 125 #[.pointer (some ⟨b,0,none⟩)] w λe w'=>e=.returned (.tuple #[])/\w'=w.setCell ⟨b,0,none⟩ (.pointer (some ⟨b,0,none⟩)):=by
 obtain⟨j,hj,hjs⟩:=Option.map_eq_some_iff.1 sizeBuilder;go_enter Tryz.func125,Tryz.ntmps125;go_wp2;rw[Lib.run_to_unsafe w ⟨b,0,none⟩ Tryz.underlying146 Tryz.underlying273 hj (by rw[hjs];decide) hsh (Nat.zero_lt_succ 1)];simp only[Result.andThen];rw[Oper.upon_value];go_wp2;rw[run_callFunc_extern Tryz.func205 (by kernel_rfl) (by kernel_rfl) (by kernel_rfl) (e:=Extern.AbiNoEscape.same) (by kernel_rfl)];rw[Lib.run_noEscape];simp only[Result.andThen];rw[Oper.upon_value];go_wp2;rw[Lib.run_from_unsafe w ⟨b,0,none⟩ Tryz.underlying273 Tryz.underlying146 hj hsh hT.lies];simp only[Result.andThen];rw[Oper.upon_value];go_wp2
 go_end0
 exact⟨rfl,rfl⟩
theorem OX {T:TypeId}[hT:WT T](B b:Nat)(bs:List Value)(w:World)(h:Lib.IsBuilderF T 5 B b bs w) :
  Calls Tryz.prog 125 #[.pointer (some ⟨b,0,none⟩)] w λe w'=>e=.returned (.tuple #[])/\(Lib.BuilderAtF T 5 B b (.pointer (some ⟨b,0,none⟩)) bs w'/\Below B w w'/\Lib.OthersKept 5 (some b) w w'):=by
 rcases h with h|h
 ·refine(EN b w h.cell0 h.shape h.frozen0).mono ?_
  rintro e w' ⟨rfl,rfl⟩;exact⟨rfl,h.used _,(bY B w).setCell (p:=⟨b,0,none⟩) h.1 _,(Lib.OthersKept.refl _ _ w).setCell ⟨b,0,none⟩ rfl _⟩
 ·refine(Gw b w h.cell0).mono ?_
  rintro e w' ⟨rfl,rfl⟩;exact⟨rfl,h,bY B _,Lib.OthersKept.refl _ _ _⟩
theorem writeString {T:TypeId}[hT:WT T](B b:Nat)(bs:List Value)(s:ByteArray)(w:World)(h:Lib.IsBuilderF T 5 B b bs w)(hlen:bs.length+s.size<=140737488355328)(hBw:B<=w.heap.size) :
  Calls Tryz.prog 74 #[.pointer (some ⟨b,0,none⟩),.string s] w λe w'=>e=.returned (.tuple #[.int .i64 s.size,.nilIface])/\(Lib.IsBuilderF T 5 B b (bs++Lib.strCells s) w'/\Below B w w'/\Lib.OthersKept 5 (some b) w w'):=by
 obtain⟨i0,hi,hz0,hz1,hz2⟩:=info_parts Tryz.infoByte;go_enter Tryz.func74,Tryz.ntmps74;go_wp2_with (go_at_call 125;refine(OX B b bs _ h).mono ?_);rintro e w1 ⟨rfl,h1,hb1,hk1⟩;obtain⟨hB,v,hbk,hown,hne⟩:=h1
 have c0:w1.cell? ⟨b,0,none⟩=some (.pointer (some ⟨b,0,none⟩)):=by rw[bg hbk];rfl
 have c1:w1.cell? ⟨b,1,none⟩=some v:=by rw[bg hbk];rfl
 go_wp2_with (at_builtin;refine Lib.wpList_append_own_stringF _ rfl _ _ 147 9 rfl B 5 i0 Tryz.underlying147 Tryz.underlying9 hi hz0 hz1 hz2 _ _ _ rfl hown s rfl ?c3 ?c4 ?c5 ?_)
 case c3=>unfold maxLen;omega
 case c4=>omega
 case c5=>have:=hb1.size;omega
 intro v' w2 hown' hgrow _
 have hlt:b<w1.heap.size:=by
  rcases Nat.lt_or_ge b w1.heap.size with h'|h'
  ·exact h'
  ·simp[Array.getElem?_eq_none h'] at hbk
 have hb2:w2.heap[b]?=some (.cells #[.pointer (some ⟨b,0,none⟩),v] T (0,0)):=by
  rw[hgrow.block b hlt (λe=>hne e.symm)];exact hbk
 have d0:w2.cell? ⟨b,0,none⟩=some (.pointer (some ⟨b,0,none⟩)):=by rw[bg hb2];rfl
 have d1:w2.cell? ⟨b,1,none⟩=some v:=by rw[bg hb2];rfl
 have f1:w2.frozen? ⟨b,1,none⟩=false:=Lib.frozen_of_heap hb2 1
 obtain⟨ao,n',cap,rfl⟩:∃ ao n' cap,v'=.slice ao n' cap:=by
  rcases hown'.2 with ⟨hv,_⟩|⟨g,cap,cur,fz,hv,_⟩
  ·exact⟨_,_,_,hv⟩
  ·exact⟨_,_,_,hv⟩
 go_wp2;go_ret2;refine⟨rfl,?_,?_,(hk1.grown hgrow (Lib.ownsRowF_kind hown)).setCell ⟨b,1,none⟩ rfl _⟩
 ·exact Or.inr (Lib.BuilderAtF.put (T:=T) (e:=5) hB hb2 (bs':=bs++Lib.strCells s) (by simpa [Lib.strCells_length] using hown') hT.ne)
 ·exact(hb1.grown hgrow (by have:=hb1.size;omega) (λk hk=>(hown.lt k hk).1)).setCell (p:=⟨b,1,none⟩) hB _
def kW (B b:Nat)(acc:aH)(w:World)(T:TypeId:=149):Prop:=Lib.IsBuilderF T 5 B b (Lib.byteCells acc) w
theorem kW.at {T:TypeId}(h:kW B b acc w T):∃ p,Lib.BuilderAtF T 5 B b p (Lib.byteCells acc) w:=by
 rcases h with h|h
 ·exact⟨_,h⟩
 ·exact⟨_,h⟩
theorem kW.le {T:TypeId}(h:kW B b acc w T):B<=b:=by obtain⟨p,h⟩:=h.at;exact h.1
theorem kW.lt {T:TypeId}{B b:Nat}{acc:aH}{w:World}(h:kW B b acc w T):b<w.heap.size:=by obtain⟨p,h⟩:=h.at;exact h.lt
theorem kW.alloc {T:TypeId}{B b:Nat}{acc:aH}{w:World}(h:kW B b acc w T)(o:Obj):kW B b acc (w.alloc o) T:=by
 rcases h with h|h
 ·exact Or.inl (h.alloc o)
 ·exact Or.inr (h.alloc o)
theorem kW.drew {T:TypeId}{B b:Nat}{acc:aH}{w:World}(h:kW B b acc w T):kW B b acc w.drew T:=by
 rcases h with h|h
 ·exact Or.inl h.drew
 ·exact Or.inr h.drew
theorem kW.fresh {T:TypeId}(w:World):kW w.heap.size w.heap.size [] (w.alloc (.cells #[.pointer none,.slice none 0 0] T)) T :=
 Lib.IsBuilderF.of (Lib.fresh_isBuilder T 5 w)
theorem kW.mono {T:TypeId}{B':Nat}(h:kW B b acc w T)(hb:B'<=B):kW B' b acc w T:=by
 have key:∀ p,Lib.BuilderAtF T 5 B b p (Lib.byteCells acc) w->Lib.BuilderAtF T 5 B' b p (Lib.byteCells acc) w:=by
  rintro p ⟨h1,v,h2,⟨h3,h4⟩,h5⟩;refine⟨by omega,v,h2,⟨h3,?_⟩,h5⟩
  rcases h4 with h4|⟨g,cap,cur,fz,q1,q2,q3⟩
  ·exact Or.inl h4
  ·exact Or.inr ⟨g,cap,cur,fz,q1,by omega,q3⟩
 rcases h with h|h
 ·exact Or.inl (key _ h)
 ·exact Or.inr (key _ h)
theorem kW.ne {T:TypeId}(h:kW B b acc w T){T':TypeId}(hk:w.heap[k]?=some (.cells cs T' fr))(hT:T'≠T):k≠b:=by
 obtain⟨p,_,v,hb,_⟩:=h.at;rintro rfl;rw[hk] at hb;simp only[Option.some.injEq,Obj.cells.injEq] at hb;exact hT hb.2.1
theorem kW.block {T:TypeId}(h:kW B b acc w T)(ho:Lib.OthersKept 5 (some b) w w'){T':TypeId}(hk:w.heap[k]?=some (.cells cs T' fr))
  (hT:T'≠T) (he:T'≠5):w'.heap[k]?=some (.cells cs T' fr) :=
 ho k _ hk (λe=>h.ne hk hT (kE e)) (λc fz e=>he (by injection e))
theorem kW.row {T:TypeId}(h:kW B b acc w T)(ho:Lib.OthersKept 5 (some b) w w')(hr:w.ownsRow base e sz v n xs)
  (hT:e≠T) (he:e≠5):w'.ownsRow base e sz v n xs:=by
 obtain⟨h1,h2⟩:=hr;refine⟨h1,?_⟩
 rcases h2 with h2|⟨g,cap,cur,q1,q2,q3,q4⟩
 ·exact Or.inl h2
 ·exact Or.inr ⟨g,cap,cur,q1,q2,h.block ho q3 hT he,q4⟩
theorem kW.grown {T:TypeId}(h:kW B b acc w T)(hr:w.ownsRow base e sz v n xs)(hg:w.grownBy w' v.ownBlock)
  (hT:e≠T) (he:e≠5):kW B b acc w' T:=by
 have hrow:∀ k,v.ownBlock=some k->∃ cs,w.heap[k]?=some (.cells cs e (0,0)):=by
  intro k hk
  rcases hr.2 with ⟨rfl,_⟩|⟨g,cap,cur,rfl,_,hgg,_⟩
  ·simp[Value.ownBlock] at hk
  ·simp[Value.ownBlock] at hk;subst hk;exact⟨_,hgg⟩
 have key:∀ p,Lib.BuilderAtF T 5 B b p (Lib.byteCells acc) w->Lib.BuilderAtF T 5 B b p (Lib.byteCells acc) w':=by
  rintro p ⟨h1,u,h2,h3,h5⟩;have hlt:b<w.heap.size:=h.lt;refine⟨h1,u,?_,h3.kept hg ?_,h5⟩
  ·rw[hg.block b hlt (λq=>?_)]
   ·exact h2
   ·obtain⟨cs,hcs⟩:=hrow b q.symm
    exact h.ne hcs hT rfl
  ·rcases h3.2 with ⟨rfl,_⟩|⟨g,cap,cur,fz,rfl,_,hgg,_⟩
   ·exact Or.inl rfl
   ·refine Or.inr (λq=>?_)
    obtain⟨cs,hcs⟩:=hrow g (by rw[<- q];rfl);rw[hcs] at hgg;simp only[Option.some.injEq,Obj.cells.injEq] at hgg;exact he hgg.2.1
 rcases h with h|h
 ·exact Or.inl (key _ h)
 ·exact Or.inr (key _ h)
theorem nR {T:TypeId}[WT T](B b:Nat)(acc:aH)(s:ByteArray)(w:World)(h:kW B b acc w T)(hlen:acc.length+s.size<=140737488355328)(hBw:B<=w.heap.size) :
  Calls Tryz.prog 74 #[.pointer (some ⟨b,0,none⟩),.string s] w λe w'=>e=.returned (.tuple #[.int .i64 s.size,.nilIface])/\kW B b (acc++s.data.toList) w' T/\Below B w w'/\Lib.OthersKept 5 (some b) w w':=by
 have:=writeString B b (Lib.byteCells acc) s w h (by rw[Lib.byteCells_length];exact hlen) hBw;rw[Lib.strCells_eq,<- Lib.byteCells_append] at this;exact this
theorem D8 (B b:Nat)(acc:aH)(w:World)(h:kW B b acc w)(hBw:B<=w.heap.size) :
  Calls Tryz.prog 72 #[.pointer (some ⟨b,0,none⟩)] w λe w'=>e=.returned (.string ⟨acc.toArray⟩)/\kW B b acc w'/\Below B w w'/\Lib.OthersKept 5 (some b) w w' :=
 Tryz.Builder_String_any_k B b acc w h hBw
theorem SK (u:Nat):Lib.decDigits u=iw u:=by
 induction u using Nat.strongRecOn with
 | _ u ih =>
  rw[Lib.decDigits,iw]
  split
  ·rfl
  ·rw[ih (u / 10) (by omega)]
theorem SL (l:aH):Lib.trimRightB l 48=Ba l:=rfl
theorem Gx:∀ (ws:List Nat) (n:Nat),dK ws=ws->jk ws<4294967296 ^ n->ws.length<=n
 | [],n,_,_=>mD _
 | d :: l,0,h,hm=>by
  have:=yG h (by simp);simp only[Nat.pow_zero] at hm;omega
 | d :: l,n+1,h,hm=>by
  have hl:dK l=l:=by
   rw[dK] at h
   split at h
   ·cases h
   ·injection h
  have:=Gx l n hl (by
   rw[jk,Nat.pow_succ] at hm;generalize 4294967296 ^ n=p at hm |-
   omega)
  rw[dN];omega
theorem ZY (n:Int)(k:Nat)(h0:n≠0)(hk:n.natAbs<10 ^ k):(Ba (lg k n.natAbs)++(if n<0 then [45] else [])).reverse=kr n:=by
 rw[List.reverse_append,Y9 _ _ (by omega) hk,kr]
 split<;>simp
theorem Gy:∀ (k n:Nat),(lg k n).length=k
 | 0,_=>rfl
 | k+1,n=>by rw[lg,dN,Gy k]
theorem WU (k n:Nat):lg (k+9) n=lg k n++lg 9 (n / 10 ^ k % 1000000000):=by
 rw[A9 k 9,show (1000000000:Nat)=10 ^ 9 from rfl,Oh 9 9 _ (bI _)]
theorem WV (ws:List Nat)(n k:Nat)(h:jk ws=n / 10 ^ k):jk (dK (bL 1000000000 ws).1)=n / 10 ^ (k+9)/\(bL 1000000000 ws).2=n / 10 ^ k % 1000000000:=by
 have h1:=FR 1000000000 ws;have h2:=tH 1000000000 (by omega) ws;rw[yF,<- h]
 have e:n / 10 ^ (k+9)=jk ws / 1000000000:=by
  rw[h,Nat.pow_add,Nat.div_div_eq_div_mul]
 rw[e];omega
theorem Z4 (l:aH):(Ba l).length<=l.length:=by
 rw[Ba,List.length_reverse];have:=(List.dropWhile_suffix (l:=l.reverse) (p:=(· == 48))).length_le
 simpa using this
def iL:List Tok->aH
 | []=>[]
 | t :: l=>t.lead++t.text++iL l
theorem Gz:∀ (l:List Tok),(iL l).length=iC l l.length
 | []=>rfl
 | t :: l=>by rw[iL,bQ,bQ,Gz l,dN,mV,pG]
theorem xM:∀ (l:List Tok) (t:Tok),iL (l++[t])=iL l++(t.lead++t.text)
 | [],t=>by simp[iL]
 | x :: l,t=>by simp only[kF,iL,xM l t,om]
theorem Laid.GA {T:aH}{p:Nat}{l:List Tok}(h:Laid T p l):∀ k,k<=l.length->iL (l.take k)=T.take (iC l k)
 | 0,_=>by simp[iL,zK]
 | k+1,hk=>by
  have hl:k<l.length:=hk;have hle:=h.inside (k+1) hk;rw[lH l k hl,pG] at hle;rw[EF hl,xM,h.GA k (by omega),lH l k hl,pG];have h1:=h.lead k hl;have h2:=h.text k hl;generalize iC l k=a at h1 h2 hle |-;rw[<- wU,List.take_add (i:=a+l[k].lead.length),List.take_add (i:=a),h1,h2,om]
theorem Laid.OY {T:aH}{p:Nat}{l:List Tok}(h:Laid T p l):iL l=T:=by
 have:=h.GA l.length (bI _);rw[Fe,h.whole,Fe] at this;exact this
theorem wP:∀ (l:List Tok) (k:Nat),k<=l.length->(iL (l.take k)).length=iC l k
 | l,0,_=>by simp[iL,zK]
 | [],k+1,h=>absurd h (by simp)
 | t :: l,k+1,h=>by
  rw[List.take_succ_cons,iL,bQ,bQ,wP l k (by simpa using h),mV,pG]
theorem SN (l:List Tok):∀ (i j:Nat),i<=j->j<=l.length->iC l i<=iC l j:=by
 intro i j h hj
 induction j with
 | zero=>exact Nat.le_of_eq (by rw[Nat.le_zero.1 h])
 | succ j ih =>
  rcases Nat.lt_or_ge i (j+1) with h'|h'
  ·have:=ih (by omega) (by omega)
   rw[lH l j (by omega)];omega
  ·obtain rfl:i=j+1:=by omega
   exact bI _
theorem jV (y:aH):∃ Y:ByteArray,Y.data.toList=y/\ByteArray.mk y.toArray=Y:=⟨⟨y.toArray⟩,rfl,rfl⟩
theorem WW (v:Value)(l:List Tok)(w:World)(hl:l.length<=1099511627776)(hn:iC l l.length<=1099511627776)(hv:Rec w.heap.size w v 4 dW l) :
  Calls Tryz.prog 172 #[v] w λe w'=>e=.returned (.string ⟨(iL l).toArray⟩)/\Below w.heap.size w w':=by
 obtain⟨ao,cap,rfl,hcap,hf⟩:=hv.form (λ_=>rfl);clear hv;go_enter Tryz.func172,Tryz.ntmps172;go_wp2
 go_loopw [8] (λi wr=>∃ k:Nat,k<=l.length/\i=.int .i64 k/\kW w.heap.size w.heap.size (iL (l.take k)) wr/\Below w.heap.size w wr) (λi _=>l.length - (intOf i).toNat)
 case atStart=>exact⟨0,mD _,rfl,kW.fresh w,(bY _ _).alloc (bI _) _⟩
 case round =>
  obtain⟨k,hk,rfl,hbd,hbl⟩:=hrel;have hz:=hbl.size
  by_cases hlt:k<l.length
  ·obtain⟨b,off,rfl,hb,hcell⟩:=hf (by omega)
   have hx0:=(hbl.cell (p:=⟨b,off+k * 4,none⟩) hb).trans (hcell k 0 _ hlt rfl);have hx1:=(hbl.cell (p:=⟨b,off+k * 4+1,none⟩) hb).trans (hcell k 1 _ hlt rfl);have hx2:=(hbl.cell (p:=⟨b,off+k * 4+2,none⟩) hb).trans (hcell k 2 _ hlt rfl);have hx3:=(hbl.cell (p:=⟨b,off+k * 4+3,none⟩) hb).trans (hcell k 3 _ hlt rfl);have hmo:=SN l (k+1) l.length hlt (bI _);rw[lH l k hlt,pG,<- wP l k hk] at hmo
   have hsn:iL (l.take (k+1))=iL (l.take k)++(l[k].lead++l[k].text):=by rw[EF hlt,xM]
   generalize l[k]=t at hx0 hx1 hx2 hx3 hmo hsn;obtain⟨c,x,y,q⟩:=t;simp only at hx0 hx1 hx2 hx3 hmo hsn;obtain⟨X,rfl,eX⟩:=jV x;obtain⟨Y,rfl,eY⟩:=jV y;rw[eX] at hx1;rw[eY] at hx2;simp only[aS] at hmo;generalize iL (l.take k)=acc at hbd hmo hsn;have HS:=ay hsn;have air:=hbd.alloc (.cells #[.int .i64 c,.string X,.string Y,.int .i64 q] 131);have ais:=hbl.alloc hz (.cells #[.int .i64 c,.string X,.string Y,.int .i64 q] 131);clear hcell hf hsn eX eY;go_wp2_with (go_at_call 74;refine(nR w.heap.size w.heap.size acc (X++Y) _ air ?c1 ?c2).mono ?_)
   case c1=>simp only[ByteArray.size_append];omega
   case c2=>simp;omega
   rintro e w2 ⟨rfl,agX,hb2,ho2⟩;rw[DT,<- HS.out] at agX;clear ho2;go_wp2
   go_roundw
   case rel=>exact⟨k+1,by omega,by go_num,agX,ais.trans hb2⟩
   case measure=>simp[intOf];omega
  ·have hkl:k=l.length:=by omega
   subst hkl;rw[Fe] at hbd;clear hf;go_wp2_with (go_at_call 72;refine(D8 w.heap.size w.heap.size _ _ hbd hz).mono ?_;rintro e w4 ⟨rfl,ajS,hb4,OZ⟩);go_ret;exact⟨rfl,hbl.trans hb4⟩
def Mw (B' b:Nat)(acc:aH)(w:World)(e:Ending)(w':World):Prop:=e=.returned (.tuple #[])/\kW B' b acc w'/\Below B' w w'/\Lib.OthersKept 5 (some b) w w'
def Z5 (B B' b:Nat)(tv nv:Value)(ah:List Tok)(aj:List Nd)(g:Nat):Prop:=∀ (n:Int) (s acc:aH) (w:World),bE B w (.agg #[tv,nv]) ah aj->B<=B'->kW B' b acc w->B'<=w.heap.size->wJ ah aj g n=some s->acc.length+s.length<=1099511627776 ->
 Calls Tryz.prog 171 #[.agg #[tv,nv],.pointer (some ⟨b,0,none⟩),.int .i64 n] w (Mw B' b (acc++s) w)
theorem Z6 (i:Nat)(h:i<100)(w:World):Calls Tryz.prog 234 #[.int .i64 i] w λe w'=>e=.returned (.string ⟨(iw i).toArray⟩)/\w'=w:=by
 rw[<- SK];exact Tryz.strconv_Itoa_small i h w
theorem dn {w:World}{b:Nat}{x y:Value}(h:w.heap[b]?=some (.cells #[x,y] 81 (0,0))):w.cell? ⟨b,0,none⟩=some x/\w.cell? ⟨b,1,none⟩=some y:=by
 constructor<;>(rw[bg h];rfl)
theorem SQ (B B' b:Nat)(tv nv:Value)(ah:List Tok)(aj:List Nd)(k u:Nat)(ks:List Int)(acc:aH)(w:World)(h:bE B w (.agg #[tv,nv]) ah aj)(nS:B<=B')(hbd:kW B' b acc w)(hB:B'<=w.heap.size)
  (hn:aj[k]?=some ⟨19,(u:Nat),ks⟩) (hu:u<ah.length) (hlen:acc.length+(qB ah[u]).length<=1099511627776) :
  Calls Tryz.prog 171 #[.agg #[tv,nv],.pointer (some ⟨b,0,none⟩),.int .i64 k] w (Mw B' b (acc++qB ah[u]) w):=by
 obtain⟨hi,hni⟩:=qm hn;obtain⟨bn,off,cap,kv,rfl,hbn,x0,x1,x2,hkv⟩:=h.node hi;obtain⟨b2,off2,cap2,rfl,hb2,t0,t1,t2,t3⟩:=h.tok hu;obtain⟨wN,wO,rfl,-,-⟩:=hkv.form;rw[hni] at x0 x1 x2;simp only at x0 x1 x2;generalize hkl:ks.length=kl at x2;generalize ah[u]=t at t0 t1 t2 t3 hlen;obtain⟨c,x,y,q⟩:=t;simp only[dX] at t0 t1 t2 t3;obtain⟨X,rfl,eX⟩:=jV x;obtain⟨Y,rfl,eY⟩:=jV y;rw[eX] at t1;rw[eY] at t2;have hal:=(bY w.heap.size w).alloc (bI _) (.cells #[.slice (some ⟨b2,off2,none⟩) ah.length cap2,.slice (some ⟨bn,off,none⟩) aj.length cap] 81);have dD:=hal.alloc (by simp) (.cells #[.int .i64 19,.int .i64 (u:Nat),.slice wN kl wO] 129);have fV:=dD.alloc (by simp;omega) (.cells #[.int .i64 c,.string X,.string Y,.int .i64 q] 131);have hb3:=((hbd.alloc (.cells #[.slice (some ⟨b2,off2,none⟩) ah.length cap2,.slice (some ⟨bn,off,none⟩) aj.length cap] 81)).alloc (.cells #[.int .i64 19,.int .i64 (u:Nat),.slice wN kl wO] 129)).alloc (.cells #[.int .i64 c,.string X,.string Y,.int .i64 q] 131);have fM:=(((Lib.OthersKept.refl 5 (some b) w).alloc (.cells #[.slice (some ⟨b2,off2,none⟩) ah.length cap2,.slice (some ⟨bn,off,none⟩) aj.length cap] 81)).alloc (.cells #[.int .i64 19,.int .i64 (u:Nat),.slice wN kl wO] 129)).alloc (.cells #[.int .i64 c,.string X,.string Y,.int .i64 q] 131);have x0':=(hal.cell (p:=⟨bn,off+k * 3,none⟩) (by show bn<_;omega)).trans x0;have x1':=(hal.cell (p:=⟨bn,off+k * 3+1,none⟩) (by show bn<_;omega)).trans x1;have x2':=(hal.cell (p:=⟨bn,off+k * 3+2,none⟩) (by show bn<_;omega)).trans x2;have y0:=(dD.cell (p:=⟨b2,off2+u * 4,none⟩) (by show b2<_;omega)).trans t0;have y1:=(dD.cell (p:=⟨b2,off2+u * 4+1,none⟩) (by show b2<_;omega)).trans t1;have y2:=(dD.cell (p:=⟨b2,off2+u * 4+2,none⟩) (by show b2<_;omega)).trans t2;have y3:=(dD.cell (p:=⟨b2,off2+u * 4+3,none⟩) (by show b2<_;omega)).trans t3
 have i1:(k:Int)<(aj.length:Int):=by omega
 have i2:(u:Int)<(ah.length:Int):=by omega
 simp only[qB,bQ,aS] at hlen;clear t0 t1 t2 t3 x0 x1 x2 hn hni h hkv hal dD hi eX eY
 have hk4:((((w.alloc (.cells #[.slice (some ⟨b2,off2,none⟩) ah.length cap2,.slice (some ⟨bn,off,none⟩) aj.length cap] 81)).alloc (.cells #[.int .i64 19,.int .i64 (u:Nat),.slice wN kl wO] 129)).alloc (.cells #[.int .i64 c,.string X,.string Y,.int .i64 q] 131))).heap[w.heap.size+1+1]?=some (.cells #[.int .i64 c,.string X,.string Y,.int .i64 q] 131 (0,0)):=by
  have:=aZ ((w.alloc (.cells #[.slice (some ⟨b2,off2,none⟩) ah.length cap2,.slice (some ⟨bn,off,none⟩) aj.length cap] 81)).alloc (.cells #[.int .i64 19,.int .i64 (u:Nat),.slice wN kl wO] 129)) (.cells #[.int .i64 c,.string X,.string Y,.int .i64 q] 131);rw[oU,oU] at this;exact this
 by_cases h5:c=5
 ·have h5I:((c:Int) == 5)=true:=by simp;omega
  rw[bq h5] at hlen;have H5:=ay h5;clear h5;simp only[dN,iF] at hlen;go_enter Tryz.func171,Tryz.ntmps171
  go_upto_region 6 with (go_at_call 74;refine(nR B' b acc ⟨#[36]⟩ _ hb3 (by show acc.length+1<=140737488355328;omega) (by simp;omega)).mono ?_;rintro e w4 ⟨rfl,hb4,hl4,OZ⟩)
  have z4:=hb3.block OZ hk4 (by decide) (by decide)
  have z2:w4.cell? ⟨w.heap.size+1+1,2,none⟩=some (.string Y):=by rw[bg z4];rfl
  have D7:=hl4.size;simp only[oU] at D7;clear z4 hb3 hk4;go_wp2_with (go_at_call 74;refine(nR B' b _ Y _ hb4 (by have e:(ByteArray.mk #[36]).data.toList.length=1:=rfl;rw[bQ,e];omega) (by omega)).mono ?_;rintro e w5 ⟨rfl,hb5,hl5,WX⟩)
  go_end0
  refine⟨rfl,?_,(fV.mono hB).trans (hl4.trans hl5),fM.trans (OZ.trans WX)⟩;rw[qB,bq H5.out,<- om];exact hb5
 ·have h5I:((c:Int) == 5)=false:=by simp;omega
  rw[aP h5] at hlen;simp only[iF] at hlen;go_enter Tryz.func171,Tryz.ntmps171;go_wp2_with (go_at_call 74;(refine(nR B' b acc Y _ hb3 (by omega) (by simp;omega)).mono ?_;rintro e w4 ⟨rfl,hb4,hl4,OZ⟩))
  go_end0
  refine⟨rfl,?_,(fV.mono hB).trans hl4,fM.trans OZ⟩;rw[qB,aP h5,qW];exact hb4
theorem SS (B B' b:Nat)(tv nv:Value)(ah:List Tok)(aj:List Nd)(g k kd:Nat)(tk:Int)(ks:List Int)(s acc:aH)(w:World)(h:bE B w (.agg #[tv,nv]) ah aj)(nS:B<=B')(hbd:kW B' b acc w)(hB:B'<=w.heap.size)
  (IH:Z5 B B' b tv nv ah aj g) (hn:aj[k]?=some ⟨kd,tk,ks⟩) (hkd:kd<100) (agY:kd≠19) (hks:ks.length<=1000000) (hs:ou (wJ ah aj g) ks=some s) (hlen:acc.length+([40]++iw kd++s++[41]).length<=1099511627776) :
  Calls Tryz.prog 171 #[.agg #[tv,nv],.pointer (some ⟨b,0,none⟩),.int .i64 k] w (Mw B' b (acc++([40]++iw kd++s++[41])) w):=by
 obtain⟨hi,hni⟩:=qm hn;obtain⟨at_,ct,an,cn,hv⟩:=h.slices;obtain⟨bn,off,cap,kv,rfl,hbn,x0,x1,x2,hkv⟩:=h.node hi;simp only[Value.agg.injEq,Array.mk.injEq,List.cons.injEq,and_true] at hv;obtain⟨rfl,-⟩:=hv;obtain⟨wN,wO,rfl,-,zu⟩:=hkv.form;rw[hni] at x0 x1 x2 zu;simp only at x0 x1 x2 zu;have hal:=(bY w.heap.size w).alloc (bI _) (.cells #[.slice at_ ah.length ct,.slice (some ⟨bn,off,none⟩) aj.length cap] 81);have dD:=hal.alloc (by simp) (.cells #[.int .i64 kd,.int .i64 tk,.slice wN ks.length wO] 129);have hb2:=(hbd.alloc (.cells #[.slice at_ ah.length ct,.slice (some ⟨bn,off,none⟩) aj.length cap] 81)).alloc (.cells #[.int .i64 kd,.int .i64 tk,.slice wN ks.length wO] 129);have hk2:=((Lib.OthersKept.refl 5 (some b) w).alloc (.cells #[.slice at_ ah.length ct,.slice (some ⟨bn,off,none⟩) aj.length cap] 81)).alloc (.cells #[.int .i64 kd,.int .i64 tk,.slice wN ks.length wO] 129);have x0':=(hal.cell (p:=⟨bn,off+k * 3,none⟩) (by show bn<_;omega)).trans x0;have x1':=(hal.cell (p:=⟨bn,off+k * 3+1,none⟩) (by show bn<_;omega)).trans x1;have x2':=(hal.cell (p:=⟨bn,off+k * 3+2,none⟩) (by show bn<_;omega)).trans x2
 have i1:(k:Int)<(aj.length:Int):=by omega
 have qF:((kd:Int) == 19)=false:=by simp;omega
 have e2:=aZ (w.alloc (.cells #[.slice at_ ah.length ct,.slice (some ⟨bn,off,none⟩) aj.length cap] 81)) (.cells #[.int .i64 kd,.int .i64 tk,.slice wN ks.length wO] 129);rw[oU] at e2;have e1:=(iB (w.alloc (.cells #[.slice at_ ah.length ct,.slice (some ⟨bn,off,none⟩) aj.length cap] 81)) (.cells #[.int .i64 kd,.int .i64 tk,.slice wN ks.length wO] 129) w.heap.size (by simp)).trans (aZ w (.cells #[.slice at_ ah.length ct,.slice (some ⟨bn,off,none⟩) aj.length cap] 81));obtain⟨DG,hDG,eDG⟩:=jV (iw kd)
 have HIT:Hid (∀ W,Calls Tryz.prog 234 #[.int .i64 kd] W λe w'=>e=.returned (.string DG)/\w'=W):=ay λW=>(Z6 kd hkd W).mono λe w' h=>⟨by rw[h.1,<- hDG,<- eDG,<- hDG],h.2⟩
 rw[<- hDG] at hlen |-;simp only[bQ,aS,dN,iF] at hlen;have HT:=ay h;have HKF:=ay zu;have HS:=ay hs
 have hD0:(ByteArray.mk #[40]++DG).data.toList=[40]++DG.data.toList:=by simp
 clear x0 x1 x2 hn hni h hkv hal hi zu agY hkd hDG eDG hs hbd;go_enter Tryz.func171,Tryz.ntmps171
 go_upto_region 8 with (first|(go_at_call 234;refine(HIT.out _).mono ?_;rintro e w3 ⟨rfl,rfl⟩)|(go_at_call 74;refine(nR B' b acc (ByteArray.mk #[40]++DG) _ hb2 (by rw[<- aS,hD0];simp;omega) (by simp;omega)).mono ?_;rintro e w4 ⟨rfl,hb4,hl4,OZ⟩))
 have Vb:Below B' w w4:=(dD.mono hB).trans hl4;have hk4:=hk2.trans OZ;have T4:=hb2.block OZ e1 (by decide) (by decide);have N4:=hb2.block OZ e2 (by decide) (by decide)
 have q2:w4.cell? ⟨w.heap.size+1,2,none⟩=some (.slice wN ks.length wO):=by rw[bg N4];rfl
 rw[hD0] at hb4;clear hb2 hl4 OZ e1 e2 N4 hk2 dD HIT hD0 x0' x1' x2' i1 qF;have hab:(acc++([40]++DG.data.toList))++s=acc++([40]++DG.data.toList)++s:=rfl;generalize hA:acc++([40]++DG.data.toList)=A at hb4 hab
 have hAl:A.length+s.length+1<=1099511627776:=by
  rw[<- hA];simp only[bQ,aS,dN,iF];omega
 have HA:Hid (acc++([40]++DG.data.toList++s++[41])=A++s++[41]):=ay (by rw[<- hA];simp);clear hA hlen hab;go_wp2
 go_loopw [42] (λq wr=>∃ (j:Nat) (a r:aH),j<=ks.length/\q=.int .i64 j/\ou (wJ ah aj g) (ks.drop j)=some r/\a++r=A++s/\kW B' b a wr/\wr.heap[w.heap.size]?=some (.cells #[.slice at_ ah.length ct,.slice (some ⟨bn,off,none⟩) aj.length cap] 81 (0,0))/\Below B' w wr/\Lib.OthersKept 5 (some b) w wr) (λq _=>ks.length - (intOf q).toNat)
 case atStart=>exact⟨0,A,s,mD _,rfl,HS.out,rfl,hb4,T4,Vb,hk4⟩
 case round =>
  obtain⟨j,a,r,hj,rfl,hr,har,hbd,hT,hbl,hok⟩:=hrel;have hz:=hbl.size;have ajT:=(bU hT).1;have hal:=congrArg List.length har;rw[bQ,bQ] at hal;obtain⟨c0,c1⟩:=dn hT
  by_cases hjl:j<ks.length
  ·obtain⟨bk,adG,rfl,hbk,hcell⟩:=HKF.out (by omega)
   have hx:=(hbl.cell (p:=⟨bk,adG+j,none⟩) (by show bk<_;omega)).trans (hcell j hjl);rw[List.drop_eq_getElem_cons hjl,ou] at hr;generalize ks[j]=k1 at hx hr;obtain⟨s1,h1,hr⟩:=bS hr;obtain⟨s2,h2,hr⟩:=bS hr
   injection hr with hr
   rw[<- hr] at har hal;simp only[bQ,dN,iF] at hal
   have Md:(j:Int)<(ks.length:Int):=by omega
   have H2:=ay h2;have HR:Hid (a++[32]++s1++s2=A++s):=ay (by rw[<- har];simp);have HT1:=ay (λW (hW:Below B' w W)=>(HT.out.below (hW.mono nS)));have H1:=ay h1;have Vd:=ay hT;clear hcell hr har h1 h2 hT
   go_upto_region 12 with (go_at_call 74;refine(nR B' b a ⟨#[32]⟩ _ hbd (by show a.length+1<=140737488355328;omega) (by omega)).mono ?_;rintro e w5 ⟨rfl,hb5,hl5,WX⟩)
   have T5:=hbd.block WX Vd.out (by decide) (by decide);obtain⟨d0,d1⟩:=dn T5;have U8:=hl5.size;have agZ:=hbl.trans hl5
   have hC:=IH k1 s1 _ w5 (HT1.out w5 agZ) nS hb5 (by omega) H1.out (by
    rw[bQ];have e:(ByteArray.mk #[32]).data.toList.length=1:=rfl;rw[e]
    omega)
   have HC:=ay hC;have ait:=hok.trans WX;have HB5:=ay hb5;clear hC c0 c1 hbd hl5 WX hok hb5;go_wp2_with (go_at_call 171;refine HC.out.mono ?_;rintro e w6 ⟨rfl,hb6,hl6,ho6⟩);refine⟨⟨j+1,_,s2,by omega,by go_num,H2.out,HR.out,hb6,?_,agZ.trans hl6,ait.trans ho6⟩,by simp[intOf];omega⟩;exact HB5.out.block ho6 T5 (by decide) (by decide)
  ·obtain rfl:j=ks.length:=by omega
   have Md:decide ((ks.length:Int)<(ks.length:Int))=false:=fu (by omega);rw[List.drop_length,ou] at hr
   injection hr with hr
   rw[<- hr,List.append_nil] at har;have HR:=ay har;clear hr har HS;go_wp2_with (go_at_call 74;refine(nR B' b a ⟨#[41]⟩ _ hbd (by show a.length+1<=140737488355328;omega) (by omega)).mono ?_;rintro e w5 ⟨rfl,hb5,hl5,WX⟩)
   go_end0
   refine⟨rfl,?_,hbl.trans hl5,hok.trans WX⟩;show kW B' b (acc++([40]++DG.data.toList++s++[41])) w5;rw[HA.out,<- HR.out];exact hb5
structure D9 (ah:List Tok) (aj:List Nd) (D:aH):Prop where
 pos:0<aj.length
 few:aj.length<=1000000
 aA:∀ n∈aj,n.aA.length<=1000000
 WY:ah.length<=1000000
 right:mW ah.length aj (xw 0 ah.length)=true
 leaves:gG aj (aj.length+1) [((aj.length:Nat):Int) - 1] []=some (xw 0 ah.length)
 dump:wJ ah aj aj.length ((aj.length:Int) - 1)=some D
 aiu:D.length<=1099511627776
 kinds:∀ n∈aj,0<=n.kind/\n.kind<100
 leafs:∀ n∈aj,n.kind=19->0<=n.tok/\n.tok<(ah.length:Int)
theorem KC {ah:List Tok}{aj:List Nd}{D:aH}(G:D9 ah aj D)(B B' b:Nat)(tv nv:Value):∀ g,Z5 B B' b tv nv ah aj g
 | 0=>λn s acc w h nS hbd hB hs hlen=>by rw[wJ] at hs;cases hs
 | g+1=>λn s acc w h nS hbd hB hs hlen=>by
  rw[wJ] at hs
  by_cases h0:n<0
  ·rw[bq h0] at hs;cases hs
  rw[aP h0] at hs
  obtain⟨k,rfl⟩:∃ k:Nat,n=(k:Int):=⟨n.toNat,by omega⟩
  rw[Int.toNat_natCast] at hs
  cases hn:aj[k]? with
  | none=>rw[hn] at hs;cases hs
  | some x =>
   rw[hn] at hs;simp only at hs;have hm:=List.mem_of_getElem? hn;obtain⟨kind,tok,ks⟩:=x;have hkd:=G.kinds _ hm;simp only at hkd hs
   by_cases h19:kind=19
   ·rw[bq h19] at hs
    subst h19;have hl:=G.leafs _ hm rfl;simp only at hl;rw[aP (by omega)] at hs
    obtain⟨u,rfl⟩:∃ u:Nat,tok=(u:Int):=⟨tok.toNat,by omega⟩
    have hul:u<ah.length:=by omega
    rw[Int.toNat_natCast,AB hul,Option.map_some] at hs
    injection hs with hs
    subst hs;exact SQ B B' b tv nv ah aj k u ks acc w h nS hbd hB hn hul hlen
   ·rw[aP h19] at hs
    obtain⟨kd,rfl⟩:∃ kd:Nat,kind=(kd:Int):=⟨kind.toNat,by omega⟩
    rw[Int.toNat_natCast] at hs;obtain⟨r,hr,rfl⟩:=Option.map_eq_some_iff.1 hs;exact SS B B' b tv nv ah aj g k kd tok ks r acc w h nS hbd hB (KC G B B' b tv nv g) hn (by omega) (by omega) (G.aA _ hm) hr hlen
variable{a b c:aN}{ah l:List Tok}{u p:Nat}{T S:aH}
def og (a b:aN):Prop:=b.aj.length+2 * a.used<=a.aj.length+2 * b.used
theorem og.refl (a:aN):og a a:=bI _
theorem og.trans (h:og a b)(k:og b c):og a c:=by unfold og at *;omega
theorem nT (ah:List Tok)(e:Nat)(st:aN):og st (gT ah e st):=by
 unfold gT
 split<;>exact bI _
theorem pW (ah:List Tok)(d n:Nat)(st:aN):og st (aV ah d n st):=by
 unfold aV
 split
 ·exact nT _ _ _
 ·exact og.refl _
theorem KD (ah:List Tok)(st:aN):(aD ah st=(-1,st))\/((aD ah st).2.aj.length=st.aj.length+1/\(aD ah st).2.used=st.used+1):=by
 unfold aD
 split
 ·exact .inl rfl
 ·exact .inr ⟨by simp,rfl⟩
theorem nU (ah:List Tok)(st:aN):og st (aD ah st).2:=by
 rcases KD ah st with h|⟨h1,h2⟩
 ·rw[h];exact og.refl _
 ·unfold og;omega
theorem gy (ah:List Tok)(l:List aH)(st:aN):og st (aM ah l st).2:=by
 unfold aM
 split
 ·exact nU _ _
 ·exact nT _ _ _
theorem yM (ah:List Tok)(k:Nat)(st:aN):og st (bC ah k st).2:=by
 unfold bC
 split
 ·exact nU _ _
 ·exact nT _ _ _
theorem WZ (k:Int)(l:List Int)(st:aN):(bM k l st).2.used=st.used/\(bM k l st).2.aj.length<=st.aj.length+1/\((-1:Int)∈l->(bM k l st).2.aj.length=st.aj.length):=by
 unfold bM JH
 split
 ·split
  ·exact⟨rfl,by simp,λ_=>rfl⟩
  ·rename_i hb
   refine⟨rfl,by simp,λh=>?_⟩;exact(hb (List.any_eq_true.2 ⟨-1,h,by simp⟩)).elim
 ·exact⟨rfl,by simp,λ_=>rfl⟩
theorem gK (ah:List Tok)(k:Int)(l:List Int)(st s3:aN)(h:og (aD ah st).2 s3)(hm:(aD ah st).1∈l):og st (bM k l s3).2:=by
 obtain⟨h1,h2,h3⟩:=WZ k l s3
 rcases KD ah st with hl|⟨l1,l2⟩
 ·rw[hl] at h hm
  have:=h3 hm;unfold og at *;simp only at h;omega
 ·unfold og at *
  omega
theorem W9 (ah:List Tok)(a:Int × aN):og a.2 (mq ah a).2:=by
 unfold mq
 split
 ·exact(nU _ _).trans (yM _ _ _)
 ·exact og.refl _
theorem Bq (ah:List Tok)(one:aN->Option (Int × aN))(h1:∀ s k,one s=some k->og s k.2):∀ (r:Nat) (aA:List Int) (st:aN) (l:List Int × aN),bD ah one r aA st=some l->og st l.2
 | 0,aA,st,l,h=>by
  rw[bD] at h
  injection h with h
  subst h;show og st (if st.fE=0 then gT ah 15 st else st)
  split
  ·exact nT _ _ _
  ·exact og.refl _
 | r+1,aA,st,l,h=>by
  rw[bD] at h
  split at h
  ·injection h with h;subst h;exact og.refl _
  ·obtain⟨k,hk,h⟩:=bS h
   have:=h1 _ _ hk
   split at h
   ·exact(this.trans (nU _ _)).trans (Bq ah one h1 r _ _ _ h)
   ·injection h with h;subst h;exact this
theorem KE (ah:List Tok)(one:aN->Option (Int × aN))(h1:∀ s k,one s=some k->og s k.2)(st:aN)(l:List Int × aN)(h:jH ah one st=some l):og st l.2:=by
 unfold jH at h
 split at h
 ·injection h with h;subst h;exact og.refl _
 ·exact Bq ah one h1 _ _ _ _ h
theorem oG (ah:List Tok)(depth:Nat):∀ (g:Nat) (t:Task) (st:aN) (r:Int × aN),run ah depth g t st=some r->og st r.2
 | 0,_,_,_,h=>by rw[run] at h;cases h
 | g+1,.expr aF,st,r,h=>by
  have ih:=oG ah depth g;rw[run] at h;have hd:=pW ah depth aF st;generalize aV ah depth aF st=s at h hd
  split at h
  ·injection h with h;subst h;exact hd
  split at h
  ·exact hd.trans (ih _ _ _ h)
  split at h
  ·obtain⟨d,h1,h⟩:=bS h
   obtain⟨f,h2,h⟩:=bS h
   injection h with h;subst h
   exact hd.trans (gK ah _ _ _ _ ((((yM _ _ _).trans (gy _ _ _)).trans (ih _ _ _ h1)).trans ((gy _ _ _).trans (ih _ _ _ h2))) (by simp))
  split at h
  ·obtain⟨b,h1,h⟩:=bS h
   obtain⟨d,h2,h⟩:=bS h;obtain⟨f,h3,h⟩:=bS h
   injection h with h;subst h
   exact hd.trans (gK ah _ _ _ _ ((((ih _ _ _ h1).trans (gy _ _ _)).trans (ih _ _ _ h2)).trans ((gy _ _ _).trans (ih _ _ _ h3))) (by simp))
  split at h
  ·obtain⟨b,h1,h⟩:=bS h
   obtain⟨d,h2,h⟩:=bS h
   injection h with h;subst h
   exact hd.trans (gK ah _ _ _ _ (((ih _ _ _ h1).trans (gy _ _ _)).trans (ih _ _ _ h2)) (by simp))
  ·exact hd.trans (ih _ _ _ h)
 | g+1,.formula aF,st,r,h=>by
  have ih:=oG ah depth g;rw[run] at h;obtain⟨a,h1,h⟩:=bS h;have ha:=ih _ _ _ h1
  split at h
  ·have hd:=(ha.trans (nU ah a.2)).trans (pW ah depth (aF+1) _)
   split at h
   ·injection h with h;subst h;exact hd
   ·obtain⟨b,h2,h⟩:=bS h
    injection h with h;subst h
    exact ha.trans (gK ah _ _ _ _ ((pW _ _ _ _).trans (ih _ _ _ h2)) (by simp))
  ·injection h with h;subst h;exact ha
 | g+1,.part l aF,st,r,h=>by
  have ih:=oG ah depth g;rw[run] at h
  split at h
  ·exact ih _ _ _ h
  ·split at h
   ·exact ih _ _ _ h
   ·exact ih _ _ _ h
 | g+1,.row l aF,st,r,h=>by
  have ih:=oG ah depth g;rw[run] at h;obtain⟨a,h1,h⟩:=bS h;exact(ih _ _ _ h1).trans (ih _ _ _ h)
 | g+1,.loop l aF a,st,r,h=>by
  have ih:=oG ah depth g;rw[run] at h
  split at h
  ·obtain⟨b,h1,h⟩:=bS h
   have hb:=gK ah 10 [a,(aD ah st).1,b.1] st _ (ih _ _ _ h1) (by simp)
   split at h
   ·injection h with h;subst h;exact hb
   ·exact hb.trans (ih _ _ _ h)
  ·injection h with h;subst h;exact og.refl _
 | g+1,.neg aF,st,r,h=>by
  have ih:=oG ah depth g;rw[run] at h
  split at h
  ·have hd:=(nU ah st).trans (pW ah depth (aF+1) _)
   split at h
   ·injection h with h;subst h;exact hd
   ·obtain⟨b,h2,h⟩:=bS h
    injection h with h;subst h
    exact gK ah _ _ _ _ ((pW _ _ _ _).trans (ih _ _ _ h2)) (by simp)
  ·exact ih _ _ _ h
 | g+1,.factor aF,st,r,h=>by
  have ih:=oG ah depth g;rw[run] at h
  split at h
  ·have hd:=(nU ah st).trans (pW ah depth (aF+1) _)
   split at h
   ·injection h with h;subst h;exact hd
   ·obtain⟨b,h2,h⟩:=bS h
    injection h with h;subst h
    exact gK ah _ _ _ _ ((pW _ _ _ _).trans (ih _ _ _ h2)) (by simp)
  ·exact ih _ _ _ h
 | g+1,.atom aF,st,r,h=>by
  have ih:=oG ah depth g;rw[run] at h
  split at h
  ·injection h with h;subst h;exact og.refl _
  split at h
  ·injection h with h;subst h;exact gK ah _ _ _ _ (og.refl _) (by simp)
  split at h
  ·injection h with h;subst h;exact gK ah _ _ _ _ (og.refl _) (by simp)
  split at h
  ·injection h with h;subst h;exact gK ah _ _ _ _ (og.refl _) (by simp)
  split at h
  ·obtain⟨b,h1,h⟩:=bS h
   injection h with h;subst h
   exact gK ah _ _ _ _ ((ih _ _ _ h1).trans (gy _ _ _)) (by simp)
  split at h
  ·exact ih _ _ _ h
  ·injection h with h;subst h;exact nT _ _ _
 | g+1,.name aF,st,r,h=>by
  have ih:=oG ah depth g;rw[run] at h
  split at h
  ·injection h with h;subst h;exact gK ah _ _ _ _ (og.refl _) (by simp)
  ·obtain⟨l,h1,h⟩:=bS h
   injection h with h;subst h
   exact gK ah _ _ _ _ (((W9 _ _).trans (gy _ _ _)).trans ((KE ah _ (λs k hk=>ih _ _ _ hk) _ _ h1).trans (gy _ _ _))) (by unfold mq;split<;>simp)
def tu (ah:List Tok)(a b:aN):Prop:=a.used<=ah.length->b.used<=ah.length
theorem tu.refl {ah:List Tok}(a:aN):tu ah a a:=λh=>h
theorem tu.trans (h:tu ah a b)(k:tu ah b c):tu ah a c:=λq=>k (h q)
theorem rM (ah:List Tok)(e:Nat)(st:aN):tu ah st (gT ah e st):=by
 unfold gT
 split
 ·exact λh=>h
 ·exact tu.refl _
theorem dM (ah:List Tok)(st:aN):tu ah st (aD ah st).2:=by
 intro h;unfold aD
 split
 ·exact h
 ·simp only;omega
theorem dU (k:Int)(l:List Int)(st:aN):tu ah st (bM k l st).2:=by
 unfold bM JH
 split
 ·split
  ·exact tu.refl _
  ·exact λh=>h
 ·exact tu.refl _
theorem eP (ah:List Tok)(l:List aH)(st:aN):tu ah st (aM ah l st).2:=by
 unfold aM
 split
 ·exact dM _ _
 ·exact rM _ _ _
theorem rO (ah:List Tok)(k:Nat)(st:aN):tu ah st (bC ah k st).2:=by
 unfold bC
 split
 ·exact dM _ _
 ·exact rM _ _ _
theorem yN (ah:List Tok)(d n:Nat)(st:aN):tu ah st (aV ah d n st):=by
 unfold aV
 split
 ·exact rM _ _ _
 ·exact tu.refl _
theorem Xa (ah:List Tok)(a:Int × aN):tu ah a.2 (mq ah a).2:=by
 unfold mq
 split
 ·exact(dM _ _).trans (rO _ _ _)
 ·exact tu.refl _
theorem Br (ah:List Tok)(one:aN->Option (Int × aN))(h1:∀ s k,one s=some k->tu ah s k.2):∀ (r:Nat) (aA:List Int) (st:aN) (l:List Int × aN),bD ah one r aA st=some l->tu ah st l.2
 | 0,aA,st,l,h=>by
  rw[bD] at h
  injection h with h
  subst h;show tu ah st (if st.fE=0 then gT ah 15 st else st)
  split
  ·exact rM _ _ _
  ·exact tu.refl _
 | r+1,aA,st,l,h=>by
  rw[bD] at h
  split at h
  ·injection h with h;subst h;exact tu.refl _
  ·obtain⟨k,hk,h⟩:=bS h
   have:=h1 _ _ hk
   split at h
   ·exact(this.trans (dM _ _)).trans (Br ah one h1 r _ _ _ h)
   ·injection h with h;subst h;exact this
theorem KF (ah:List Tok)(one:aN->Option (Int × aN))(h1:∀ s k,one s=some k->tu ah s k.2)(st:aN)(l:List Int × aN)(h:jH ah one st=some l):tu ah st l.2:=by
 unfold jH at h
 split at h
 ·injection h with h;subst h;exact tu.refl _
 ·exact Br ah one h1 _ _ _ _ h
theorem oH (ah:List Tok)(depth:Nat):∀ (g:Nat) (t:Task) (st:aN) (r:Int × aN),run ah depth g t st=some r->tu ah st r.2
 | 0,_,_,_,h=>by rw[run] at h;cases h
 | g+1,.expr aF,st,r,h=>by
  have ih:=oH ah depth g;rw[run] at h;have hd:=yN ah depth aF st;generalize aV ah depth aF st=s at h hd
  split at h
  ·injection h with h;subst h;exact hd
  split at h
  ·exact hd.trans (ih _ _ _ h)
  split at h
  ·obtain⟨d,h1,h⟩:=bS h
   obtain⟨f,h2,h⟩:=bS h
   injection h with h;subst h
   exact(((((hd.trans (dM _ _)).trans (rO _ _ _)).trans (eP _ _ _)).trans (ih _ _ _ h1)).trans (eP _ _ _)).trans ((ih _ _ _ h2).trans (dU _ _ _))
  split at h
  ·obtain⟨b,h1,h⟩:=bS h
   obtain⟨d,h2,h⟩:=bS h;obtain⟨f,h3,h⟩:=bS h
   injection h with h;subst h
   exact(((((hd.trans (dM _ _)).trans (ih _ _ _ h1)).trans (eP _ _ _)).trans (ih _ _ _ h2)).trans (eP _ _ _)).trans ((ih _ _ _ h3).trans (dU _ _ _))
  split at h
  ·obtain⟨b,h1,h⟩:=bS h
   obtain⟨d,h2,h⟩:=bS h
   injection h with h;subst h
   exact(((hd.trans (dM _ _)).trans (ih _ _ _ h1)).trans (eP _ _ _)).trans ((ih _ _ _ h2).trans (dU _ _ _))
  ·exact hd.trans (ih _ _ _ h)
 | g+1,.formula aF,st,r,h=>by
  have ih:=oH ah depth g;rw[run] at h;obtain⟨a,h1,h⟩:=bS h;have ha:=ih _ _ _ h1
  split at h
  ·have hd:=(ha.trans (dM ah a.2)).trans (yN ah depth (aF+1) _)
   split at h
   ·injection h with h;subst h;exact hd
   ·obtain⟨b,h2,h⟩:=bS h
    injection h with h;subst h
    exact(hd.trans (ih _ _ _ h2)).trans (dU _ _ _)
  ·injection h with h;subst h;exact ha
 | g+1,.part l aF,st,r,h=>by
  have ih:=oH ah depth g;rw[run] at h
  split at h
  ·exact ih _ _ _ h
  ·split at h
   ·exact ih _ _ _ h
   ·exact ih _ _ _ h
 | g+1,.row l aF,st,r,h=>by
  have ih:=oH ah depth g;rw[run] at h;obtain⟨a,h1,h⟩:=bS h;exact(ih _ _ _ h1).trans (ih _ _ _ h)
 | g+1,.loop l aF a,st,r,h=>by
  have ih:=oH ah depth g;rw[run] at h
  split at h
  ·obtain⟨b,h1,h⟩:=bS h
   have hb:=((dM ah st).trans (ih _ _ _ h1)).trans (dU 10 [a,(aD ah st).1,b.1] _)
   split at h
   ·injection h with h;subst h;exact hb
   ·exact hb.trans (ih _ _ _ h)
  ·injection h with h;subst h;exact tu.refl _
 | g+1,.neg aF,st,r,h=>by
  have ih:=oH ah depth g;rw[run] at h
  split at h
  ·have hd:=(dM ah st).trans (yN ah depth (aF+1) _)
   split at h
   ·injection h with h;subst h;exact hd
   ·obtain⟨b,h2,h⟩:=bS h
    injection h with h;subst h
    exact(hd.trans (ih _ _ _ h2)).trans (dU _ _ _)
  ·exact ih _ _ _ h
 | g+1,.factor aF,st,r,h=>by
  have ih:=oH ah depth g;rw[run] at h
  split at h
  ·have hd:=(dM ah st).trans (yN ah depth (aF+1) _)
   split at h
   ·injection h with h;subst h;exact hd
   ·obtain⟨b,h2,h⟩:=bS h
    injection h with h;subst h
    exact(hd.trans (ih _ _ _ h2)).trans (dU _ _ _)
  ·exact ih _ _ _ h
 | g+1,.atom aF,st,r,h=>by
  have ih:=oH ah depth g;rw[run] at h
  split at h
  ·injection h with h;subst h;exact tu.refl _
  split at h
  ·injection h with h;subst h;exact(dM _ _).trans (dU _ _ _)
  split at h
  ·injection h with h;subst h;exact(dM _ _).trans (dU _ _ _)
  split at h
  ·injection h with h;subst h;exact(dM _ _).trans (dU _ _ _)
  split at h
  ·obtain⟨b,h1,h⟩:=bS h
   injection h with h;subst h
   exact(((dM _ _).trans (ih _ _ _ h1)).trans (eP _ _ _)).trans (dU _ _ _)
  split at h
  ·exact ih _ _ _ h
  ·injection h with h;subst h;exact rM _ _ _
 | g+1,.name aF,st,r,h=>by
  have ih:=oH ah depth g;rw[run] at h
  split at h
  ·injection h with h;subst h;exact(dM _ _).trans (dU _ _ _)
  ·obtain⟨l,h1,h⟩:=bS h
   injection h with h;subst h
   exact((((dM _ _).trans (Xa _ _)).trans (eP _ _ _)).trans (KF ah _ (λs k hk=>ih _ _ _ hk) _ _ h1)).trans ((eP _ _ _).trans (dU _ _ _))
inductive adH where
 | bad (e a:Nat)
 | good (ah:List Tok) (aj:List Nd)
def vX (ah:List Tok):Nat:=20 * ah.length+18
def CP (ah:List Tok)(st:aN):adH:=if st.fE=0 then .good ah st.aj else .bad st.fE st.fAt
def ag0 (S:aH)(d:Nat):adH :=
 match bV S with
 | .error x=>.bad x.1 x.2
 | .ok ah=>match aeZ ah d (vX ah) with
  | none=>.bad 99 0
  | some st=>CP ah st
def Z7 (e:CE):PT:=.node 18 [e.pt,.leaf]
theorem Laid.ag1 (h:Laid T p l)(hu:u<l.length)(h5:gq l u=5):u+1=l.length:=by
 unfold gq dh at h5;rw[Nat.min_eq_left (by omega),Fb,AB hu] at h5;have:=(h.last u hu).1 h5;omega
theorem Laid.Z8 (h:Laid T p l):iV l:=by
 have h0:=h.some;unfold iV dh;rw[Nat.min_eq_right (by omega),Fb,AB (by omega)];exact(h.last _ (by omega)).2 rfl
mutual
theorem Mx:∀ (t:PT) (b u:Nat),∀ n∈t.em b u,n.aA.length<=t.nd
 | .leaf,b,u,n,h=>by
  rw[PT.em,DN] at h;subst h
  simp
 | .node k l,b,u,n,h=>by
  rw[PT.em,List.mem_append,DN] at h;rw[PT.nd]
  rcases h with h|h
  ·have:=O1 l b u n h
   omega
  ·subst h
   have:=Ve l b;simp only;omega
theorem O1:∀ (l:List PT) (b u:Nat),∀ n∈AV b u l,n.aA.length<=fC l
 | [],b,u,n,h=>by rw[AV] at h;cases h
 | t :: l,b,u,n,h=>by
  rw[AV,List.mem_append] at h;rw[fC]
  rcases h with h|h
  ·have:=Mx t _ _ n h
   omega
  ·have:=O1 l _ _ n h
   omega
theorem Ve:∀ (l:List PT) (b:Nat),(dJ b l).length<=fC l
 | [],b=>by simp[dJ]
 | t :: l,b=>by
  have:=Ve l (b+t.nd);have hp:=t.iI;rw[dJ,fC,dN];omega
end
def vY (l:aH):Prop:=gH l=true/\l≠[]/\l.length<=60/\(l.head?=some 48->l.length=1)
theorem SV (c:UInt8):bf c=(decide (48<=c.toNat) && decide (c.toNat<=57)):=by
 unfold bf;rw[Bool.eq_iff_iff];simp only[qM,uK,UInt8.le_iff_toNat_le];exact Iff.rfl
theorem Z9 (T:aH)(h:(fP T).1=3)(h0:(fP T).2.2=0):vY (T.take (fP T).2.1):=by
 cases T with
 | nil=>simp[fP] at h
 | cons c r =>
  rw[fP] at h h0 |-
  by_cases hc:fq c=true
  ·rw[bq hc] at h
   simp only[pq] at h
   split at h
   ·cases h
   ·split at h<;>cases h
  ·rw[aP hc] at h h0 |-
   by_cases hd:bf c=true
   ·rw[bq hd] at h h0 |-
    simp only[rT] at h h0 |-
    split at h
    ·cases h
    ·rename_i L6
     rw[aP L6];simp only;have ht:(c :: r).take ((c :: r).takeWhile bf).length=(c :: r).takeWhile bf:=(List.prefix_iff_eq_take.1 (List.takeWhile_prefix _)).symm
     have hne:(c :: r).takeWhile bf≠[]:=by rw[List.takeWhile_cons_of_pos hd];simp
     have hall:∀ x∈(c :: r).takeWhile bf,bf x=true:=λx hx=>by
      have:=List.all_takeWhile (l:=c :: r) (p:=bf);rw[List.all_eq_true] at this;exact this x hx
     rw[ht];generalize (c :: r).takeWhile bf=w at L6 hne hall;refine⟨?_,hne,by omega,λq=>?_⟩
     ·rw[gH,List.all_eq_true]
      intro x hx;rw[<- SV];exact hall x hx
     ·rw[List.head?_eq_getElem?] at q
      have:=List.length_pos_iff.2 hne
      by_cases h1:1<w.length
      ·exact absurd (.inr ⟨h1,q⟩) L6
      ·omega
   ·rw[aP hd,EG] at h
    split at h<;>cases h
theorem KG:∀ (n:Nat) (T:aH) (p:Nat) (l:List Tok),kZ n T p=.ok l->∀ t∈l,t.kind=3->vY t.text
 | 0,T,p,l,h,t,ht,hk=>by rw[kZ] at h;cases h
 | n+1,T,p,l,h,t,ht,hk=>by
  rw[kZ] at h
  try simp only at h
  split at h
  ·cases h
  rename_i h0
  split at h
  ·injection h with h
   subst h;rw[DN] at ht;subst ht;cases hk
  ·split at h
   ·cases h
   ·rename_i l' hl'
    injection h with h
    subst h
    rcases oo.1 ht with rfl|ht
    ·exact Z9 _ hk (by omega)
    ·exact KG n _ _ _ hl' t ht hk
theorem tO (h:bV S=.ok l):∀ t∈l,t.kind=3->vY t.text:=by
 unfold bV at h
 split at h
 ·cases h
 ·exact KG _ _ _ _ h
theorem xO (h:0<ah.length)(u:Nat):dh ah u∈ah:=by
 unfold dh;rw[Fb,AB (by omega),Option.getD_some];exact oQ _
theorem vY.dec {l:aH}(h:vY l):iw (jR l)=l:=Za l h.1 h.2.1 h.2.2.2
theorem zw (h:bV S=.ok l):RI l:=λu hu =>
 (tO h _ (xO (ji h).some u) hu).dec
theorem MB {n:Nat}(h:n<100):(iw n).length<=2:=by
 rw[iw]
 split
 ·simp
 ·rw[iw,dif_pos (by omega)]
  simp
mutual
theorem GD:∀ (t:PT) (b u:Nat),t.wf->∀ n∈t.em b u,(0<=n.kind/\n.kind<100)/\(n.kind=19->(u:Int)<=n.tok/\n.tok<((u+t.lv:Nat):Int))
 | .leaf,b,u,_,n,h=>by
  rw[PT.em,DN] at h;subst h;rw[PT.lv];simp only;omega
 | .node k l,b,u,hw,n,h=>by
  rw[PT.wf] at hw;rw[PT.em,List.mem_append,DN] at h
  rcases h with h|h
  ·exact KH l b u hw.2.2 n h
  ·subst h
   simp only;omega
theorem KH:∀ (l:List PT) (b u:Nat),nY l->∀ n∈AV b u l,(0<=n.kind/\n.kind<100)/\(n.kind=19->(u:Int)<=n.tok/\n.tok<((u+cO l:Nat):Int))
 | [],b,u,_,n,h=>by rw[AV] at h;cases h
 | t :: l,b,u,hw,n,h=>by
  rw[nY] at hw;rw[AV,List.mem_append] at h;rw[cO]
  rcases h with h|h
  ·have:=GD t _ _ hw.1 n h
   exact⟨this.1,λq=>by have:=this.2 q;omega⟩
  ·have:=KH l _ _ hw.2 n h
   exact⟨this.1,λq=>by have:=this.2 q;omega⟩
end
mutual
theorem uV {ah:List Tok}{M:Nat}(hM:∀ u,(aJ ah u).length<=M):∀ (t:PT) (u:Nat),t.wf->(t.dump ah u).length+1<=t.nd * (M+16)
 | .leaf,u,_=>by
  rw[PT.dump,qB,PT.nd,bQ];have:=hM u;unfold aJ at this
  split<;>simp<;>omega
 | .node k l,u,hw=>by
  rw[PT.wf] at hw;have h1:=GH hM l u hw.2.2;have h2:=MB (n:=k) (by omega);rw[PT.dump,PT.nd,Nat.succ_mul];simp only[bQ,dN,iF];omega
theorem GH {ah:List Tok}{M:Nat}(hM:∀ u,(aJ ah u).length<=M):∀ (l:List PT) (u:Nat),nY l->(DU ah u l).length<=fC l * (M+16)
 | [],u,_=>by simp[DU]
 | t :: l,u,hw=>by
  rw[nY] at hw;have h1:=uV hM t u hw.1;have h2:=GH hM l (u+t.lv) hw.2;rw[DU,fC,Nat.add_mul];simp only[bQ,dN,iF];omega
end
mutual
def PE.fits (M:Nat):PE->Prop
 | .mk op name module num txt _ aA _=>op<100/\name.length<=M/\module.length<=M/\txt.length<=M/\(kr num).length<=M/\num.natAbs<10 ^ 60/\jI M aA
def jI (M:Nat):List PE->Prop
 | []=>True
 | e :: l=>e.fits M/\jI M l
end
theorem SX (hN:∀ t∈ah,t.kind=3->vY t.text)(h0:0<ah.length)(hk:gq ah u=3):jR (aJ ah u)<10 ^ 60:=by
 have h:=hN _ (xO h0 u) hk;exact zI (Fg _ h.1) (Nat.pow_le_pow_right (by omega) h.2.2.1)
mutual
theorem CE.fits {ah:List Tok}{M:Nat}(h0:0<ah.length)(hN:∀ t∈ah,t.kind=3->vY t.text)(hM:∀ u,(aJ ah u).length<=M)(h1:1<=M){cl:Bool}:∀ (e:CE) (u:Nat),e.ok ah cl u->(e.pe ah u).fits M
 | .num,u,h=>by
  rw[CE.ok] at h;rw[CE.pe,PE.fits,Bb,show iw (jR (aJ ah u))=aJ ah u from (hN _ (xO h0 u) h).dec];have:=SX hN h0 h;exact⟨by omega,by simp,by simp,hM u,hM u,by omega,by rw[jI];trivial⟩
 | .truth,u,h=>by rw[CE.pe,PE.fits,jI];exact⟨by omega,by simp,by simp,by simp,by simpa [kr,iw] using h1,by simp,trivial⟩
 | .res,u,h=>by rw[CE.pe,PE.fits,jI];exact⟨by omega,by simp,by simp,by simp,by simpa [kr,iw] using h1,by simp,trivial⟩
 | .Cr,u,h=>by rw[CE.pe,PE.fits,jI];exact⟨by omega,hM u,by simp,by simp,by simpa [kr,iw] using h1,by simp,trivial⟩
 | .group e,u,h=>by
  rw[CE.ok] at h;rw[CE.pe];exact CE.fits h0 hN hM h1 e _ h.2
 | .un e,u,h=>by
  rw[CE.ok] at h;rw[CE.pe,PE.fits,jI,jI];exact⟨by split<;>omega,by simp,by simp,by simp,by simpa [kr,iw] using h1,by simp,CE.fits h0 hN hM h1 e _ h.2,trivial⟩
 | .bin a b,u,h=>by
  rw[CE.ok] at h;rw[CE.pe,PE.fits,jI,jI,jI];have hi:rV.idxOf (aJ ah (u+a.pt.lv))<=rV.length:=List.idxOf_le_length;have hl:rV.length=14:=rfl;exact⟨by omega,by simp,by simp,by simp,by simpa [kr,iw] using h1,by simp,CE.fits h0 hN hM h1 a _ h.2.1,CE.fits h0 hN hM h1 b _ h.2.2,trivial⟩
 | .iff a b c,u,h=>by
  rw[CE.ok] at h;rw[CE.pe,PE.fits,jI,jI,jI,jI];exact⟨by omega,by simp,by simp,by simp,by simpa [kr,iw] using h1,by simp,CE.fits h0 hN hM h1 a _ h.2.1,CE.fits h0 hN hM h1 b _ h.2.2.1,CE.fits h0 hN hM h1 c _ h.2.2.2,trivial⟩
 | .sZ a b,u,h=>by
  rw[CE.ok] at h;rw[CE.pe,PE.fits,jI,jI,jI];exact⟨by omega,hM _,by simp,by simp,by simpa [kr,iw] using h1,by simp,CE.fits h0 hN hM h1 a _ h.2.2.1,CE.fits h0 hN hM h1 b _ h.2.2.2,trivial⟩
 | .tq a b,u,h=>by
  rw[CE.ok] at h;rw[CE.pe,PE.fits,jI,jI,jI];exact⟨by omega,by simp,by simp,by simp,by simpa [kr,iw] using h1,by simp,CE.fits h0 hN hM h1 a _ h.2.1,CE.fits h0 hN hM h1 b _ h.2.2,trivial⟩
 | .call q l,u,h=>by
  rw[CE.ok] at h;rw[CE.pe]
  cases q with
  | true =>
   rw[bq rfl,PE.fits];exact⟨by omega,hM _,hM _,by simp,by simpa [kr,iw] using h1,by simp,GI h0 hN hM h1 l _ h.2.2.2.2.2⟩
  | false =>
   rw[aP (by decide),PE.fits];exact⟨by omega,hM _,by simp,by simp,by simpa [kr,iw] using h1,by simp,GI h0 hN hM h1 l _ h.2.2.2.2⟩
theorem GI {ah:List Tok}{M:Nat}(h0:0<ah.length)(hN:∀ t∈ah,t.kind=3->vY t.text)(hM:∀ u,(aJ ah u).length<=M)(h1:1<=M){cl:Bool}:∀ (l:List CE) (u:Nat),mF ah cl u l->jI M (iZ ah u l)
 | [],u,_=>by rw[iZ,jI];trivial
 | e :: l,u,h=>by
  rw[mF] at h;rw[iZ,jI];exact⟨CE.fits h0 hN hM h1 e _ h.1,GI h0 hN hM h1 l _ h.2⟩
end
theorem Vf (a b:List PT):fC (a++b)=fC a+fC b:=pI a b
mutual
def PE.kX:PE->Nat
 | .mk _ _ _ _ _ _ aA _=>1+iy aA
def iy:List PE->Nat
 | []=>0
 | e :: l=>e.kX+iy l
end
mutual
theorem CE.iM (ah:List Tok):∀ (e:CE) (u:Nat),(e.pe ah u).kX<=e.pt.nd
 | .num,u=>by simp[CE.pe,PE.kX,iy,CE.pt,PT.nd,fC]
 | .truth,u=>by simp[CE.pe,PE.kX,iy,CE.pt,PT.nd,fC]
 | .res,u=>by simp[CE.pe,PE.kX,iy,CE.pt,PT.nd,fC]
 | .Cr,u=>by simp[CE.pe,PE.kX,iy,CE.pt,PT.nd,fC]
 | .group e,u=>by
  have:=CE.iM ah e (u+1);simp only[CE.pe,CE.pt,PT.nd,fC];omega
 | .un e,u=>by
  have:=CE.iM ah e (u+1);simp only[CE.pe,PE.kX,iy,CE.pt,PT.nd,fC];omega
 | .bin a b,u=>by
  have h1:=CE.iM ah a u;have h2:=CE.iM ah b (u+a.pt.lv+1);simp only[CE.pe,PE.kX,iy,CE.pt,PT.nd,fC];omega
 | .iff a b c,u=>by
  have h1:=CE.iM ah a (u+1);have h2:=CE.iM ah b (u+1+a.pt.lv+1);have h3:=CE.iM ah c (u+1+a.pt.lv+1+b.pt.lv+1);simp only[CE.pe,PE.kX,iy,CE.pt,PT.nd,fC];omega
 | .sZ a b,u=>by
  have h1:=CE.iM ah a (u+3);have h2:=CE.iM ah b (u+3+a.pt.lv+1);simp only[CE.pe,PE.kX,iy,CE.pt,PT.nd,fC];omega
 | .tq a b,u=>by
  have h1:=CE.iM ah a (u+1);have h2:=CE.iM ah b (u+1+a.pt.lv+1);simp only[CE.pe,PE.kX,iy,CE.pt,PT.nd,fC];omega
 | .call q l,u=>by
  have h:∀ u,iy (iZ ah u l)<=fC (fO l):=λu=>Bt ah l u
  cases q with
  | true =>
   have:=h (u+4);simp only[CE.pe,bq,PE.kX,CE.pt,PT.nd,Vf,fC];omega
  | false =>
   have:=h (u+2);simp only[CE.pe,PE.kX,CE.pt,PT.nd,Vf,fC,Bool.false_eq_true,if_false];omega
theorem Bt (ah:List Tok):∀ (l:List CE) (u:Nat),iy (iZ ah u l)<=fC (fO l)
 | [],u=>by simp[iZ,iy]
 | [e],u=>by
  have:=CE.iM ah e u;simp only[iZ,iy,vP,fC];omega
 | e :: f :: l,u=>by
  have h1:=CE.iM ah e u;have h2:=Bt ah (f :: l) (u+e.pt.lv+1);rw[iZ,iy,pJ,fC,fC];simp only[PT.nd];omega
end
theorem aa0 {op:Nat}{nm md nu:aH}{ys:Bool}{M:Nat}(h1:op<100)(h2:nm.length<=M)(h3:md.length<=M)(h4:nu.length<=M):(Oi op nm md nu ys).length<=3 * M+20:=by
 have:=MB h1;unfold Oi;simp only[bQ,dN,iF]
 split<;>split<;>split<;>(try split)<;>(try split)<;>simp<;>omega
mutual
theorem KI {M:Nat}:∀ (e:PE),e.fits M->e.tJ.length+1<=e.kX * (3 * M+30)
 | .mk op name module num txt yes aA a,h=>by
  rw[PE.fits] at h;have h1:=GJ aA h.2.2.2.2.2.2;have h2:=aa0 (ys:=yes) h.1 h.2.1 h.2.2.1 h.2.2.2.1;rw[PE.tJ,PE.kX,Nat.add_mul];simp only[bQ,dN,iF];omega
theorem GJ {M:Nat}:∀ (l:List PE),jI M l->(xA l).length<=iy l * (3 * M+30)
 | [],_=>by simp[xA]
 | e :: l,h=>by
  rw[jI] at h;have h1:=KI e h.1;have h2:=GJ l h.2;rw[xA,iy,Nat.add_mul];simp only[bQ,dN,iF];omega
end
theorem GK (h:bV S=.ok ah)(u:Nat):(aJ ah u).length<=S.length:=by
 have hL:=ji h;have hm:=xO hL.some u;obtain⟨i,hi,e⟩:=List.mem_iff_getElem.1 hm;have h1:=congrArg List.length (hL.text i hi);rw[qX,zh] at h1;unfold aJ;rw[<- e];omega
structure ajC (S:aH) (ah:List Tok) (aj:List Nd) (ce:CE):Prop where
 small:S.length<=65536
 GL:bV S=.ok ah
 Bu:aj=(Z7 ce).em 0 0
 okk:ce.ok ah true 0
 lv:ce.pt.lv+1=ah.length
 good:D9 ah aj ((Z7 ce).dump ah 0)
 whole:iL ah=S
 deep:ag0 S 200=.good ah aj
 fits:(ce.pe ah 0).fits 65536
 told:(ce.pe ah 0).told
 few:(ce.pe ah 0).kX<=200000
