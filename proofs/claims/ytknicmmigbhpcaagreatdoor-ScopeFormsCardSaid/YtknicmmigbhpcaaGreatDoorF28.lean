/- Walks and plain laws: ScopeW7, ScopeW8, BothFit, TextLen, OfL, ProgItems. -/
import Derived.Test.YtknicmmigbhpcaaGreatDoorF27
set_option maxHeartbeats 16000000
set_option maxRecDepth 100000
set_option linter.unusedVariables false
set_option linter.unusedSimpArgs false
namespace Go.Proofs.YtknicmmigbhpcaaGreatDoor
open Go.RowKit Go
def og:List (List UInt8)→List (List UInt8)→Bool
 | _,[]=>true
 | seen,m :: l=>aR m && (!decide (m∈seen) && og (fF (seen++[m])) l)
theorem PU (m:List UInt8)(w:World)(hm:m.length≤65536):Calls Tryz.prog 20 #[.agg #[.string ⟨m.toArray⟩,.slice none 0 0]] w fun r w'=>r=.returned (.bool (aR m))∧Below w.heap.size w w':=by
 have hal:=aj w (.cells #[.string ⟨m.toArray⟩,.slice none 0 0] 27);have hN:=heap_alloc_new w (.cells #[.string ⟨m.toArray⟩,.slice none 0 0] 27);have HP:=ah (fun V=>kI ⟨m.toArray⟩ V (by show m.toArray.size≤_;simp;omega));simp only at HP;generalize aR m=pl at *;go_enter Tryz.func20,Tryz.ntmps20
 go_upto_region 1 with fail
 change Code.wp _ _ _ _ (w.alloc (.cells #[.string ⟨m.toArray⟩,.slice none 0 0] 27));generalize w.alloc (.cells #[.string ⟨m.toArray⟩,.slice none 0 0] 27)=w1 at *;have hl1:=(bQ hN).1;have hz1:=hal.size;obtain⟨y0,y1⟩:=kN hN;have HN:=ah hN;clear hN
 cases pl with
 | false =>
  go_wp2_with (go_at_call 48;refine(HP.out _).mono ?_;rintro r w2 ⟨rfl,hb2⟩);go_ret;exact⟨rfl,hal.trans (hb2.mono hz1)⟩
 | true =>
  go_upto_region 3 with (go_at_call 48;refine(HP.out _).mono ?_;rintro r w2 ⟨rfl,hb2⟩;obtain⟨z0,z1⟩:=kN ((hb2.block _ hl1).trans HN.out))
  go_wp2
  go_loopw [4,18] (fun _ q wr=>q=.int .i64 0∧wr=w2) (fun _ _ _=>0)
  case atStart=>exact⟨rfl,rfl⟩
  case round =>
   obtain⟨rfl,rfl⟩:=hrel;go_wp2;go_ret;exact⟨rfl,hal.trans (hb2.mono hz1)⟩
theorem PV (md:List UInt8)(db lb Bp:Nat)(im:Value)(f:Fl)(p:ZP)(ai:Option Addr)(ci:Nat)(ad:Option Addr)(cd:Nat)(af:Option Addr)(cf:Nat)(ms:List (List UInt8))(w:World)(hL:kM ⟨md,.slice ai p.imports.length ci,.slice ad p.defs.length cd,.slice af ms.length cf,db⟩ lb im f w)
  (hfit:p.fit) (hp:TU p Bp ai ad w) (hn:p.text.length≤1099511627776) (hF:RowK sQ (fun _=>True) w (.slice af ms.length cf) ms) (hms:ms.length≤1000∧∀ m∈ms,m.length≤65536) (hmd:md.length≤65536) :
  Calls Tryz.prog 53 #[.pointer (some ⟨lb,0,none⟩)] w fun r w'=>r=.returned (.bool (p.right && (aR md && og [] ms)))∧Below w.heap.size w w':=by
 obtain⟨⟨k0,k1,k2,k3,k4,k5,k6,k7⟩,-⟩:=hL.cells;have HSP:=ah (Jc p hfit Bp ai ci ad cd w hp hn);unfold kC at HSP;have HP:=ah (fun V=>kI ⟨md.toArray⟩ V (by show md.toArray.size≤_;simp;omega));simp only at HP;obtain⟨ae',ce',hv,_,hform⟩:=hF.form;simp only[Value.slice.injEq] at hv;obtain⟨rfl,-,rfl⟩:=hv;have HF:=ah hform;have HMS:=ah hms;have hm1:=hms.1;have Zx:=hL.lt;have HL0:=ah hL;clear hL hfit hp hn hF hform hms
 obtain⟨rs,hrs⟩:∃ rs:Bool,rs=og [] ms:=⟨_,rfl⟩
 rw[← hrs];have HRS:=ah hrs;clear hrs;generalize p.right=pr at *;generalize aR md=pl at *;generalize p.text=tx at *;go_enter Tryz.func53,Tryz.ntmps53
 cases pr with
 | false =>
  have PX:=HSP.out
  (try simp only[Bool.false_eq_true,if_false,if_true] at PX)
  have Z7:=ah PX;clear HSP PX HP;go_wp2_with (go_at_call 81;refine Z7.out.mono ?_;rintro r w2 ⟨rfl,hb2⟩);go_ret;exact⟨rfl,hb2⟩
 | true =>
  have PX:=HSP.out
  (try simp only[Bool.false_eq_true,if_false,if_true] at PX)
  have Z7:=ah PX;clear HSP PX
  go_upto_region 2 with (go_at_call 81;refine Z7.out.mono ?_;rintro r w2 ⟨rfl,hb2⟩)
  have hz2:=hb2.size;have hL2:=HL0.out.below hb2;have HL2:=ah hL2;clear k0 k1 k2 k3 k4 k5 k6 k7 Z7;obtain⟨⟨k0,k1,k2,k3,k4,k5,k6,k7⟩,-⟩:=hL2.cells;clear hL2
  cases pl with
  | false =>
   go_wp2_with (go_at_call 48;refine(HP.out _).mono ?_;rintro r w3 ⟨rfl,hb3⟩);go_ret;exact⟨rfl,hb2.trans (hb3.mono hz2)⟩
  | true =>
   go_upto_region 4 with (go_at_call 48;refine(HP.out _).mono ?_;rintro r w3 ⟨rfl,hb3⟩)
   clear k0 k1 k2 k3 k4 k5 k6 k7;have abH:=hb2.trans (hb3.mono hz2);have hL3:=HL2.out.below hb3;have hz3:=hb3.size;have hal:=aj w3 (.cells #[.slice none 0 0] 114);have gv:=heap_alloc_new w3 (.cells #[.slice none 0 0] 114);have hb4:=abH.trans (hal.mono abH.size);have hL4:=hL3.below hal;obtain⟨⟨k0,k1,k2,k3,k4,k5,k6,k7⟩,-⟩:=hL4.cells
   have hvl:w3.heap.size<(w3.alloc (.cells #[.slice none 0 0] 114)).heap.size:=by simp
   go_upto_region 5 with fail
   change Code.wp _ _ _ _ (w3.alloc (.cells #[.slice none 0 0] 114));generalize w3.alloc (.cells #[.slice none 0 0] 114)=w4 at *;have HG:=ah gv;clear hL3 hL4 gv;generalize hvv:w3.heap.size=vb at *
   have hwv:w.heap.size≤vb:=by have:=abH.size;omega
   go_wp2;clear k0 k1 k2 k3 k4 k5 k6 k7
   go_loopw [7,31] (fun _ q wr=>∃ (k:Nat) (ab:Option Addr) (cb:Nat) (bd:List (List UInt8)),k≤ms.length∧q=.int .i64 k∧rs=og bd (ms.drop k)∧wr.heap[vb]?=some (.cells #[.slice ab bd.length cb] 114 (0,0))∧fM (fun b=>b≠vb) wr (.slice ab bd.length cb) bd∧bd.Pairwise (· < ·)∧bd.length≤k∧Below w.heap.size w wr) (fun _ q _=>ms.length - (intOf q).toNat)
   case atStart=>exact⟨0,none,0,[],Nat.zero_le _,rfl,by rw[HRS.out];rfl,HG.out,fM.nil _ _,List.Pairwise.nil,Nat.zero_le _,hb4⟩
   case round =>
    obtain⟨k,ab,cb,bd,hk,rfl,hres,hvb,htr,hrr,hbk,hbl⟩:=hrel;have I6:=hbl.size;have hvr:=(bQ hvb).1;have nX:=ah hres;have HVB:=ah hvb;have Oz:=ah htr;have HRR:=ah hrr;clear hres hvb htr hrr
    by_cases hlt:k<ms.length
    ·obtain⟨b,off,rfl,_,hbw,hcell⟩:=HF.out (by omega)
     obtain⟨_,_,hc⟩:=hcell k hlt;have x0:=(hbl.cell (p:=⟨b,off+k * 2+0,none⟩) hbw).trans (hc 0 _ rfl);have x1:=(hbl.cell (p:=⟨b,off+k * 2+1,none⟩) hbw).trans (hc 1 _ rfl);rw[Nat.add_zero] at x0;have hdr:ms.drop k=ms[k] :: ms.drop (k+1):=List.drop_eq_getElem_cons hlt;have hmm:=HMS.out.2 _ (List.getElem_mem hlt)
     have pQ:(k:Int)<(ms.length:Int):=by omega
     have HDR:=ah hdr;clear hc hcell hdr;generalize ms[k]=y at *;have DL:Hid (rs=(aR y && (!decide (y∈bd) && og (fF (bd++[y])) (ms.drop (k+1))))):=ah (by rw[nX.out,HDR.out,og]);have bO:=aj wr (.cells #[.string ⟨y.toArray⟩,.slice none 0 0] 27);have hN:=heap_alloc_new wr (.cells #[.string ⟨y.toArray⟩,.slice none 0 0] 27);clear nX HDR
     go_upto_region 8 with fail
     change Code.wp _ _ _ _ (wr.alloc (.cells #[.string ⟨y.toArray⟩,.slice none 0 0] 27));clear x0 x1
     have hyl:wr.heap.size<(wr.alloc (.cells #[.string ⟨y.toArray⟩,.slice none 0 0] 27)).heap.size:=by simp
     generalize wr.alloc (.cells #[.string ⟨y.toArray⟩,.slice none 0 0] 27)=w5 at *;have Qz:=bO.size;have gv5:=(bO.block _ hvr).trans HVB.out;have hT5:=Oz.out.below bO;have hb5:=hbl.trans (bO.mono I6);have HFR:=ah (PU y w5 hmm);have HN5:=ah hN;have HV5:=ah gv5;have HT5:=ah hT5;obtain⟨y0,y1⟩:=kN hN;generalize aR y=py at *;clear hN gv5 hT5 HVB Oz
     cases py with
     | false =>
      have HE:Hid (rs=false):=ah (by rw[DL.out];rfl);clear DL;go_wp2_with (go_at_call 20;refine HFR.out.mono ?_;rintro r w6 ⟨rfl,hb6⟩);go_ret;exact⟨by rw[HE.out];rfl,hb5.trans (hb6.mono hb5.size)⟩
     | true =>
      have HH:=ah (fun W (hW:Below w5.heap.size w5 W)=>Bn _ ab cb bd ⟨y.toArray⟩ W (HT5.out.below hW) HRR.out (by omega));simp only at HH;have HW0:=ah (fun W (hW:Below w5.heap.size w5 W)=>Dy (fun _=>True) ab cb (.slice (some ⟨W.heap.size,0,none⟩) 1 1) bd [y] (W.alloc (.cells #[.string ⟨y.toArray⟩] 9)) (((HT5.out.below hW).below (aj W _)).imp fun _ _ _=>trivial) (I8 W y) (by omega) (by simp));have hsl:=qD (bd++[y]);rw[bC,List.length_singleton] at hsl;have HSR:=ah (tH (bd++[y]));generalize fF (bd++[y])=S at *
      obtain⟨m,hm⟩:∃ m,m=decide (y∈bd):=⟨_,rfl⟩
      rw[← hm] at HH DL;clear hm
      cases m with
      | true =>
       have HE:Hid (rs=false):=ah (by rw[DL.out];rfl);clear DL HW0;go_wp2_with (first|(go_at_call 20;refine HFR.out.mono ?_;rintro r w6 ⟨rfl,hb6⟩;obtain⟨v0,v1⟩:=kN ((hb6.block _ hyl).trans HN5.out);obtain⟨u0,uz⟩:=bA ((hb6.block _ (by omega)).trans HV5.out))|(go_at_call 60;refine(HH.out _ hb6).mono ?_;rintro r w7 ⟨rfl,sI⟩));go_ret;exact⟨by rw[HE.out];rfl,hb5.trans ((hb6.trans (sI.mono hb6.size)).mono hb5.size)⟩
      | false =>
       have HE:Hid (rs=og S (ms.drop (k+1))):=ah (by rw[DL.out];rfl);clear DL
       go_upto_region 10 with (first|(go_at_call 20;refine HFR.out.mono ?_;rintro r w6 ⟨rfl,hb6⟩;obtain⟨v0,v1⟩:=kN ((hb6.block _ hyl).trans HN5.out);obtain⟨u0,uz⟩:=bA ((hb6.block _ (by omega)).trans HV5.out))|(go_at_call 60;refine(HH.out _ hb6).mono ?_;rintro r w7 ⟨rfl,sI⟩))
       clear y0 y1 v0 v1 u0 uz;have Xp:=hb6.trans (sI.mono hb6.size);have hz7:=Xp.size;obtain⟨v0,v1⟩:=kN ((Xp.block _ hyl).trans HN5.out);have gv7:=(Xp.block _ (by omega)).trans HV5.out;obtain⟨u0,uz⟩:=bA gv7;have HWx:=ah (HW0.out w7 Xp);have j3:Below w7.heap.size w7 (w7.alloc (.cells #[.string ⟨y.toArray⟩] 9)):=aj w7 _;have HV7:=ah gv7;clear gv7 HW0 HH HFR HN5 HT5
       have aeG:vb<w7.heap.size:=by omega
       go_wp2_with (go_at_call 61;refine HWx.out.mono ?_;rintro e w9 ⟨a9,c9,rfl,ht9,abI⟩;have ado:=j3.trans (abI.mono (by simp));have gv9:=(ado.block _ aeG).trans HV7.out;have hfz:=(bA gv9).2;have hc0:=(bA gv9).1);have hw9:=hb5.trans ((Xp.trans (ado.mono hz7)).mono hb5.size);have gvF:=heap_setCell_same w9 vb 0 _ _ (.slice a9 S.length c9) gv9
       have hTF:fM (fun b=>b≠vb) (w9.setCell ⟨vb,0,none⟩ (.slice a9 S.length c9)) (.slice a9 S.length c9) S:=(ht9.frame (aT.set _ fun b hb=>by have:=j3.size;show b≠vb;omega)).imp fun b hb _=>by have:=j3.size;omega
       have hwF:Below w.heap.size w (w9.setCell ⟨vb,0,none⟩ (.slice a9 S.length c9)):=hw9.setCell hwv _
       go_roundw
       case rel=>exact⟨k+1,a9,c9,S,by omega,by go_num,HE.out,gvF,hTF,HSR.out,by omega,hwF⟩
       case measure=>simp[intOf];omega
    ·obtain rfl:k=ms.length:=by omega
     have pQ:decide ((ms.length:Int)<(ms.length:Int))=false:=decide_eq_false (by omega);have HE:Hid (rs=true):=ah (by rw[nX.out,List.drop_length];rfl);go_wp2;go_ret;exact⟨by rw[HE.out];rfl,hbl⟩
theorem Tryz.TV:(Tryz.prog.info? 46).map (fun i=>(i.zero,i.size,i.bytes))=some (some (.agg #[.int .i64 0,.string ⟨#[]⟩,.string ⟨#[]⟩,.bool false,.slice none 0 0,.bool false,.slice none 0 0,.int .i64 0]),8,112):=by kernel_rfl
def abJ (n:Nat)(cs:List Value)(w:World)(e:Ending)(w':World):Prop:=∃ a c,e=.returned (.slice a n c)∧mo (fun b=>w.heap.size≤b) w' (.slice a n c) 8 n cs∧Below w.heap.size w w'
theorem DN (P:Nat→Prop)(v:Value)(n:Nat)(cs:List Value)(w:World)(h:mo P w v 8 n cs)(h1:∀ u∈cs,u.oneCell'=true)(hn:n≤1000000) :
  Calls Tryz.prog 38 #[v] w (abJ n cs w):=by
 obtain⟨i0,hi,hz0,hz1,hz2⟩:=info_parts Tryz.TV;obtain⟨ao,cap,rfl,hcap,hlen,hf⟩:=h
 have q22:∀ (w:World) (a:Option Addr) (n c n' c':Nat),(binOp .eql 29 (.slice a n c) (.slice none n' c')).run Tryz.prog w=.ok (.bool a.isNone) w:=fun w a n c n' c'=>Lib.run_eql_slice_nil w _ _ a n c n' c' Tryz.underlying29
 have u22:∀ w,Sem.run Tryz.prog (underlying 29) w=.ok (TypeDesc.slice 46) w:=run_underlying Tryz.underlying29
 cases ao with
 | none =>
  have hn0:n=0:=by
   rcases Nat.eq_zero_or_pos n with q|q
   ·exact q
   ·obtain⟨b,off,q1,_⟩:=hf q;cases q1
  subst hn0;obtain rfl:cs=[]:=List.eq_nil_of_length_eq_zero (by omega);clear hf hlen h1;go_enter Tryz.func38,Tryz.ntmps38;go_wp2;go_ret;exact⟨none,0,rfl,mo.nil _ _ _,Below.refl _ _⟩
 | some ad =>
  have hnews:∀ j u,cs[j]?=some u→w.cell? (ad.add j)=some u:=fun j u hj=>by
   obtain⟨h2,h3⟩:=nY hj;obtain⟨b,off,q1,_,_,q2⟩:=hf (by omega)
   injection q1 with q1
   rw[q1,Addr.add_lit,q2 j h2,h3]
  have aeH:∀ j u,cs[j]?=some u→(ad.add j).block<w.heap.size:=fun j u hj=>by
   obtain⟨h2,h3⟩:=nY hj;obtain⟨b,off,q1,_,q3,q2⟩:=hf (by omega)
   injection q1 with q1
   rw[q1,Addr.add_lit];exact q3
  have A:=ah hnews;have HLEN:=ah hlen;have HU:=ah h1;clear hf hlen h1 hnews;go_enter Tryz.func38,Tryz.ntmps38;go_wp2_with (at_builtin;refine wpList_append_own _ rfl _ _ 29 rfl w.heap.size 46 i0 (.agg #[.int .i64 0,.string ⟨#[]⟩,.string ⟨#[]⟩,.bool false,.slice none 0 0,.bool false,.slice none 0 0,.int .i64 0]) 8 112 Tryz.underlying29 hi hz0 hz1 hz2 rfl (by decide) _ _ _ rfl (World.ownsRow_made w #[] 0 (Nat.le_refl _) (Nat.zero_le _) rfl) ad n cap cs rfl ?qc1 ?qc2 ?qc3 ?qc4 ?qc5 ?qc6 ?_)
  case qc1=>exact HLEN.out
  case qc2 =>
   intro j u hj;have:=A.out j u hj;rw[World.cell?_of_block (Lib.alloc_old w _ _ (aeH j u hj))];exact this
  case qc3=>exact HU.out
  case qc4=>unfold maxLen;omega
  case qc5=>omega
  case qc6=>simp
  intro v' w1 hown hgrow hnil;have hb:Below w.heap.size w w1:=((Below.refl _ w).alloc (Nat.le_refl _) _).grown hgrow (by simp) (by intro k hk;simp[Value.ownBlock] at hk;omega)
  have hsl:=mo.eP (P:=fun b=>w.heap.size≤b) hown fun _ hb=>hb
  have hvf:∃ a c,v'=.slice a n c:=by
   rcases hown.2 with ⟨q,q2⟩|⟨g,cap',cur,q,_⟩
   ·exact⟨none,0,by rw[q,show n=0 by omega]⟩
   ·exact⟨_,_,q⟩
  obtain⟨a',c',rfl⟩:=hvf;clear hown hgrow hnil;go_wp2;go_ret;exact⟨a',c',rfl,hsl,hb⟩
end Go.Proofs.YtknicmmigbhpcaaGreatDoor

namespace Go.Proofs.YtknicmmigbhpcaaGreatDoor
end Go.Proofs.YtknicmmigbhpcaaGreatDoor

namespace Go.Proofs.YtknicmmigbhpcaaGreatDoor
theorem TW (op:Int):(qP op).length≤2:=by
 unfold qP;generalize op.toNat - 7=i
 have h:∀ x∈([[43],[45],[42],[47],[37],[61],[60,62],[60],[60,61],[62],[62,61],[38,38],[124,124],[61,62]]:List (List UInt8)),x.length≤2:=by decide
 rw[List.getD_eq_getElem?_getD]
 cases hx:([[43],[45],[42],[47],[37],[61],[60,62],[60],[60,61],[62],[62,61],[38,38],[124,124],[61,62]]:List (List UInt8))[i]? with
 | none=>simp
 | some x=>exact h x (List.mem_of_getElem? hx)
theorem yH (l:Int)(k:Int × List UInt8):(pO l k).length≤k.2.length+2:=by
 unfold pO
 split
 ·simp only[bC,dI,List.length_nil];omega
 ·omega
def yI:List (Int × List UInt8)→Nat
 | []=>0
 | k :: l=>k.2.length+yI l
theorem PY:∀ ks:List (Int × List UInt8),(ks.getD 0 (0,[])).2.length+(ks.getD 1 (0,[])).2.length+(ks.getD 2 (0,[])).2.length≤yI ks
 | []=>by simp[yI]
 | [a]=>by simp[yI]
 | [a,b]=>by simp[yI]
 | a :: b :: c :: l=>by simp[yI];omega
theorem DT:∀ ks:List (Int × List UInt8),(bB (ks.map Prod.snd)).length≤yI ks+2 * ks.length
 | []=>by simp[bB,yI]
 | [a]=>by simp[bB,yI]
 | a :: b :: l=>by
  have h:=DT (b :: l);simp only[List.map_cons,bB,bC,dI,List.length_nil,yI] at h ⊢;omega
theorem TY (op:Int)(nm md:List UInt8)(num:Int)(yes:Bool)(ks:List (Int × List UInt8))(h1:nm.length≤65536)(h2:md.length≤65536)(h3:(jf num).length≤61)(h4:ks.length≤65536):(mq op nm md num yes ks).length≤yI ks+300000:=by
 have h5:=PY ks;have h6:=DT ks;have h7:=TW op;have p1:=yH 9 (ks.getD 0 (0,[]));have p2:=yH 4 (ks.getD 0 (0,[]));have p3:=yH (tY op) (ks.getD 0 (0,[]));have p4:=yH (xU op) (ks.getD 1 (0,[]))
 have hm:(if md=[] then [] else md++[46]).length≤65537:=by
  split
  ·simp
  ·simp only[bC,dI,List.length_nil];omega
 unfold mq;generalize (if md=[] then [] else md++[46])=mm at hm ⊢
 repeat' split
 all_goals ((try simp only[bC,dI,List.length_nil]);omega)
theorem MC:∀ (k n:Nat),n<10 ^ (k+1)→(fZ n).length≤k+1
 | 0,n,h=>by
  rw[fZ,dif_pos (by omega)]
  simp
 | k+1,n,h=>by
  rw[fZ]
  split
  ·simp
  ·rw[bC,List.length_singleton]
   have:=MC k (n / 10) (by rw[Nat.pow_succ] at h;omega);omega
theorem Xq {n:Int}(h:n.natAbs<10 ^ 60):(jf n).length≤61:=by
 unfold jf;rw[bC];have:=MC 59 n.natAbs h
 split
 ·simp only[dI,List.length_nil];omega
 ·simp only[List.length_nil];omega
mutual
theorem PZ.DU:∀ e:PZ,e.fit→e.text.length≤300000 * e.size
 | .mk op nm md num yes kids at_,h=>by
  rw[PZ.fit] at h;obtain⟨h1,h2,h3,h4,h5⟩:=h;have hs:=yJ kids h5
  have hl:(gX kids).length=kids.length:=by rw[oP,List.length_map]
  have:=TY op nm md num yes (gX kids) h1 h2 (Xq h3) (by omega);rw[PZ.text,PZ.size];omega
theorem yJ:∀ l:List PZ,IE l→yI (gX l)≤300000 * sM l
 | [],_=>by simp[gX,yI]
 | e :: l,h=>by
  rw[IE] at h;have h1:=PZ.DU e h.1;have h2:=yJ l h.2;rw[gX,yI,sM];simp only;omega
end
theorem Rj {nodes:List Nd}:∀ (l:List PT) (ks:List Int) (u:Nat),eH nodes ks u l→ks.length=l.length∧∀ j,(h1:j<ks.length)→(h2:j<l.length)→mH nodes ks[j] (u+bJ (l.take j)) l[j]
 | [],ks,u,h=>by
  rw[eH] at h;subst h;exact⟨rfl,fun j h1=>absurd h1 (by simp)⟩
 | i :: l,ks,u,h=>by
  rw[eH] at h;obtain⟨k,ks',rfl,h1,h2⟩:=h;obtain⟨h3,h4⟩:=Rj l ks' _ h2;refine⟨by simp[h3],fun j q1 q2=>?_⟩
  cases j with
  | zero=>simpa [bJ] using h1
  | succ j =>
   have:=h4 j (by simpa using q1) (by simpa using q2);rw[List.take_succ_cons,bJ,← Nat.add_assoc];exact this
theorem ME:∀ (l:List PT) (j:Nat) (h:j<l.length),bJ (l.take j)+l[j].lv≤bJ l
 | [],j,h=>absurd h (by simp)
 | i :: l,0,h=>by simp[bJ]
 | i :: l,j+1,h=>by
  have:=ME l j (by simpa using h);rw[List.take_succ_cons,bJ,bJ];simp only[List.getElem_cons_succ];omega
theorem DW (toks:List Tok):∀ (n u j:Nat) (h:j<(nU toks u n).length),(nU toks u n)[j]=(aH toks (u+3 * j+1),dF toks (u+3 * j+1))
 | 0,u,j,h=>absurd h (by simp[nU])
 | n+1,u,0,h=>rfl
 | n+1,u,j+1,h=>by
  have:=DW toks n (u+3) j (by simpa [nU] using h);simp only[nU,List.getElem_cons_succ,this];rw[show u+3+3 * j+1=u+3 * (j+1)+1 by omega]
theorem DY (toks:List Tok):∀ (l:List dG) (u j:Nat) (h:j<l.length) (h2:j<(lW toks u l).length),(lW toks u l)[j]=l[j].dd toks (u+bJ ((l.take j).map dG.pt))
 | [],u,j,h,_=>absurd h (by simp)
 | d :: l,u,0,h,_=>by simp[lW,bJ]
 | d :: l,u,j+1,h,h2=>by
  have:=DY toks l (u+d.pt.lv) j (by simpa using h) (by simpa [lW] using h2);simp only[lW,List.getElem_cons_succ,this,List.take_succ_cons,List.map_cons,bJ,Nat.add_assoc]
theorem DZ {toks:List Tok}:∀ (l:List dG) (u j:Nat) (h:j<l.length),zA toks u l→l[j].ok toks (u+bJ ((l.take j).map dG.pt))
 | [],u,j,h,_=>absurd h (by simp)
 | d :: l,u,0,h,ho=>by simpa [bJ] using ho.1
 | d :: l,u,j+1,h,ho=>by
  have:=DZ l (u+d.pt.lv) j (by simpa using h) ho.2
  simpa [bJ,Nat.add_assoc] using this
theorem j4.Z8 (p:j4)(j:Nat)(h:j<p.imps):∃ h2:j<p.kids.length,p.kids[j]=uD∧bJ (p.kids.take j)=3 * j:=by
 have h2:j<p.kids.length:=by simp only[j4.kids,bC,List.length_replicate];omega
 refine⟨h2,?_,?_⟩
 ·simp only[j4.kids]
  rw[List.getElem_append_left (by simpa using h),List.getElem_replicate]
 ·simp only[j4.kids]
  rw[List.take_append_of_le_length (by simp;omega),List.take_replicate,Br,Nat.min_eq_left (by omega)]
theorem j4.Z9 (p:j4)(j:Nat)(h:j<p.defs.length):∃ h2:p.imps+j<p.kids.length,p.kids[p.imps+j]=p.defs[j].pt∧bJ (p.kids.take (p.imps+j))=3 * p.imps+bJ ((p.defs.take j).map dG.pt):=by
 have h2:p.imps+j<p.kids.length:=by simp only[j4.kids,bC,List.length_replicate,List.length_map];omega
 refine⟨h2,?_,?_⟩
 ·simp only[j4.kids]
  rw[List.getElem_append_right (by simp),List.getElem_append_left (by simp;omega)]
  simp
 ·simp only[j4.kids]
  rw[List.take_append,List.take_of_length_le (by simp),iI,Br,List.length_replicate,Nat.add_sub_cancel_left,List.take_append_of_le_length (by simp;omega),List.map_take]
theorem j4.aai (p:j4):∃ h2:p.imps+p.defs.length<p.kids.length,p.kids[p.imps+p.defs.length]=.leaf:=by
 have h2:p.imps+p.defs.length<p.kids.length:=by simp only[j4.kids,bC,List.length_replicate,List.length_map,List.length_singleton];omega
 refine⟨h2,?_⟩;simp only[j4.kids];rw[List.getElem_append_right (by simp),List.getElem_append_right (by simp)]
 simp
theorem j4.Xr (p:j4):p.kids.length=p.imps+p.defs.length+1:=by
 simp only[j4.kids,bC,List.length_replicate,List.length_map,List.length_singleton];omega
inductive It where
 | leaf
 | expr (e:CE)
 | par (t:fK)
 | base
 | cl (e:CE)
def It.pt:It→PT
 | .leaf=>.leaf
 | .expr e=>e.pt
 | .par t=>t.par
 | .base=>.node 5 [.leaf]
 | .cl e=>.node 6 [.leaf,e.pt,.leaf]
structure Xt where
 base:Nat
 clause:List PE
 bare:Int
def It.step (toks:List Tok)(u:Nat):It→Xt→Xt
 | .base,a=>⟨if aH toks u=yc then 2 else 1,a.clause,((dF toks u+(aH toks u).length:Nat):Int)⟩
 | .cl e,a=>⟨a.base,[e.pe toks (u+1)],-1⟩
 | _,a=>a
def lY (toks:List Tok):Nat→List It→Xt→Xt
 | _,[],a=>a
 | u,i :: l,a=>lY toks (u+i.pt.lv) l (i.step toks u a)
theorem lC (toks:List Tok):∀ (l k:List It) (u:Nat) (a:Xt),lY toks u (l++k) a=lY toks (u+bJ (l.map It.pt)) k (lY toks u l a)
 | [],k,u,a=>by simp[lY,bJ]
 | i :: l,k,u,a=>by
  rw[List.cons_append,lY,lC toks l k,lY,List.map_cons,bJ,Nat.add_assoc]
def fC (toks:List Tok):Nat→List It→List FF
 | _,[]=>[]
 | u,.par t :: l=>t.uF toks u :: fC toks (u+(It.par t).pt.lv) l
 | u,i :: l=>fC toks (u+i.pt.lv) l
theorem gH (toks:List Tok):∀ (l k:List It) (u:Nat),fC toks u (l++k)=fC toks u l++fC toks (u+bJ (l.map It.pt)) k
 | [],k,u=>by simp[fC,bJ]
 | .par t :: l,k,u=>by
  rw[List.cons_append,fC,gH toks l k,fC,List.map_cons,bJ,Nat.add_assoc,List.cons_append]
 | .leaf :: l,k,u=>by
  rw[List.cons_append,fC,gH toks l k,fC,List.map_cons,bJ,Nat.add_assoc]<;>simp
 | .base :: l,k,u=>by
  rw[List.cons_append,fC,gH toks l k,fC,List.map_cons,bJ,Nat.add_assoc]<;>simp
 | .expr e :: l,k,u=>by
  rw[List.cons_append,fC,gH toks l k,fC,List.map_cons,bJ,Nat.add_assoc]<;>simp
 | .cl e :: l,k,u=>by
  rw[List.cons_append,fC,gH toks l k,fC,List.map_cons,bJ,Nat.add_assoc]<;>simp
def fK.its (t:fK):List It:=[.leaf,.base]++(match t.cl with|none=>[]|some e=>[.cl e])
theorem fK.D5 (t:fK):t.its.map It.pt=t.pts:=by
 unfold fK.its fK.pts
 cases t.cl<;>rfl
def fK.pE (t:fK):List It:=.leaf :: t.its
theorem fK.T9 (t:fK):t.par=.node 4 (t.pE.map It.pt):=by
 rw[fK.par,fK.pE,List.map_cons,t.D5]
 rfl
def fJ:List fK→List It
 | []=>[]
 | t :: l=>.par t :: (match l with | []=>[]|_ :: _=>.leaf :: fJ l)
theorem rE:∀ l:List fK,(fJ l).map It.pt=jR (l.map fK.par)
 | []=>rfl
 | [t]=>rfl
 | t :: s :: l=>by
  have:=rE (s :: l);rw[show fJ (t :: s :: l)=.par t :: .leaf :: fJ (s :: l) from by rw[fJ],List.map_cons,List.map_cons,this];show _=jR (t.par :: s.par :: l.map fK.par);rw[qQ]
  rfl
def dG.fD (d:dG):List It:=if d.pub=true then [.leaf] else []
def dG.its (d:dG):List It:=d.fD++([.leaf,.leaf,.leaf]++(fJ d.kJ++([.leaf]++(d.ty.its++[.leaf,.expr d.body,.leaf]))))
theorem dG.D5 (d:dG):d.pt=.node 3 (d.its.map It.pt):=by
 have h:d.fD.map It.pt=d.lead:=by unfold dG.fD dG.lead;split<;>rfl
 rw[dG.pt,dG.kids,dG.its];simp only[List.map_append,h,rE,d.ty.D5,List.map_cons,List.map_nil,It.pt]
theorem oG (toks:List Tok):∀ (l:List It) (u:Nat) (a:Xt),(∀ i∈l,(i matches .leaf)∨(i matches .par _)∨(i matches .expr _))→lY toks u l a=a
 | [],u,a,_=>rfl
 | i :: l,u,a,h=>by
  rw[lY,oG toks l _ _ fun x hx=>h x (List.mem_cons_of_mem _ hx)];have:=h i List.mem_cons_self
  cases i<;>simp_all [It.step]
theorem MF (toks:List Tok)(t:fK)(u:Nat)(name:List UInt8)(at_:Nat){b0:Nat}{y0:Int}:lY toks u t.its ⟨b0,[],y0⟩=⟨(t.ff toks u name at_).base,(t.ff toks u name at_).clause,(t.ff toks u name at_).bare⟩:=by
 unfold fK.its fK.ff
 cases t.cl with
 | none=>simp[lY,It.step,It.pt,PT.lv]
 | some e=>simp[lY,It.step,It.pt,PT.lv,bJ]
theorem D6:∀ l:List fK,∀ i∈fJ l,(i matches .leaf)∨(i matches .par _)∨(i matches .expr _)
 | [],i,h=>by rw[fJ] at h;cases h
 | [t],i,h=>by
  rw[fJ,List.mem_singleton] at h;subst h;exact .inr (.inl rfl)
 | t :: s :: l,i,h=>by
  rw[show fJ (t :: s :: l)=.par t :: .leaf :: fJ (s :: l) from by rw[fJ],List.mem_cons,List.mem_cons] at h
  rcases h with rfl|rfl|h
  ·exact .inr (.inl rfl)
  ·exact .inl rfl
  ·exact D6 (s :: l) i h
theorem fK.aaj (toks:List Tok)(t:fK)(u:Nat){b0:Nat}{y0:Int}:lY toks u t.pE ⟨b0,[],y0⟩=⟨(t.uF toks u).base,(t.uF toks u).clause,(t.uF toks u).bare⟩:=by
 rw[fK.pE,lY,fK.uF];exact MF toks t (u+1) _ _
theorem dG.typ (toks:List Tok)(d:dG)(u:Nat){b0:Nat}{y0:Int}:lY toks u d.its ⟨b0,[],y0⟩=⟨(d.dd toks u).res.base,(d.dd toks u).res.clause,(d.dd toks u).res.bare⟩:=by
 have h1:∀ i∈d.fD,(i matches .leaf)∨(i matches .par _)∨(i matches .expr _):=fun i h=>by
  unfold dG.fD at h
  split at h
  ·rw[List.mem_singleton] at h;subst h;exact .inl rfl
  ·cases h
 have h2:∀ i∈[It.leaf,.leaf,.leaf],(i matches .leaf)∨(i matches .par _)∨(i matches .expr _):=fun i h=>by
  simp only[List.mem_cons,List.not_mem_nil,or_false,or_self] at h;subst h;exact .inl rfl
 have h3:∀ i∈[It.leaf,.expr d.body,.leaf],(i matches .leaf)∨(i matches .par _)∨(i matches .expr _):=fun i h=>by
  simp only[List.mem_cons,List.not_mem_nil,or_false] at h
  rcases h with rfl|rfl|rfl
  ·exact .inl rfl
  ·exact .inr (.inr rfl)
  ·exact .inl rfl
 have h4:∀ i∈[It.leaf],(i matches .leaf)∨(i matches .par _)∨(i matches .expr _):=fun i h=>by
  rw[List.mem_singleton] at h;subst h;exact .inl rfl
 have hl:bJ (d.fD.map It.pt)=bJ d.lead:=by unfold dG.fD dG.lead;split<;>rfl
 rw[dG.its,lC,oG toks _ _ _ h1,lC,oG toks _ _ _ h2,lC,oG toks _ _ _ (D6 _),lC,oG toks _ _ _ h4,lC,oG toks _ _ _ h3]
 rw[show u+bJ (d.fD.map It.pt)+bJ ([It.leaf,.leaf,.leaf].map It.pt)+bJ ((fJ d.kJ).map It.pt)+bJ ([It.leaf].map It.pt)=d.at2 u by
  rw[hl,rE]
  simp only[dG.at2,dG.C8,List.map_cons,List.map_nil,It.pt,bJ,PT.lv]]
 exact MF toks d.ty _ _ _
theorem vF (toks:List Tok):∀ (l:List It) (u:Nat),(∀ i∈l,¬ (i matches .par _))→fC toks u l=[]
 | [],u,_=>rfl
 | i :: l,u,h=>by
  have h1:=h i List.mem_cons_self
  have h2:=vF toks l (u+i.pt.lv) fun x hx=>h x (List.mem_cons_of_mem _ hx)
  cases i with
  | par t=>simp at h1
  | leaf=>rw[fC];exact h2;simp
  | base=>rw[fC];exact h2;simp
  | expr e=>rw[fC];exact h2;simp
  | cl e=>rw[fC];exact h2;simp
theorem MG (toks:List Tok):∀ (l:List fK) (u:Nat),fC toks u (fJ l)=mR toks u l
 | [],u=>rfl
 | [t],u=>by rw[fJ,fC,fC,mR,mR]
 | t :: s :: l,u=>by
  rw[show fJ (t :: s :: l)=.par t :: .leaf :: fJ (s :: l) from by rw[fJ],fC,fC,MG toks (s :: l),mR]
  ·rfl
  ·simp
theorem dG.Xu (toks:List Tok)(d:dG)(u:Nat):fC toks u d.its=(d.dd toks u).params:=by
 have h1:∀ i∈d.fD,¬ (i matches .par _):=fun i h=>by
  unfold dG.fD at h
  split at h
  ·rw[List.mem_singleton] at h;subst h;simp
  ·cases h
 have h2:∀ i∈[It.leaf,.leaf,.leaf],¬ (i matches .par _):=fun i h=>by
  simp only[List.mem_cons,List.not_mem_nil,or_false,or_self] at h;subst h;simp
 have h3:∀ i∈([It.leaf]++(d.ty.its++[.leaf,.expr d.body,.leaf])),¬ (i matches .par _):=fun i h=>by
  unfold fK.its at h
  cases hc:d.ty.cl with
  | none =>
   rw[hc] at h;simp only[List.mem_append,List.mem_cons,List.not_mem_nil,or_false] at h
   rcases h with rfl|(rfl|rfl)|rfl|rfl|rfl<;>simp
  | some e =>
   rw[hc] at h;simp only[List.mem_append,List.mem_cons,List.not_mem_nil,or_false] at h
   rcases h with rfl|((rfl|rfl)|rfl)|rfl|rfl|rfl<;>simp
 have hl:bJ (d.fD.map It.pt)=bJ d.lead:=by unfold dG.fD dG.lead;split<;>rfl
 rw[dG.its,gH,vF toks _ _ h1,gH,vF toks _ _ h2,gH,vF toks _ _ h3,MG,List.nil_append,List.nil_append,List.append_nil,hl];simp only[List.map_cons,List.map_nil,It.pt,bJ,PT.lv]
 rfl
end Go.Proofs.YtknicmmigbhpcaaGreatDoor
