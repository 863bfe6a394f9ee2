/- Walks and plain laws: SigW3, ScopeInv, ScopeW10, ScopeFit, DoneW. -/
import Derived.Test.YtknicmmigbhpcaaGreatDoorF33
import Derived.Lib.Join
set_option maxHeartbeats 16000000
set_option maxRecDepth 100000
set_option linter.unusedVariables false
set_option linter.unusedSimpArgs false
namespace Go.Proofs.YtknicmmigbhpcaaGreatDoor
open Go.RowKit Go Go.Sort
theorem Xa {base:Int}{cl:List PZ}:∀ {l:List ZF} {nm:List (List UInt8)},XT base cl nm l=true→(∀ f∈l,gF f.base f.clause=true)∧gF base cl=true
 | [],nm,h=>by
  rw[XT,uW,Bool.and_eq_true] at h;exact⟨fun f hf=>(by cases hf),h.1⟩
 | x :: l,nm,h=>by
  rw[XT,Bool.and_eq_true,Bool.and_eq_true,Bool.and_eq_true,uW,Bool.and_eq_true] at h;obtain⟨h1,h2⟩:=Xa h.2.2.2
  exact⟨fun f hf=>by
   rcases List.mem_cons.1 hf with rfl|hf
   ·exact h.2.2.1.1
   ·exact h1 f hf,h2⟩
theorem wu:∀ l:List (List UInt8),Lib.join l [44,32]=bg l
 | []=>rfl
 | [t]=>by simp[Lib.join,bg,List.intercalate]
 | t :: s :: l=>by
  have h:=wu (s :: l);unfold Lib.join at h ⊢;rw[bg,← h];simp[List.intercalate,List.intersperse]
theorem Xb (P:Nat→Prop)(v:Value)(l:List (List UInt8))(w:World)(h:bC P w v l)(hl:l.length≤1000000)(hn:(bg l).length≤140737488355328) :
  Calls Tryz.prog 50 #[v,.string ⟨#[44,32]⟩] w fun e w'=>e=.returned (.string ⟨(bg l).toArray⟩)∧Below w.heap.size w w':=by
 obtain⟨ao,cap,rfl,hcap,hc⟩:=h.slice
 rcases Nat.eq_zero_or_pos l.length with h0|h0
 ·obtain rfl:=List.eq_nil_of_length_eq_zero h0
  exact(Tryz.strings_Join_none ao cap ⟨#[44,32]⟩ w).mono fun e w' q=>⟨q.1,by rw[q.2];exact Below.refl _ _⟩
 ·obtain⟨b,off,rfl,_,hbw,hcell⟩:=hc h0
  have hm:(l.map fun t=>ByteArray.mk t.toArray).map (·.data.toList)=l:=by rw[List.map_map];simp[Function.comp_def]
  have:=Tryz.strings_Join b off cap (l.map fun t=>ByteArray.mk t.toArray) ⟨#[44,32]⟩ w (fun j x hj=>by
   rw[List.getElem?_map] at hj;obtain⟨t,ht,rfl⟩:=Option.map_eq_some_iff.1 hj;obtain⟨hjl,he⟩:=mR ht
   rw[hcell j hjl,he]) hbw (by rw[List.length_map];omega) (by rw[List.length_map];exact hcap) (by rw[hm];show (Lib.join l [44,32]).length≤_;rw[wu];exact hn)
  rw[hm,List.length_map] at this;have e:Lib.join l (ByteArray.mk #[44,32]).data.toList=bg l:=wu l;rw[e] at this;exact this
def Oz (r:ZF)(ps:List ZF)(w:World)(e:Ending)(w':World):Prop:=e=.returned (.tuple #[.string ⟨(if gX r.name ps r.base r.clause=true then mE r.name ps r.base r.clause else []).toArray⟩,.int .i64 (if gX r.name ps r.base r.clause=true then 0 else 10)])∧Below w.heap.size w w'
theorem OA (r:ZF)(ps:List ZF)(B:Nat)(ap:Option Addr)(cp:Nat)(ac:Option Addr)(cc:Nat)(w:World)(h:tY (fun b=>b<B) w (.slice ap ps.length cp) (.slice ac r.clause.length cc) ps r.clause)(hB:B≤w.heap.size)(hr:r.known)(hps:∀ f∈ps,f.known)(hn:(bg (ps.map ZF.text)).length≤140737488355328) :
  Calls Tryz.prog 21 #[.agg #[.string ⟨r.name.toArray⟩,.slice ap ps.length cp,.int .i64 r.base,.slice ac r.clause.length cc]] w (Oz r ps w):=by
 obtain⟨i0,hi,hz0,hz1',hz2'⟩:=info_parts Tryz.yc;have hal:=aj w (.cells #[.string ⟨r.name.toArray⟩,.slice ap ps.length cp,.int .i64 r.base,.slice ac r.clause.length cc] 31);have hN:=heap_alloc_new w (.cells #[.string ⟨r.name.toArray⟩,.slice ap ps.length cp,.int .i64 r.base,.slice ac r.clause.length cc] 31);have Zu:=ah (fun W (hW:Below w.heap.size w W)=>Af r ps B ap cp ac cc W (h.frame (aQ.of hW)) (by have:=hW.size;omega) hr hps);obtain⟨hpr,hcr⟩:=h;obtain⟨ap',cp',hv,_,hform⟩:=hpr.form;simp only[Value.slice.injEq] at hv;obtain⟨rfl,-,rfl⟩:=hv;have HF:=ah hform;have HKR:=ah hcr;have HR:=ah hr;have HPS:=ah hps
 have Tj:Hid (gX r.name ps r.base r.clause=true→ps.length≤8∧(∀ f∈ps,gF f.base f.clause=true)∧gF r.base r.clause=true):=ah fun q=>by
  rw[gX,Bool.and_eq_true,Bool.and_eq_true,decide_eq_true_eq] at q;exact⟨q.2.1,Xa q.2.2⟩
 have HCM:=ah hn;unfold Oz;clear hform hr hps hpr hcr hn;generalize gX r.name ps r.base r.clause=rt at *;obtain⟨rn,rb,rc,ra,rbr⟩:=r;simp only at *
 obtain⟨tx,htx⟩:∃ tx,tx=mE rn ps rb rc:=⟨_,rfl⟩
 rw[← htx];have LP:=ah htx;clear htx;go_enter Tryz.func21,Tryz.ntmps21
 go_upto_region 1 with fail
 change Code.wp _ _ _ _ (w.alloc (.cells #[.string ⟨rn.toArray⟩,.slice ap ps.length cp,.int .i64 rb,.slice ac rc.length cc] 31));generalize w.alloc (.cells #[.string ⟨rn.toArray⟩,.slice ap ps.length cp,.int .i64 rb,.slice ac rc.length cc] 31)=w1 at hal hN ⊢;have hl1:=(bG hN).1;have hz1:=hal.size;obtain⟨⟨y0,y1,y2,y3⟩,-⟩:=fA hN;have HN:=ah hN;have HR1:=ah (Zu.out w1 hal);clear hN Zu
 cases rt with
 | false =>
  go_wp2_with (go_at_call 35;refine HR1.out.mono ?_;rintro r w2 ⟨rfl,hb2⟩);go_ret2;exact⟨rfl,hal.trans (hb2.mono hz1)⟩
 | true =>
  obtain⟨h8,ac8,aeC⟩:=Tj.out rfl;have aeD:=ah ac8
  go_upto_region 4 with (go_at_call 35;refine HR1.out.mono ?_;rintro r w2 ⟨rfl,hb2⟩)
  have hz2:=hb2.size;have yg:=hal.trans (hb2.mono hz1);have LV:=(hb2.block _ hl1).trans HN.out;clear y0 y1 y2 y3 HN HR1 Tj ac8;obtain⟨⟨y0,y1,y2,y3⟩,-⟩:=fA LV;have HN2:=ah LV;clear LV;go_wp2;clear y0 y1 y2 y3
  go_loopw [4,6,7,8,17] (fun kv _ _ _ q wr=>∃ (k:Nat) (ak:Option Addr) (ck:Nat),k≤ps.length∧q=.int .i64 k∧kv=.slice ak k ck∧qJ w2.heap.size wr (.slice ak k ck) ((ps.take k).map ZF.text)∧Below w2.heap.size w2 wr) (fun _ _ _ _ q _=>ps.length - (intOf q).toNat)
  case atStart=>exact⟨0,none,0,Nat.zero_le _,rfl,rfl,World.ownsRow_nil _ _ _ _,Below.refl _ _⟩
  case round =>
   obtain⟨k,ak,ck,hk,rfl,rfl,hown,hbl⟩:=hrel;have uU:=hbl.size;have hbw2:=yg.trans (hbl.mono yg.size);have HW:=ah hown;clear hown
   by_cases hlt:k<ps.length
   ·obtain⟨b,off,rfl,_,hbw,hcell⟩:=HF.out (by omega)
    obtain⟨cv,hcv,hc⟩:=hcell k hlt;have Oy:RowK (ZK YA) (fun b=>b<B) w cv ps[k].clause:=hcv;obtain⟨a2,c2,rfl,-⟩:=l6 Oy;have x0:=(hbw2.cell (p:=⟨b,off+k * 3+0,none⟩) hbw).trans (hc 0 _ rfl);have x1:=(hbw2.cell (p:=⟨b,off+k * 3+1,none⟩) hbw).trans (hc 1 _ rfl);have x2:=(hbw2.cell (p:=⟨b,off+k * 3+2,none⟩) hbw).trans (hc 2 _ rfl);rw[Nat.add_zero] at x0
    have hsn:(ps.take (k+1)).map ZF.text=(ps.take k).map ZF.text++[ps[k].text]:=by rw[List.take_succ_eq_append_getElem hlt,List.map_append];rfl
    have hlm:((ps.take k).map ZF.text).length=k:=by rw[List.length_map,List.length_take,Nat.min_eq_left hk]
    have Pp:=ah (aeD.out _ (List.getElem_mem hlt));have yD:=ah (HPS.out _ (List.getElem_mem hlt))
    have nJ:(k:Int)<(ps.length:Int):=by omega
    have pQ:=ah hsn;have HCV:=ah Oy;clear hc hcell hcv Oy hsn;generalize hzs:(ps.take k).map ZF.text=zs at *;generalize ps[k]=f at *;clear hzs;obtain⟨pU,fb,fc,fa,fbr⟩:=f;simp only[bY] at x0 x1 x2 yD HCV Pp;have bq:=aj wr (.cells #[.string ⟨pU.toArray⟩,.int .i64 fb,.slice a2 fc.length c2] 96);have hN:=heap_alloc_new wr (.cells #[.string ⟨pU.toArray⟩,.int .i64 fb,.slice a2 fc.length c2] 96)
    have Xc:ByteArray.mk pU.toArray++ByteArray.mk #[58,32]++ByteArray.mk (gG fb fc).toArray=ByteArray.mk (ZF.text ⟨pU,fb,fc,fa,fbr⟩).toArray:=by
     rw[show (ByteArray.mk #[58,32])=ByteArray.mk ([58,32]:List UInt8).toArray from rfl,nO,nO]
     rfl
    have abx:=ah Xc;clear Xc
    go_upto_region 7 with fail
    change Code.wp _ _ _ _ (wr.alloc (.cells #[.string ⟨pU.toArray⟩,.int .i64 fb,.slice a2 fc.length c2] 96));clear x0 x1 x2
    have hyl:wr.heap.size<(wr.alloc (.cells #[.string ⟨pU.toArray⟩,.int .i64 fb,.slice a2 fc.length c2] 96)).heap.size:=by simp
    generalize wr.alloc (.cells #[.string ⟨pU.toArray⟩,.int .i64 fb,.slice a2 fc.length c2] 96)=w5 at *;have Mr:=bq.size;have Qw:=hbw2.trans (bq.mono hbw2.size);obtain⟨a2',c2',hv2,hck⟩:=l6 (HCV.out.frame (aQ.of Qw));simp only[Value.slice.injEq] at hv2;obtain⟨rfl,-,rfl⟩:=hv2;have hbz:=Qw.size;have Zv:=vV fb fc B a2 c2 w5 hck (by omega) (fun x hx=>(yD.out.cl x hx).1) yD.out.few yD.out.text;unfold qF at Zv;rw[Pp.out,if_pos rfl,if_pos rfl] at Zv;have HTY:=ah Zv;have HN5:=ah hN;have HW5:=ah (own_below HW.out bq);obtain⟨y0,y1,y2⟩:=jK hN;have hfn:=yD.out.name;have hft:=yD.out.text;simp only at hfn hft;generalize gG fb fc=tt at *
    have hq1:¬ 9223372036854775807<pU.length+2:=by omega
    have hq2:¬ 9223372036854775807<pU.length+2+tt.length:=by omega
    clear Zv hck hN HW Pp yD HCV hfn hft
    go_upto_region 8 with (go_at_call 49;refine HTY.out.mono ?_;rintro r w6 ⟨rfl,hb6⟩)
    obtain⟨v0,v1,v2⟩:=jK ((hb6.block _ hyl).trans HN5.out);have hz6:=hb6.size;have HW6:Hid (w6.ownsRow w2.heap.size 9 1 (.slice ak k ck) k (zs.map encStr)):=ah (by have q:=own_below HW5.out hb6;rw[hlm] at q;exact q);clear y0 y1 y2 HTY HN5 HW5;go_wp2_with (at_builtin;refine wpList_append_own _ rfl _ _ 22 rfl w2.heap.size 9 i0 _ 1 16 Tryz.underlying22 hi hz0 hz1' hz2' rfl (by decide) _ k _ rfl (HW6.out.alloc _) ⟨w6.heap.size,0,none⟩ 1 1 [.string (ByteArray.mk pU.toArray++ByteArray.mk #[58,32]++ByteArray.mk tt.toArray)] rfl rfl ?q0 ?q00 ?q2 ?q3 ?q4 ?_)
    case q0=>exact World.news_of_block (cs:=#[.string (ByteArray.mk pU.toArray++ByteArray.mk #[58,32]++ByteArray.mk tt.toArray)]) (t:=9) (fr:=(0,0)) (heap_alloc_new w6 _)
    case q00=>simp[Value.oneCell']
    case q2=>unfold maxLen;omega
    case q3=>omega
    case q4=>simp;omega
    intro v' w' hown' hgrow hiff;have hb':Below w2.heap.size w2 w':=(((hbl.trans (bq.mono uU)).trans (hb6.mono (by omega))).alloc (by omega) _).grown hgrow (by simp;omega) (fun b q=>(HW6.out.lt b q).1);rw[abx.out] at hown'
    have hown':w'.ownsRow w2.heap.size 9 1 v' (zs.length+1) (zs.map encStr++[encStr (ZF.text ⟨pU,fb,fc,fa,fbr⟩)]):=by rw[hlm];exact hown'
    have Oj:Hid (qJ w2.heap.size w' v' (zs++[ZF.text ⟨pU,fb,fc,fa,fbr⟩])):=ah (qJ.app (l:=zs) (a:=[ZF.text ⟨pU,fb,fc,fa,fbr⟩]) hown');obtain⟨xM,xO,rfl⟩:=Oj.out.slice
    have hl2:(zs++[ZF.text ⟨pU,fb,fc,fa,fbr⟩]).length=k+1:=by rw[bP,hlm];rfl
    rw[hl2] at Oj;clear hown' hgrow hiff HW6 hlm;rw[hl2];go_wp2
    go_roundw
    case rel =>
     exact⟨k+1,xM,xO,by omega,by go_num,rfl,by rw[pQ.out];exact Oj.out,hb'⟩
    case measure=>simp[intOf];omega
   ·obtain rfl:k=ps.length:=by omega
    have nJ:decide ((ps.length:Int)<(ps.length:Int))=false:=decide_eq_false (by omega);have hNr:=(hbl.block _ (by omega)).trans HN2.out;have hlr:=(bG hNr).1;obtain⟨⟨y0,y1,y2,y3⟩,-⟩:=fA hNr;have HNR:=ah hNr;obtain⟨ac',cc',hv2,hck⟩:=l6 (HKR.out.frame (aQ.of hbw2));simp only[Value.slice.injEq] at hv2;obtain⟨rfl,-,rfl⟩:=hv2;have hbz:=hbw2.size;have Zv:=vV rb rc B ac cc wr hck (by omega) (fun x hx=>(HR.out.cl x hx).1) HR.out.few HR.out.text;unfold qF at Zv;rw[aeC,if_pos rfl,if_pos rfl] at Zv;have HTY:=ah Zv;have hJ:=HW.out;rw[List.take_length] at hJ;have hlm:(ps.map ZF.text).length=ps.length:=List.length_map _;have HJ:=ah (fun W (hW:Below wr.heap.size wr W)=>Xb (fun _=>True) (.slice ak ps.length ck) (ps.map ZF.text) W (bC.owns (own_below (by unfold qJ at hJ;exact hJ) hW) (fun _ _=>trivial)) (by rw[hlm];omega) HCM.out)
    have Xc:ByteArray.mk rn.toArray++ByteArray.mk #[40]++ByteArray.mk (bg (ps.map ZF.text)).toArray++ByteArray.mk #[41,58,32]++ByteArray.mk (gG rb rc).toArray=ByteArray.mk tx.toArray:=by
     rw[LP.out,show (ByteArray.mk #[40])=ByteArray.mk ([40]:List UInt8).toArray from rfl,show (ByteArray.mk #[41,58,32])=ByteArray.mk ([41,58,32]:List UInt8).toArray from rfl,nO,nO,nO,nO]
     rfl
    have abx:=ah Xc;clear Zv hck hNr hJ Xc HW HN2 hlm;have hfn:=HR.out.name;have hft:=HR.out.text;have hjn:=HCM.out;simp only at hfn hft;generalize gG rb rc=tt at *;generalize bg (ps.map ZF.text)=jt at *
    have hq1:¬ 9223372036854775807<rn.length+1:=by omega
    have hq2:¬ 9223372036854775807<rn.length+1+jt.length:=by omega
    have hq3:¬ 9223372036854775807<rn.length+1+jt.length+3:=by omega
    have hq4:¬ 9223372036854775807<rn.length+1+jt.length+3+tt.length:=by omega
    clear hfn hft hjn
    go_upto_region 11 with (go_at_call 49;refine HTY.out.mono ?_;rintro r w6 ⟨rfl,hb6⟩)
    obtain⟨⟨z0,z1,z2,z3⟩,-⟩:=fA ((hb6.block _ hlr).trans HNR.out);have HJ6:=ah (HJ.out w6.drew hb6.drew);clear y0 y1 y2 y3 HTY HJ HNR;have hz6:=hb6.size
    have afE:w.heap.size<w6.heap.size:=by omega
    have p3:w6.drew.cell? ⟨w.heap.size,0,none⟩=some (.string ⟨rn.toArray⟩):=z0
    go_region_held3 (fun W=>W.cell? ⟨w.heap.size,0,none⟩=some (.string ⟨rn.toArray⟩))
     (first|(with_reducible exact p3)|(go_keep;done))
     (first|(go_at_call 50;refine HJ6.out.mono ?_;rintro e w7 ⟨rfl,pI⟩;have Ow:=(Below.refl w6.heap.size w6).drew.trans pI;have p3:=cell_later Ow z0))
    all_goals
     go_wp2;go_ret2;exact⟨by rw[abx.out];rfl,hbw2.trans ((hb6.trans (Ow.mono hb6.size)).mono hbz)⟩
def Gq (acc:Int):List ZF→Int
 | []=>acc
 | f :: l=>Gq (acc+(1 - (f.clause.length:Int))) l
theorem OB (r:ZF)(ps:List ZF)(P:Nat→Prop)(ap:Option Addr)(cp:Nat)(ac:Option Addr)(cc:Nat)(w:World)(h:RowK Gc P w (.slice ap ps.length cp) ps)(hps:∀ f∈ps,f.clause.length≤1000000)(hp:ps.length≤1000000)(hr:r.clause.length≤1000000) :
  Calls Tryz.prog 14 #[.agg #[.string ⟨r.name.toArray⟩,.slice ap ps.length cp,.int .i64 r.base,.slice ac r.clause.length cc]] w fun e w'=>e=.returned (.int .i64 (Gq (1 - (r.clause.length:Int)) ps))∧Below w.heap.size w w':=by
 have hal:=aj w (.cells #[.string ⟨r.name.toArray⟩,.slice ap ps.length cp,.int .i64 r.base,.slice ac r.clause.length cc] 31);have hN:=heap_alloc_new w (.cells #[.string ⟨r.name.toArray⟩,.slice ap ps.length cp,.int .i64 r.base,.slice ac r.clause.length cc] 31);obtain⟨ap',cp',hv,_,hform⟩:=h.form;simp only[Value.slice.injEq] at hv;obtain⟨rfl,-,rfl⟩:=hv;have HF:=ah hform;have HPS:=ah hps;clear h hform hps
 obtain⟨R,hR⟩:∃ R,R=Gq (1 - (r.clause.length:Int)) ps:=⟨_,rfl⟩
 rw[← hR];have HR:=ah hR;clear hR;obtain⟨rn,rb,rc,ra,rbr⟩:=r;simp only at *;go_enter Tryz.func14,Tryz.ntmps14
 go_upto_region 1 with fail
 change Code.wp _ _ _ _ (w.alloc (.cells #[.string ⟨rn.toArray⟩,.slice ap ps.length cp,.int .i64 rb,.slice ac rc.length cc] 31));generalize w.alloc (.cells #[.string ⟨rn.toArray⟩,.slice ap ps.length cp,.int .i64 rb,.slice ac rc.length cc] 31)=w1 at hal hN ⊢;have hl1:=(bG hN).1;have hz1:=hal.size;obtain⟨⟨y0,y1,y2,y3⟩,-⟩:=fA hN;generalize hrl:rc.length=rl at *;have HRL:=ah hrl;clear hN hrl;go_wp2;clear y0 y1 y2 y3
 go_loopw [3,5,13] (fun nv _ q wr=>∃ (k:Nat) (acc:Int),k≤ps.length∧q=.int .i64 k∧nv=.int .i64 acc∧R=Gq acc (ps.drop k)∧-1000000 - 1000000 * (k:Int)≤acc∧acc≤k+1∧Below w.heap.size w wr) (fun _ _ q _=>ps.length - (intOf q).toNat)
 case atStart=>exact⟨0,1 - (rl:Int),Nat.zero_le _,rfl,rfl,by rw[HR.out];rfl,by omega,by omega,hal⟩
 case round =>
  obtain⟨k,acc,hk,rfl,rfl,hres,hlo,hhi,hbl⟩:=hrel;have uU:=hbl.size;have rW:=ah hres;clear hres
  by_cases hlt:k<ps.length
  ·obtain⟨b,off,rfl,_,hbw,hcell⟩:=HF.out (by omega)
   obtain⟨cv,hcv,hc⟩:=hcell k hlt;obtain⟨a2,c2,rfl⟩:=RowK.slice hcv;have x0:=(hbl.cell (p:=⟨b,off+k * 3+0,none⟩) hbw).trans (hc 0 _ rfl);have x1:=(hbl.cell (p:=⟨b,off+k * 3+1,none⟩) hbw).trans (hc 1 _ rfl);have x2:=(hbl.cell (p:=⟨b,off+k * 3+2,none⟩) hbw).trans (hc 2 _ rfl);rw[Nat.add_zero] at x0;have hdr:ps.drop k=ps[k] :: ps.drop (k+1):=List.drop_eq_getElem_cons hlt;have hkn:=HPS.out _ (List.getElem_mem hlt)
   have nJ:(k:Int)<(ps.length:Int):=by omega
   have HE:Hid (R=Gq (acc+(1 - (ps[k].clause.length:Int))) (ps.drop (k+1))):=ah (by rw[rW.out,hdr];rfl);clear hc hcell hdr hcv rW;generalize ps[k]=f at *;obtain⟨pU,fb,fc,fa,fbr⟩:=f;simp only[bY] at x0 x1 x2 hkn HE;generalize hcl:fc.length=cl at *;clear hcl;have bq:=aj wr (.cells #[.string ⟨pU.toArray⟩,.int .i64 fb,.slice a2 cl c2] 96);have hN:=heap_alloc_new wr (.cells #[.string ⟨pU.toArray⟩,.int .i64 fb,.slice a2 cl c2] 96)
   go_upto_region 5 with fail
   change Code.wp _ _ _ _ (wr.alloc (.cells #[.string ⟨pU.toArray⟩,.int .i64 fb,.slice a2 cl c2] 96));clear x0 x1 x2;generalize wr.alloc (.cells #[.string ⟨pU.toArray⟩,.int .i64 fb,.slice a2 cl c2] 96)=w5 at *;obtain⟨y0,y1,y2⟩:=jK hN
   have hs1:-1000001≤1 - (cl:Int):=by omega
   have hs2:-2000000000000≤acc+(1 - (cl:Int)):=by omega
   have hs3:acc+(1 - (cl:Int))≤2000000000000:=by omega
   go_wp2
   go_roundw
   case rel=>exact⟨k+1,acc+(1 - (cl:Int)),by omega,by go_num,rfl,HE.out,by omega,by omega,hbl.trans (bq.mono uU)⟩
   case measure=>simp[intOf];omega
  ·obtain rfl:k=ps.length:=by omega
   have nJ:decide ((ps.length:Int)<(ps.length:Int))=false:=decide_eq_false (by omega);have HE:Hid (R=acc):=ah (by rw[rW.out,List.drop_length];rfl);go_wp2;go_ret;exact⟨by rw[HE.out];rfl,hbl⟩
end Go.Proofs.YtknicmmigbhpcaaGreatDoor

namespace Go.Proofs.YtknicmmigbhpcaaGreatDoor
open Go.RowKit Go
theorem yw (l:List ZD)(d:ZD)(nm:List UInt8):nE (l++[d]) nm=(nE l nm).or (if d.res.name=nm then some d.params.length else none):=by
 unfold nE;rw[List.find?_append]
 cases l.find? fun d=>decide (d.res.name=nm) with
 | some x=>rfl
 | none =>
  rw[Option.none_or,List.find?_cons,List.find?_nil]
  by_cases h:d.res.name=nm
  ·rw[decide_eq_true h,if_pos h];rfl
  ·rw[decide_eq_false h,if_neg h];rfl
theorem IQ {l:List ZD}{nm:List UInt8}(h:nm ∉ l.map (fun d=>d.res.name)):nE l nm=none:=by
 unfold nE;rw[List.find?_eq_none.2 fun d hd=>by simpa using fun q=>h (by rw[← q];exact List.mem_map_of_mem hd)]
 rfl
theorem IU {l:List ZD}{nm:List UInt8}(h:nm∈l.map (fun d=>d.res.name)):(nE l nm).isSome=true:=by
 obtain⟨d,hd,rfl⟩:=List.mem_map.1 h;unfold nE;rw[Option.isSome_map,List.find?_isSome];exact⟨d,hd,by simp⟩
structure uh (ml:ML) (l:List ZD):Prop where
 ar:∀ nm,abl (rV ml nm) (nE l nm)
 has:∀ nm,rA ml nm=decide (nm∈l.map fun d=>d.res.name)
theorem uh.nil:uh [] []:=⟨fun _=>trivial,fun _=>rfl⟩
theorem uh.same {ml:ML}{l:List ZD}{d:ZD}(h:uh ml l)(hd:rA ml d.res.name=true):uh ml (l++[d]):=by
 have hm:d.res.name∈l.map fun d=>d.res.name:=by
  have:=h.has d.res.name;rw[hd] at this;exact of_decide_eq_true this.symm
 refine⟨fun nm=>?_,fun nm=>?_⟩
 ·rw[yw]
  by_cases q:d.res.name=nm
  ·have:=IU hm
   rw[← q];obtain⟨n,hn⟩:=Option.isSome_iff_exists.1 this;rw[hn,Option.some_or,← hn];exact h.ar _
  ·rw[if_neg q,Option.or_none]
   exact h.ar nm
 ·rw[h.has,List.map_append]
  apply decide_eq_decide.2
  rw[List.mem_append]
  constructor
  ·exact .inl
  ·rintro(q|q)
   ·exact q
   ·obtain rfl:nm=d.res.name:=by simpa using q
    exact hm
theorem uh.ins {ml:ML}{l:List ZD}{d:ZD}(h:uh ml l)(hd:rA ml d.res.name=false)(s b u:Value)(a:Option Addr)(c:Nat):uh (EB ml d.res.name [s,.slice a d.params.length c,b,u]) (l++[d]):=by
 have hm:d.res.name ∉ l.map fun d=>d.res.name:=by
  have:=h.has d.res.name;rw[hd] at this;exact of_decide_eq_false this.symm
 have hg:∀ nm,rV (EB ml d.res.name [s,.slice a d.params.length c,b,u]) nm=if nm=d.res.name then some [s,.slice a d.params.length c,b,u] else rV ml nm:=Wv _ hd
 refine⟨fun nm=>?_,fun nm=>?_⟩
 ·rw[hg,yw]
  by_cases q:nm=d.res.name
  ·subst q
   rw[if_pos rfl,if_pos rfl,IQ hm,Option.none_or];exact⟨s,a,c,b,u,rfl⟩
  ·rw[if_neg q,if_neg (fun e=>q e.symm),Option.or_none]
   exact h.ar nm
 ·rw[← Dy,hg,List.map_append]
  by_cases q:nm=d.res.name
  ·subst q
   rw[if_pos rfl];exact(decide_eq_true (List.mem_append_right _ (by simp))).symm
  ·rw[if_neg q,Dy,h.has]
   apply decide_eq_decide.2
   rw[List.mem_append]
   constructor
   ·exact .inl
   ·rintro(e|e)
    ·exact e
    ·exact absurd (by simpa using e) q
structure ZP.uV (p:ZP):Prop where
 fit:p.fit
 text:p.text.length≤1099511627776
 few:p.defs.length≤1000
 defs:∀ d∈p.defs,d.uV
end Go.Proofs.YtknicmmigbhpcaaGreatDoor

namespace Go.Proofs.YtknicmmigbhpcaaGreatDoor
theorem Ea {α β:Type}(f:α→List β)(K:Nat):∀ l:List α,(∀ x∈l,(f x).length≤K)→(l.flatMap f).length≤l.length * K
 | [],_=>by simp
 | x :: l,h=>by
  rw[List.flatMap_cons,bP,dX,Nat.succ_mul];have h1:=h x List.mem_cons_self
  have h2:=Ea f K l fun y hy=>h y (List.mem_cons_of_mem _ hy)
  omega
theorem wB (K:Nat):∀ l:List (List UInt8),(∀ x∈l,x.length≤K)→(bg l).length≤l.length * (K+2)
 | [],_=>by simp[bg]
 | [x],h=>by
  have:=h x List.mem_cons_self;simp only[bg,dX,List.length_nil];omega
 | x :: y :: l,h=>by
  have h1:=h x List.mem_cons_self
  have h2:=wB K (y :: l) fun z hz=>h z (List.mem_cons_of_mem _ hz)
  rw[bg,bP,bP,dX (a:=x),Nat.succ_mul];simp only[dX,List.length_nil] at h2 ⊢;omega
theorem SL (b:Int):(qE b).length≤4:=by unfold qE;split<;>simp
theorem Ag (K:Nat):∀ l:List PZ,(∀ e∈l,e.text.length≤K)→(fC l).length≤l.length * (K+3)
 | [],_=>by simp[fC]
 | e :: l,h=>by
  have h1:=h e List.mem_cons_self
  have h2:=Ag K l fun z hz=>h z (List.mem_cons_of_mem _ hz)
  rw[fC,dX,Nat.succ_mul];simp only[bP,dX,List.length_nil];omega
theorem wC (b:Int)(l:List PZ)(hl:l.length≤1)(h:∀ e∈l,e.text.length≤750000000):(gG b l).length≤750000007:=by
 have h1:=SL b;have h2:=Ag _ l h;have h3:l.length * (750000000+3)≤1 * (750000000+3):=Nat.mul_le_mul_right _ hl;rw[gG,bP];omega
def Lr (e:PZ):Prop:=e.fit∧e.size≤2500
theorem Lr.text {e:PZ}(h:Lr e):e.text.length≤750000000:=by
 have h1:=PZ.CY e h.1;have h2:=h.2;omega
structure ZF.mid (f:ZF):Prop where
 name:f.name.length≤65536
 few:f.clause.length≤1
 all:∀ e∈f.clause,Lr e
structure ZD.mid (d:ZD):Prop where
 jS:∀ f∈d.params,f.mid
 few:d.params.length≤8
 res:d.res.mid
 body:Lr d.body
structure ZP.mid (p:ZP):Prop where
 imps:∀ m∈p.imports,m.1.length≤65536
 Q9:p.imports.length≤16
 defs:∀ d∈p.defs,d.mid
 Nb:p.defs.length≤64
theorem ZF.mid.text {f:ZF}(h:f.mid):f.text.length≤750065545:=by
 have h1:=wC f.base f.clause h.few fun e he=>(h.all e he).text
 have h2:=h.name;rw[ZF.text];simp only[bP,dX,List.length_nil];omega
theorem ZD.mid.text {d:ZD}(h:d.mid):d.text.length≤7700000000:=by
 have h1:=wC d.res.base d.res.clause h.res.few fun e he=>(h.res.all e he).text
 have h2:=h.res.name;have h3:=h.body.text
 have h4:=wB 750065545 (d.params.map ZF.text) fun x hx=>by
  obtain⟨f,hf,rfl⟩:=List.mem_map.1 hx;exact(h.jS f hf).text
 have h5:(d.params.map ZF.text).length * (750065545+2)≤8 * (750065545+2):=Nat.mul_le_mul_right _ (by rw[List.length_map];exact h.few)
 have h6:(if d.pub=true then [112,117,98,32] else []:List UInt8).length≤4:=by split<;>simp
 rw[ZD.text];simp only[bP,dX,List.length_nil];omega
theorem ZP.mid.text {p:ZP}(h:p.mid):p.text.length≤1099511627776:=by
 have h1:=Ea YR 65545 p.imports fun m hm=>by
  have:=h.imps m hm;rw[YR];simp only[bP,dX,List.length_nil];omega
 have h2:=Ea ZD.text 7700000000 p.defs fun d hd=>(h.defs d hd).text
 have h3:p.imports.length * 65545≤16 * 65545:=Nat.mul_le_mul_right _ h.Q9;have h4:p.defs.length * 7700000000≤64 * 7700000000:=Nat.mul_le_mul_right _ h.Nb;rw[ZP.text,bP];omega
theorem ZF.mid.fit {f:ZF}(h:f.mid):f.fit:=⟨h.name,by have:=h.few;omega,fun e he=>(h.all e he).1⟩
theorem ZD.mid.fit {d:ZD}(h:d.mid):d.fit:=⟨by have:=h.few;omega,fun f hf=>(h.jS f hf).fit,h.res.fit,h.body.1⟩
theorem ZD.mid.uV {d:ZD}(h:d.mid):d.uV :=
 ⟨by have:=h.few;omega,fun f hf=>⟨by have:=(h.jS f hf).few;omega,fun e he=>by have:=((h.jS f hf).all e he).2;omega⟩,⟨by have:=h.res.few;omega,fun e he=>by have:=(h.res.all e he).2;omega⟩,by have:=h.body.2;omega⟩
theorem ZP.mid.uV {p:ZP}(h:p.mid):p.uV :=
 ⟨⟨by have:=h.Q9;omega,h.imps,by have:=h.Nb;omega,fun d hd=>(h.defs d hd).fit⟩,h.text,by have:=h.Nb;omega,fun d hd=>(h.defs d hd).uV⟩
theorem FF.small.mid {M:Nat}{f:FF}(h:f.small M)(hM:M≤65536)(ha:f.all fun e=>Lr e.z):f.z.mid :=
 ⟨Nat.le_trans h.name hM,by show (f.clause.map PE.z).length≤1;rw[List.length_map];exact h.clause,fun e he=>by obtain⟨x,hx,rfl⟩:=List.mem_map.1 he;exact ha x hx⟩
theorem PP.small.mid {M:Nat}{p:PP}(h:p.small M)(hM:M≤65536)(ha:p.all fun e=>Lr e.z):p.z.mid:=by
 refine⟨fun m hm=>?_,by show (p.imports.map _).length≤16;rw[List.length_map];exact h.Q9,fun d hd=>?_,by show (p.defs.map _).length≤64;rw[List.length_map];exact h.Nb⟩
 ·obtain⟨x,hx,rfl⟩:=List.mem_map.1 hm
  exact Nat.le_trans (h.imports x hx) hM
 ·obtain⟨x,hx,rfl⟩:=List.mem_map.1 hd
  have h1:=h.defs x hx;have h2:=ha x hx;refine⟨fun f hf=>?_,by show (x.params.map _).length≤8;rw[List.length_map];exact h1.few,h1.res.mid hM h2.2.1,h2.2.2⟩;obtain⟨y,hy,rfl⟩:=List.mem_map.1 hf;exact(h1.params y hy).mid hM (h2.1 y hy)
theorem oD.mid {S:List UInt8}{toks:List Tok}{nodes:List Nd}{p:kG}(F:oD S toks nodes p)(hs:S.length≤1200):(p.pp toks).z.mid :=
 F.N7.mid (by omega) (PP.Io F.fits F.few F.few fun e h1 h2 _=>by
  have h3:=F.nd;have h4:=F.count
  exact⟨PE.Wu (by omega) e h1 (by omega),by rw[PE.Oc];omega⟩)
end Go.Proofs.YtknicmmigbhpcaaGreatDoor

namespace Go.Proofs.YtknicmmigbhpcaaGreatDoor
open Go.RowKit Go
def Ki (w w':World):Prop:=∀ (k:Nat) (cs:Array Value) (fr:Nat × Nat),w.heap[k]?=some (.cells cs 3 fr)→w'.heap[k]?=some (.cells cs 3 fr)
theorem Ki.trans {a b c:World}(h:Ki a b)(k:Ki b c):Ki a c:=fun n cs fr q=>k n cs fr (h n cs fr q)
theorem Ki.below {w w':World}(h:Below w.heap.size w w'):Ki w w':=fun k _cs _fr q=>(h.block k (bG q).1).trans q
theorem Ki.set {w:World}{b:Nat}{cs:Array Value}{T:TypeId}{fr:Nat × Nat}(hb:w.heap[b]?=some (.cells cs T fr))(hT:T≠3)(j:Nat)(u:Value):Ki w (w.setCell ⟨b,j,none⟩ u):=fun k ds fr' q=>by
 rw[heap_setCell_other _ _ _ _ (by
  show k≠b;rintro rfl;rw[hb] at q;simp only[Option.some.injEq,Obj.cells.injEq] at q
  exact hT q.2.1)]
 exact q
theorem dH.ki {w w':World}{v:Value}{ks:List Int}(h:dH w v ks)(hk:Ki w w'):dH w' v ks:=by
 obtain⟨ao,cap,hv,hc,hf⟩:=h;refine⟨ao,cap,hv,hc,fun h0=>?_⟩;obtain⟨b,off,cs,fr,ha,hb,hj⟩:=hf h0;exact⟨b,off,cs,fr,ha,hk b cs fr hb,hj⟩
theorem Xd {w w':World}{B e sz n:Nat}{v:Value}{xs:List Value}(h:w.ownsRow B e sz v n xs)(hs:∀ q,v.ownBlock=some q→w'.heap[q]?=w.heap[q]?):w'.ownsRow B e sz v n xs:=by
 refine⟨h.1,?_⟩
 rcases h.2 with hn|⟨g,cap,cur,hv,hg,hh,hr⟩
 ·exact .inl hn
 ·exact .inr ⟨g,cap,cur,hv,hg,(hs g (by rw[hv];rfl)).trans hh,hr⟩
def pO (w:World)(v:Value)(toks:List Tok)(nodes:List Nd):Prop :=
 ∃ (tv nv:Value) (l:List (Nd × Value)) (C D:Nat),v=.agg #[tv,nv]∧w.ownsRow C 136 4 tv toks.length (toks.flatMap bV)∧l.map Prod.fst=nodes∧w.ownsRow D 134 3 nv nodes.length (l.flatMap uq)∧∀ p∈l,dH w p.2 p.1.kids
theorem pO.set {w:World}{v:Value}{toks:List Tok}{nodes:List Nd}(h:pO w v toks nodes){b:Nat}{cs:Array Value}{T:TypeId}{fr:Nat × Nat}(hb:w.heap[b]?=some (.cells cs T fr))(h1:T≠136)(h2:T≠134)(h3:T≠3)(j:Nat)(u:Value):pO (w.setCell ⟨b,j,none⟩ u) v toks nodes:=by
 obtain⟨tv,nv,l,C,D,e,p1,p2,p3,p4⟩:=h;exact⟨tv,nv,l,C,D,e,iD (a:=⟨b,j,none⟩) p1 (own_ne p1 hb h1) u,p2,iD (a:=⟨b,j,none⟩) p3 (own_ne p3 hb h2) u,fun p hp=>(p4 p hp).ki (Ki.set hb h3 j u)⟩
theorem pO.later {w w':World}{v:Value}{toks:List Tok}{nodes:List Nd}(h:pO w v toks nodes)(hb:Below w.heap.size w w'):pO w' v toks nodes:=by
 obtain⟨tv,nv,l,C,D,e,p1,p2,p3,p4⟩:=h;exact⟨tv,nv,l,C,D,e,own_below p1 hb,p2,own_below p3 hb,fun p hp=>(p4 p hp).ki (Ki.below hb)⟩
theorem pO.at {w:World}{v:Value}{toks:List Tok}{nodes:List Nd}(h:pO w v toks nodes):aP w.heap.size w v toks nodes:=by
 obtain⟨tv,nv,l,C,D,e,p1,p2,p3,p4⟩:=h
 have hll:l.length=nodes.length:=by rw[← p2,List.length_map]
 refine⟨tv,nv,l,e,Sl.fF p1,p2,?_,fun p hp=>?_⟩
 ·rw[Rec,hll]
  exact Sl.fF p3
 ·obtain⟨ai,ci,hvi,hci,hfi⟩:=p4 p hp
  refine⟨ai,ci,hvi,hci,by simp,fun hp0=>?_⟩;obtain⟨bi,oi,cs,fr,e1,e2,e3⟩:=hfi hp0;refine⟨bi,oi,e1,(bG e2).1,fun jj hjj=>?_⟩;rw[Lib.cell_of_heap e2,e3 jj (by simpa using hjj)]
  simp
def Xe (toks:List Tok)(nodes:List Nd)(w:World)(e:Ending)(w':World):Prop :=
 ∃ v,e=.returned v∧pO w' v toks nodes∧Below w.heap.size w w'
def ac9 (C:Nat)(w:World)(nv:Value)(nodes:List Nd):Prop :=
 ∃ l:List (Nd × Value),l.map Prod.fst=nodes∧w.ownsRow C 134 3 nv nodes.length (l.flatMap uq)∧∀ p∈l,dH w p.2 p.1.kids
theorem Xf (R:List Nat)(B bb:Nat)(tv:Value)(toks:List Tok)(nodes:List Nd)(used:Nat)(w:World)(hb:BW R B bb tv used nodes w)(ht:Rec B w tv 4 bV toks)(h0:0<toks.length)(hn:toks.length≤1000000)(hm:nodes.length≤1000000)(hkl:∀ n∈nodes,n.kids.length≤1000000) :
  Calls Tryz.prog 102 #[.pointer (some ⟨bb,0,none⟩)] w (Xe toks nodes w):=by
 have HC:=ah (fun W (h:Rec B W tv 4 bV toks)=>BO B tv toks W h h0 (by omega));obtain⟨h1,nv,l,h2,h3,h4,h5⟩:=hb;have hlt:=(bG h2).1
 obtain⟨ao,cap,rfl,_⟩:∃ ao cap,nv=.slice ao nodes.length cap∧True:=by
  rcases h4.2 with ⟨hv,hn0⟩|⟨g,cap,cur,hv,_⟩
  ·exact⟨none,0,by rw[hv,hn0],trivial⟩
  ·exact⟨_,cap,hv,trivial⟩
 have HT:=ah ht;obtain⟨at_,ct,rfl,_,_⟩:=ht.form (fun _=>rfl)
 have c0:w.cell? ⟨bb,0,none⟩=some (.slice at_ toks.length ct):=by rw[Lib.cell_of_heap h2];rfl
 have hal:=aj w (.cells #[.slice none 0 0,.slice none 0 0] 89);have d0:=cell_later hal c0
 have hBw:B≤w.heap.size:=by omega
 have H4:=ah h4;have H5:=ah h5;clear h4 h5 ht c0;go_enter Tryz.func102,Tryz.ntmps102;go_wp2_with (go_at_call 163;refine(HC.out _ ?c1).mono ?_)
 case c1=>exact HT.out.below (hal.mono hBw)
 rintro e w1 ⟨v',rfl,hown,hb1⟩;obtain⟨g,c5,rfl,hg1,hg2⟩:=hown.form h0;have G0:=(hb1.block w.heap.size (by simp)).trans (heap_alloc_new w (.cells #[.slice none 0 0,.slice none 0 0] 89));have Gb:=(hb1.block bb (by simp;omega)).trans ((Lib.alloc_old w _ bb hlt).trans h2)
 go_upto_region 2 with (fail)
 have hz1:=hb1.size;rw[World.size_alloc] at hz1;have yP:Below w.heap.size w w1:=hal.trans (hb1.mono (by simp));have T1:=heap_alloc_new w1 (.cells #[.slice (some ⟨g,0,none⟩) toks.length c5,.slice none 0 0] 89);have hb2:=aj w1 (.cells #[.slice (some ⟨g,0,none⟩) toks.length c5,.slice none 0 0] 89);have Gb2:=(Lib.alloc_old w1 (.cells #[.slice (some ⟨g,0,none⟩) toks.length c5,.slice none 0 0] 89) bb (bG Gb).1).trans Gb;generalize w1.alloc _=w2 at T1 hb2 Gb2 ⊢
 have b1:w2.cell? ⟨bb,1,none⟩=some (.slice ao nodes.length cap):=by rw[Lib.cell_of_heap Gb2];rfl
 obtain⟨j0,hj,hy0,hy1,hy2⟩:=info_parts Tryz.Jt
 have hll:l.length=nodes.length:=by rw[← h3,List.length_map]
 have hrec:Rec w.heap.size w (.slice ao nodes.length cap) 3 uq l:=by
  have:=Sl.fF H4.out;rw[Rec,hll];exact this
 obtain⟨Tf,cap',hv,_,hnf⟩:=hrec.abQ (fun p=>Ju p) hll;simp only[Value.slice.injEq] at hv;obtain⟨rfl,-,rfl⟩:=hv;have HNF:=ah hnf;have HLL:=ah hll;have H3:=ah h3;clear hnf hrec hll h3;go_wp2;clear b1 d0
 go_loopw [19] (fun q wr=>∃ (j:Nat) (nv2:Value),j≤nodes.length∧q=.int .i64 j∧aQ (fun b=>b<w1.heap.size) w2 wr∧wr.heap[w1.heap.size]?=some (.cells #[.slice (some ⟨g,0,none⟩) toks.length c5,nv2] 89 (0,0))∧ac9 (w1.heap.size+1) wr nv2 (nodes.take j)∧Ki w2 wr∧Below w.heap.size w wr) (fun q _=>nodes.length - (intOf q).toNat)
 case atStart=>exact⟨0,.slice none 0 0,Nat.zero_le _,rfl,aQ.refl _ _,T1,⟨[],rfl,World.ownsRow_nil _ _ _ _,fun p hp=>by cases hp⟩,fun _ _ _ q=>q,yP.trans (hb2.mono yP.size)⟩
 case round =>
  obtain⟨j,nv2,hjn,rfl,dW,hT,hrow,hki,hbl⟩:=hrel;have uU:=dW.1;have hz2:=hb2.size
  by_cases hlt:j<nodes.length
  ·have hjl:j<l.length:=by have:=HLL.out;omega
   obtain⟨b,off,rfl,ZY,hcell⟩:=HNF.out (by omega);have hW2:Below w.heap.size w w2:=yP.trans (hb2.mono yP.size)
   have hcl:=fun (jj:Nat) (u:Value) (hu:(uq l[j])[jj]?=some u)=>(World.cell?_of_block (a:=⟨b,off+j * 3+jj,none⟩) ((dW.2 b (by have:=yP.size;show b<w1.heap.size;omega) (by have:=yP.size;omega)).trans (hW2.block b ZY))).trans (hcell j jj u hjl hu)
   have hx0:=hcl 0 _ rfl;have hx1:=hcl 1 _ rfl;have hx2:=hcl 2 _ rfl;have hiw:dH wr l[j].2 l[j].1.kids:=((H5.out l[j] (List.getElem_mem hjl)).1.ki (Ki.below hW2)).ki hki
   have SN:nodes[j]=l[j].1:=by have:=H3.out;subst this;simp
   have hkj:=hkl nodes[j] (List.getElem_mem hlt)
   have hsn:nodes.take (j+1)=nodes.take j++[l[j].1]:=by rw[List.take_succ_eq_append_getElem hlt,SN]
   rw[SN] at hkj;generalize l[j]=pr at hx0 hx1 hx2 hiw hkj hsn;obtain⟨⟨kind,tok,ks⟩,kv⟩:=pr;simp only[Nat.add_zero] at hx0 hx1 hx2 hiw hkj hsn;have HS:=ah hsn;have HIW:=ah hiw;obtain⟨ak,ck,rfl⟩:=hiw.slice
   have JC:(j:Int)<(nodes.length:Int):=by omega
   clear hcell hcl SN hsn hiw;go_wp2_with (go_at_call 164;refine(Bu _ ks _ (HIW.out.ki (Ki.below (aj wr _))) (by omega)).mono ?_);rintro e w4 ⟨v5,rfl,hkR,hb4⟩;have hk5:=(hkR [] (fun r hr=>by cases hr)).1;obtain⟨a5,c6,rfl⟩:=hk5.slice;have N4:=(hb4.block wr.heap.size (by simp)).trans (heap_alloc_new wr (.cells #[.int .i64 kind,.int .i64 tok,.slice ak ks.length ck] 134))
   have n2:w4.cell? ⟨wr.heap.size,2,none⟩=some (.slice ak ks.length ck):=by rw[Lib.cell_of_heap N4];rfl
   have nz:∀ jj,w4.frozen? ⟨wr.heap.size,jj,none⟩=false:=by intro jj;simp[World.frozen?,N4]
   clear hkR hx0 hx1 hx2
   go_upto_region 6 with (fail)
   obtain⟨l2,hl2,hown2,hk2⟩:=hrow
   have hlj:(nodes.take j).length=j:=by rw[List.length_take];omega
   rw[hlj] at hown2
   obtain⟨a2,c2,rfl,_⟩:∃ a2 c2,nv2=.slice a2 j c2∧True:=by
    rcases hown2.2 with ⟨hv,hn0⟩|⟨g,cap,cur,hv,_⟩
    ·exact⟨none,0,by rw[hv,hn0],trivial⟩
    ·exact⟨_,cap,hv,trivial⟩
   have hne2:some wr.heap.size≠(Value.slice a2 j c2).ownBlock:=fun q=>by have:=(hown2.lt _ q.symm).2;omega
   have hlt1:w1.heap.size<wr.heap.size:=(bG hT).1;have zC:Below wr.heap.size wr w4:=(aj wr _).trans (hb4.mono (by simp));have N5:=heap_setCell_same w4 wr.heap.size 2 _ _ (.slice a5 ks.length c6) N4;have T5:(w4.setCell ⟨wr.heap.size,2,none⟩ (.slice a5 ks.length c6)).heap[w1.heap.size]?=_:=(heap_setCell_other _ _ _ _ (by show w1.heap.size≠wr.heap.size;omega)).trans ((zC.block _ hlt1).trans hT);have hown5:=iD (a:=⟨wr.heap.size,2,none⟩) (own_below hown2 zC) hne2 (.slice a5 ks.length c6);have hks:=Ki.set N4 (by decide) 2 (.slice a5 ks.length c6);have ada:=(hki.trans (Ki.below zC)).trans hks;have QI:=(Ki.below zC).trans hks;have adb:=hk5.ki hks;have aao:aQ (fun b=>b<w1.heap.size) w2 (w4.setCell ⟨wr.heap.size,2,none⟩ (.slice a5 ks.length c6)):=(dW.trans (aQ.of zC)).trans (aQ.set _ fun b hb=>by show b≠wr.heap.size;omega);have hb5:=(hbl.trans (zC.mono hbl.size)).setCell (p:=⟨wr.heap.size,2,none⟩) hbl.size (.slice a5 ks.length c6)
   have hs5:w4.heap.size≤(w4.setCell ⟨wr.heap.size,2,none⟩ (.slice a5 ks.length c6)).heap.size:=by simp
   have hs4:=zC.size;clear hown2 hne2 N4 n2 nz hb4 zC hk5 hks;generalize w4.setCell _ _=w5 at N5 T5 hown5 ada QI adb aao hs5 hb5 ⊢
   have t1:w5.cell? ⟨w1.heap.size,1,none⟩=some (.slice a2 j c2):=by rw[Lib.cell_of_heap T5];rfl
   have m0:w5.cell? ⟨wr.heap.size,0,none⟩=some (.int .i64 kind):=by rw[Lib.cell_of_heap N5];rfl
   have m1:w5.cell? ⟨wr.heap.size,1,none⟩=some (.int .i64 tok):=by rw[Lib.cell_of_heap N5];rfl
   have m2:w5.cell? ⟨wr.heap.size,2,none⟩=some (.slice a5 ks.length c6):=by rw[Lib.cell_of_heap N5];rfl
   go_wp2_with (at_builtin;refine wpList_append_own _ rfl _ _ 87 rfl (w1.heap.size+1) 134 j0 (.agg #[.int .i64 0,.int .i64 0,.slice none 0 0]) 3 40 Tryz.underlying87 hj hy0 hy1 hy2 rfl (by decide) _ _ _ rfl (hown5.alloc _) ⟨w5.heap.size,0,none⟩ 1 1 [.int .i64 kind,.int .i64 tok,.slice a5 ks.length c6] rfl rfl ?e1 ?e2 ?e3 ?e4 ?e5 ?_)
   case e1 =>
    intro j' u hj';exact World.news_of_block (cs:=#[.int .i64 kind,.int .i64 tok,.slice a5 ks.length c6]) (t:=134) (fr:=(0,0)) (heap_alloc_new w5 _) j' u (by simpa using hj')
   case e2=>simp[Value.oneCell']
   case e3=>unfold maxLen;omega
   case e4=>omega
   case e5=>simp;omega
   intro v' w6 hown6 kR _;obtain⟨gv,cv,rfl,_,_⟩:=hown6.form (by omega);have Qv:=(bG T5).1;have T6:=fU (hown5.alloc _) kR ((Lib.alloc_old w5 (.cells #[.int .i64 kind,.int .i64 tok,.slice a5 ks.length c6] 134) w1.heap.size Qv).trans T5) (by decide)
   have k6:Ki w5 w6:=fun k cs fr q=>fU (hown5.alloc _) kR ((Lib.alloc_old w5 (.cells #[.int .i64 kind,.int .i64 tok,.slice a5 ks.length c6] 134) k (bG q).1).trans q) (by decide)
   have a6:aQ (fun b=>b<w1.heap.size) w2 w6:=(aao.trans (aQ.of (aj w5 _))).trans (aQ.grown kR fun b hb q=>by have:=(hown5.lt b q.symm).1;omega)
   have s1:w6.cell? ⟨w1.heap.size,1,none⟩=some (.slice a2 j c2):=by rw[Lib.cell_of_heap T6];rfl
   have sz:∀ jj,w6.frozen? ⟨w1.heap.size,jj,none⟩=false:=by intro jj;simp[World.frozen?,T6]
   have hs7:Ki w6 (w6.setCell ⟨w1.heap.size,1,none⟩ (.slice (some ⟨gv,0,none⟩) (j+1) cv)):=Ki.set T6 (by decide) 1 _;have T7:=heap_setCell_same w6 w1.heap.size 1 _ _ (.slice (some ⟨gv,0,none⟩) (j+1) cv) T6;have a7:=a6.trans (aQ.set (a:=⟨w1.heap.size,1,none⟩) (.slice (some ⟨gv,0,none⟩) (j+1) cv) fun b hb=>by show b≠w1.heap.size;omega);have o7:=iD (a:=⟨w1.heap.size,1,none⟩) hown6 (fun q=>by have:=(hown6.lt _ q.symm).1;simp at this;omega) (.slice (some ⟨gv,0,none⟩) (j+1) cv)
   have aeE:(nodes.take (j+1)).length=j+1:=by rw[List.length_take];omega
   have R7:ac9 (w1.heap.size+1) (w6.setCell ⟨w1.heap.size,1,none⟩ (.slice (some ⟨gv,0,none⟩) (j+1) cv)) (.slice (some ⟨gv,0,none⟩) (j+1) cv) (nodes.take (j+1)):=by
    refine⟨l2++[(⟨kind,tok,ks⟩,.slice a5 ks.length c6)],by rw[List.map_append,hl2,HS.out];rfl,?_,fun p hp=>?_⟩
    ·rw[aeE,List.flatMap_append]
     exact o7
    ·rcases List.mem_append.1 hp with hp|hp
     ·exact(((hk2 p hp).ki QI).ki k6).ki hs7
     ·rw[List.mem_singleton] at hp
      subst hp;exact(adb.ki k6).ki hs7
   have aeF:=((ada.trans k6).trans hs7)
   have aeG:=yP.size;have pI:=((hb5.alloc hb5.size (.cells #[.int .i64 kind,.int .i64 tok,.slice a5 ks.length c6] 134)).grown kR (by have:=hb5.size;simp;omega) (fun q hq=>by have:=(hown5.lt q hq).1;omega)).setCell (p:=⟨w1.heap.size,1,none⟩) aeG (.slice (some ⟨gv,0,none⟩) (j+1) cv);clear kR hown6 hown5 t1 m0 m1 m2 o7 hk2 hl2;go_wp2
   go_roundw
   case rel=>exact⟨j+1,_,by omega,by go_num,a7,T7,R7,aeF,pI⟩
   case measure=>simp[intOf];omega
  ·obtain rfl:j=nodes.length:=by omega
   rw[List.take_length] at hrow;obtain⟨l2,hl2,hown2,hk2⟩:=hrow
   obtain⟨a2,c2,rfl,_⟩:∃ a2 c2,nv2=.slice a2 nodes.length c2∧True:=by
    rcases hown2.2 with ⟨hv,hn0⟩|⟨g,cap,cur,hv,_⟩
    ·exact⟨none,0,by rw[hv,hn0],trivial⟩
    ·exact⟨_,cap,hv,trivial⟩
   have hl1:=(bG G0).1;have Z:=(dW.2 w.heap.size hl1 (by omega)).trans ((hb2.block w.heap.size hl1).trans G0)
   have s0:wr.cell? ⟨w1.heap.size,0,none⟩=some (.slice (some ⟨g,0,none⟩) toks.length c5):=by rw[Lib.cell_of_heap hT];rfl
   have s1:wr.cell? ⟨w1.heap.size,1,none⟩=some (.slice a2 nodes.length c2):=by rw[Lib.cell_of_heap hT];rfl
   have q0:wr.cell? ⟨w.heap.size,0,none⟩=some (.slice none 0 0):=by rw[Lib.cell_of_heap Z];rfl
   have q1:wr.cell? ⟨w.heap.size,1,none⟩=some (.slice none 0 0):=by rw[Lib.cell_of_heap Z];rfl
   have qz:∀ jj,wr.frozen? ⟨w.heap.size,jj,none⟩=false:=by intro jj;simp[World.frozen?,Z]
   have JC:decide ((nodes.length:Int)<(nodes.length:Int))=false:=decide_eq_false (by omega)
   have afF:l2.length=nodes.length:=by rw[← hl2,List.length_map]
   have k1:Ki wr (wr.setCell ⟨w.heap.size,0,none⟩ (.slice (some ⟨g,0,none⟩) toks.length c5)):=Ki.set Z (by decide) 0 _;have Z1:=heap_setCell_same wr w.heap.size 0 _ _ (.slice (some ⟨g,0,none⟩) toks.length c5) Z;have k2:=Ki.set Z1 (by decide) 1 (.slice a2 nodes.length c2);have hgl:=hown.lt g rfl;simp only[World.size_alloc] at hgl
   have hP3:((wr.setCell ⟨w.heap.size,0,none⟩ (.slice (some ⟨g,0,none⟩) toks.length c5)).setCell ⟨w.heap.size,1,none⟩ (.slice a2 nodes.length c2)).ownsRow _ 136 4 (.slice (some ⟨g,0,none⟩) toks.length c5) toks.length (toks.flatMap bV):=Xd hown fun q hq=>by
    obtain rfl:g=q:=by simpa [Value.ownBlock] using hq
    rw[heap_setCell_other _ _ _ _ (by show g≠w.heap.size;omega),heap_setCell_other _ _ _ _ (by show g≠w.heap.size;omega)];exact(dW.2 g hgl.2 (by omega)).trans (hb2.block g hgl.2)
   have hn1:=iD (a:=⟨w.heap.size,0,none⟩) hown2 (fun q=>by have:=(hown2.lt _ q.symm).1;simp at this;omega) (.slice (some ⟨g,0,none⟩) toks.length c5);have KG:=iD (a:=⟨w.heap.size,1,none⟩) hn1 (fun q=>by have:=(hn1.lt _ q.symm).1;simp at this;omega) (.slice a2 nodes.length c2);have Cz:=(hbl.setCell (p:=⟨w.heap.size,0,none⟩) (Nat.le_refl _) (.slice (some ⟨g,0,none⟩) toks.length c5)).setCell (p:=⟨w.heap.size,1,none⟩) (Nat.le_refl _) (.slice a2 nodes.length c2);go_wp2;refine bodyPost_ret (v:=.agg #[.slice (some ⟨g,0,none⟩) toks.length c5,.slice a2 nodes.length c2]) (by simp[results,Tryz.results102,go_sem,q0,q1]) rfl ⟨_,rfl,⟨_,_,l2,_,_,rfl,hP3,hl2,KG,fun p hp=>((hk2 p hp).ki k1).ki k2⟩,Cz⟩
end Go.Proofs.YtknicmmigbhpcaaGreatDoor
