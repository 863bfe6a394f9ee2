/- Walks and plain laws: SigW3, ScopeW8, ScopeW9. -/
import Derived.Test.YtknicmmigbhpcaaGreatDoorB32
import Derived.Lib.Join
import Derived.Deep.RegionHeldLaw
set_option maxHeartbeats 16000000
set_option maxRecDepth 100000
set_option linter.unusedVariables false
set_option linter.unusedSimpArgs false
namespace Go.Proofs.YtknicmmigbhpcaaGreatDoor
open Go.RowKit Go Go.Sort
theorem Xa {base:Int}{cl:List PZ}:∀ {l:List ZF} {nm:List (List UInt8)},X4 base cl nm l=true→(∀ f∈l,gF f.base f.clause=true)∧gF base cl=true
 | [],nm,h=>by
  rw[X4,uY,Bool.and_eq_true] at h;exact⟨fun f hf=>(by cases hf),h.1⟩
 | x :: l,nm,h=>by
  rw[X4,Bool.and_eq_true,Bool.and_eq_true,Bool.and_eq_true,uY,Bool.and_eq_true] at h;obtain⟨h1,h2⟩:=Xa h.2.2.2
  exact⟨fun f hf=>by
   rcases List.mem_cons.1 hf with rfl|hf
   ·exact h.2.2.1.1
   ·exact h1 f hf,h2⟩
theorem wC:∀ l:List (List UInt8),Lib.join l [44,32]=bg l
 | []=>rfl
 | [t]=>by simp[Lib.join,bg,List.intercalate]
 | t :: s :: l=>by
  have h:=wC (s :: l);unfold Lib.join at h ⊢;rw[bg,← h];simp[List.intercalate,List.intersperse]
theorem Xb (P:Nat→Prop)(v:Value)(l:List (List UInt8))(w:World)(h:bJ P w v l)(hl:l.length≤1000000)(hn:(bg l).length≤140737488355328) :
  Calls Tryz.prog 50 #[v,.string ⟨#[44,32]⟩] w fun e w'=>e=.returned (.string ⟨(bg l).toArray⟩)∧Below w.heap.size w w':=by
 obtain⟨ao,cap,rfl,hcap,hc⟩:=h.slice
 rcases Nat.eq_zero_or_pos l.length with h0|h0
 ·obtain rfl:=List.eq_nil_of_length_eq_zero h0
  exact(Tryz.strings_Join_none ao cap ⟨#[44,32]⟩ w).mono fun e w' q=>⟨q.1,by rw[q.2];exact Below.refl _ _⟩
 ·obtain⟨b,off,rfl,_,hbw,hcell⟩:=hc h0
  have hm:(l.map fun t=>ByteArray.mk t.toArray).map (·.data.toList)=l:=by rw[List.map_map];simp[Function.comp_def]
  have:=Tryz.strings_Join b off cap (l.map fun t=>ByteArray.mk t.toArray) ⟨#[44,32]⟩ w (fun j x hj=>by
   rw[List.getElem?_map] at hj;obtain⟨t,ht,rfl⟩:=Option.map_eq_some_iff.1 hj;obtain⟨hjl,he⟩:=mR ht
   rw[hcell j hjl,he]) hbw (by rw[List.length_map];omega) (by rw[List.length_map];exact hcap) (by rw[hm];show (Lib.join l [44,32]).length≤_;rw[wC];exact hn)
  rw[hm,List.length_map] at this;have e:Lib.join l (ByteArray.mk #[44,32]).data.toList=bg l:=wC l;rw[e] at this;exact this
def OJ (r:ZF)(ps:List ZF)(w:World)(e:Ending)(w':World):Prop:=e=.returned (.tuple #[.string ⟨(if gZ r.name ps r.base r.clause=true then mq r.name ps r.base r.clause else []).toArray⟩,.int .i64 (if gZ r.name ps r.base r.clause=true then 0 else 10)])∧Below w.heap.size w w'
theorem OL (r:ZF)(ps:List ZF)(B:Nat)(ap:Option Addr)(cp:Nat)(ac:Option Addr)(cc:Nat)(w:World)(h:zJ (fun b=>b<B) w (.slice ap ps.length cp) (.slice ac r.clause.length cc) ps r.clause)(hB:B≤w.heap.size)(hr:r.known)(hps:∀ f∈ps,f.known)(hn:(bg (ps.map ZF.text)).length≤140737488355328) :
  Calls Tryz.prog 21 #[.agg #[.string ⟨r.name.toArray⟩,.slice ap ps.length cp,.int .i64 r.base,.slice ac r.clause.length cc]] w (OJ r ps w):=by
 obtain⟨i0,hi,hz0,hz1',hz2'⟩:=info_parts Tryz.yj;have hal:=aj w (.cells #[.string ⟨r.name.toArray⟩,.slice ap ps.length cp,.int .i64 r.base,.slice ac r.clause.length cc] 31);have hN:=heap_alloc_new w (.cells #[.string ⟨r.name.toArray⟩,.slice ap ps.length cp,.int .i64 r.base,.slice ac r.clause.length cc] 31);have ZE:=ah (fun W (hW:Below w.heap.size w W)=>Ak r ps B ap cp ac cc W (h.frame (aQ.of hW)) (by have:=hW.size;omega) hr hps);obtain⟨hpr,hcr⟩:=h;obtain⟨ap',cp',hv,_,hform⟩:=hpr.form;simp only[Value.slice.injEq] at hv;obtain⟨rfl,-,rfl⟩:=hv;have HF:=ah hform;have HKR:=ah hcr;have HR:=ah hr;have HPS:=ah hps
 have Tz:Hid (gZ r.name ps r.base r.clause=true→ps.length≤8∧(∀ f∈ps,gF f.base f.clause=true)∧gF r.base r.clause=true):=ah fun q=>by
  rw[gZ,Bool.and_eq_true,Bool.and_eq_true,decide_eq_true_eq] at q;exact⟨q.2.1,Xa q.2.2⟩
 have HCM:=ah hn;unfold OJ;clear hform hr hps hpr hcr hn;generalize gZ r.name ps r.base r.clause=rt at *;obtain⟨rn,rb,rc,ra,rbr⟩:=r;simp only at *
 obtain⟨tx,htx⟩:∃ tx,tx=mq rn ps rb rc:=⟨_,rfl⟩
 rw[← htx];have L8:=ah htx;clear htx;go_enter Tryz.func21,Tryz.ntmps21
 go_upto_region 1 with fail
 change Code.wp _ _ _ _ (w.alloc (.cells #[.string ⟨rn.toArray⟩,.slice ap ps.length cp,.int .i64 rb,.slice ac rc.length cc] 31));generalize w.alloc (.cells #[.string ⟨rn.toArray⟩,.slice ap ps.length cp,.int .i64 rb,.slice ac rc.length cc] 31)=w1 at hal hN ⊢;have hl1:=(bG hN).1;have hz1:=hal.size;obtain⟨⟨y0,y1,y2,y3⟩,-⟩:=iD hN;have HN:=ah hN;have HR1:=ah (ZE.out w1 hal);clear hN ZE
 cases rt with
 | false =>
  go_wp2_with (go_at_call 35;refine HR1.out.mono ?_;rintro r w2 ⟨rfl,hb2⟩);go_ret2;exact⟨rfl,hal.trans (hb2.mono hz1)⟩
 | true =>
  obtain⟨h8,adg,aey⟩:=Tz.out rfl;have aez:=ah adg
  go_upto_region 4 with (go_at_call 35;refine HR1.out.mono ?_;rintro r w2 ⟨rfl,hb2⟩)
  have hz2:=hb2.size;have sj:=hal.trans (hb2.mono hz1);have Md:=(hb2.block _ hl1).trans HN.out;clear y0 y1 y2 y3 HN HR1 Tz adg;obtain⟨⟨y0,y1,y2,y3⟩,-⟩:=iD Md;have HN2:=ah Md;clear Md;go_wp2;clear y0 y1 y2 y3
  go_loopw [4,6,7,8,17] (fun kv _ _ _ q wr=>∃ (k:Nat) (ak:Option Addr) (ck:Nat),k≤ps.length∧q=.int .i64 k∧kv=.slice ak k ck∧qI w2.heap.size wr (.slice ak k ck) ((ps.take k).map ZF.text)∧Below w2.heap.size w2 wr) (fun _ _ _ _ q _=>ps.length - (intOf q).toNat)
  case atStart=>exact⟨0,none,0,Nat.zero_le _,rfl,rfl,World.ownsRow_nil _ _ _ _,Below.refl _ _⟩
  case round =>
   obtain⟨k,ak,ck,hk,rfl,rfl,hown,hbl⟩:=hrel;have uL:=hbl.size;have hbw2:=sj.trans (hbl.mono sj.size);have HW:=ah hown;clear hown
   by_cases hlt:k<ps.length
   ·obtain⟨b,off,rfl,_,hbw,hcell⟩:=HF.out (by omega)
    obtain⟨cv,hcv,hc⟩:=hcell k hlt;have OI:RowK (ZK YA) (fun b=>b<B) w cv ps[k].clause:=hcv;obtain⟨a2,c2,rfl,-⟩:=l6 OI;have x0:=(hbw2.cell (p:=⟨b,off+k * 3+0,none⟩) hbw).trans (hc 0 _ rfl);have x1:=(hbw2.cell (p:=⟨b,off+k * 3+1,none⟩) hbw).trans (hc 1 _ rfl);have x2:=(hbw2.cell (p:=⟨b,off+k * 3+2,none⟩) hbw).trans (hc 2 _ rfl);rw[Nat.add_zero] at x0
    have hsn:(ps.take (k+1)).map ZF.text=(ps.take k).map ZF.text++[ps[k].text]:=by rw[List.take_succ_eq_append_getElem hlt,List.map_append];rfl
    have hlm:((ps.take k).map ZF.text).length=k:=by rw[List.length_map,List.length_take,Nat.min_eq_left hk]
    have PK:=ah (aez.out _ (List.getElem_mem hlt));have wF:=ah (HPS.out _ (List.getElem_mem hlt))
    have oH:(k:Int)<(ps.length:Int):=by omega
    have pK:=ah hsn;have HCV:=ah OI;clear hc hcell hcv OI hsn;generalize hzs:(ps.take k).map ZF.text=zs at *;generalize ps[k]=f at *;clear hzs;obtain⟨pU,fb,fc,fa,fbr⟩:=f;simp only[dh] at x0 x1 x2 wF HCV PK;have bC:=aj wr (.cells #[.string ⟨pU.toArray⟩,.int .i64 fb,.slice a2 fc.length c2] 96);have hN:=heap_alloc_new wr (.cells #[.string ⟨pU.toArray⟩,.int .i64 fb,.slice a2 fc.length c2] 96)
    have Xc:ByteArray.mk pU.toArray++ByteArray.mk #[58,32]++ByteArray.mk (gG fb fc).toArray=ByteArray.mk (ZF.text ⟨pU,fb,fc,fa,fbr⟩).toArray:=by
     rw[show (ByteArray.mk #[58,32])=ByteArray.mk ([58,32]:List UInt8).toArray from rfl,nN,nN]
     rfl
    have aby:=ah Xc;clear Xc
    go_upto_region 7 with fail
    change Code.wp _ _ _ _ (wr.alloc (.cells #[.string ⟨pU.toArray⟩,.int .i64 fb,.slice a2 fc.length c2] 96));clear x0 x1 x2
    have hyl:wr.heap.size<(wr.alloc (.cells #[.string ⟨pU.toArray⟩,.int .i64 fb,.slice a2 fc.length c2] 96)).heap.size:=by simp
    generalize wr.alloc (.cells #[.string ⟨pU.toArray⟩,.int .i64 fb,.slice a2 fc.length c2] 96)=w5 at *;have LZ:=bC.size;have QL:=hbw2.trans (bC.mono hbw2.size);obtain⟨a2',c2',hv2,hck⟩:=l6 (HCV.out.frame (aQ.of QL));simp only[Value.slice.injEq] at hv2;obtain⟨rfl,-,rfl⟩:=hv2;have hbz:=QL.size;have ZG:=vX fb fc B a2 c2 w5 hck (by omega) (fun x hx=>(wF.out.cl x hx).1) wF.out.few wF.out.text;unfold qE at ZG;rw[PK.out,if_pos rfl,if_pos rfl] at ZG;have HTY:=ah ZG;have HN5:=ah hN;have HW5:=ah (own_below HW.out bC);obtain⟨y0,y1,y2⟩:=jL hN;have hfn:=wF.out.name;have hft:=wF.out.text;simp only at hfn hft;generalize gG fb fc=tt at *
    have hq1:¬ 9223372036854775807<pU.length+2:=by omega
    have hq2:¬ 9223372036854775807<pU.length+2+tt.length:=by omega
    clear ZG hck hN HW PK wF HCV hfn hft
    go_upto_region 8 with (go_at_call 49;refine HTY.out.mono ?_;rintro r w6 ⟨rfl,hb6⟩)
    obtain⟨v0,v1,v2⟩:=jL ((hb6.block _ hyl).trans HN5.out);have hz6:=hb6.size;have HW6:Hid (w6.ownsRow w2.heap.size 9 1 (.slice ak k ck) k (zs.map encStr)):=ah (by have q:=own_below HW5.out hb6;rw[hlm] at q;exact q);clear y0 y1 y2 HTY HN5 HW5;go_wp2_with (at_builtin;refine wpList_append_own _ rfl _ _ 22 rfl w2.heap.size 9 i0 _ 1 16 Tryz.underlying22 hi hz0 hz1' hz2' rfl (by decide) _ k _ rfl (HW6.out.alloc _) ⟨w6.heap.size,0,none⟩ 1 1 [.string (ByteArray.mk pU.toArray++ByteArray.mk #[58,32]++ByteArray.mk tt.toArray)] rfl rfl ?q0 ?q00 ?q2 ?q3 ?q4 ?_)
    case q0=>exact World.news_of_block (cs:=#[.string (ByteArray.mk pU.toArray++ByteArray.mk #[58,32]++ByteArray.mk tt.toArray)]) (t:=9) (fr:=(0,0)) (heap_alloc_new w6 _)
    case q00=>simp[Value.oneCell']
    case q2=>unfold maxLen;omega
    case q3=>omega
    case q4=>simp;omega
    intro v' w' hown' hgrow hiff;have hb':Below w2.heap.size w2 w':=(((hbl.trans (bC.mono uL)).trans (hb6.mono (by omega))).alloc (by omega) _).grown hgrow (by simp;omega) (fun b q=>(HW6.out.lt b q).1);rw[aby.out] at hown'
    have hown':w'.ownsRow w2.heap.size 9 1 v' (zs.length+1) (zs.map encStr++[encStr (ZF.text ⟨pU,fb,fc,fa,fbr⟩)]):=by rw[hlm];exact hown'
    have Ox:Hid (qI w2.heap.size w' v' (zs++[ZF.text ⟨pU,fb,fc,fa,fbr⟩])):=ah (qI.app (l:=zs) (a:=[ZF.text ⟨pU,fb,fc,fa,fbr⟩]) hown');obtain⟨xP,xQ,rfl⟩:=Ox.out.slice
    have hl2:(zs++[ZF.text ⟨pU,fb,fc,fa,fbr⟩]).length=k+1:=by rw[bN,hlm];rfl
    rw[hl2] at Ox;clear hown' hgrow hiff HW6 hlm;rw[hl2];go_wp2
    go_roundw
    case rel =>
     exact⟨k+1,xP,xQ,by omega,by go_num,rfl,by rw[pK.out];exact Ox.out,hb'⟩
    case measure=>simp[intOf];omega
   ·obtain rfl:k=ps.length:=by omega
    have oH:decide ((ps.length:Int)<(ps.length:Int))=false:=decide_eq_false (by omega);have hNr:=(hbl.block _ (by omega)).trans HN2.out;have hlr:=(bG hNr).1;obtain⟨⟨y0,y1,y2,y3⟩,-⟩:=iD hNr;have HNR:=ah hNr;obtain⟨ac',cc',hv2,hck⟩:=l6 (HKR.out.frame (aQ.of hbw2));simp only[Value.slice.injEq] at hv2;obtain⟨rfl,-,rfl⟩:=hv2;have hbz:=hbw2.size;have ZG:=vX rb rc B ac cc wr hck (by omega) (fun x hx=>(HR.out.cl x hx).1) HR.out.few HR.out.text;unfold qE at ZG;rw[aey,if_pos rfl,if_pos rfl] at ZG;have HTY:=ah ZG;have hJ:=HW.out;rw[List.take_length] at hJ;have hlm:(ps.map ZF.text).length=ps.length:=List.length_map _;have HJ:=ah (fun W (hW:Below wr.heap.size wr W)=>Xb (fun _=>True) (.slice ak ps.length ck) (ps.map ZF.text) W (bJ.owns (own_below (by unfold qI at hJ;exact hJ) hW) (fun _ _=>trivial)) (by rw[hlm];omega) HCM.out)
    have Xc:ByteArray.mk rn.toArray++ByteArray.mk #[40]++ByteArray.mk (bg (ps.map ZF.text)).toArray++ByteArray.mk #[41,58,32]++ByteArray.mk (gG rb rc).toArray=ByteArray.mk tx.toArray:=by
     rw[L8.out,show (ByteArray.mk #[40])=ByteArray.mk ([40]:List UInt8).toArray from rfl,show (ByteArray.mk #[41,58,32])=ByteArray.mk ([41,58,32]:List UInt8).toArray from rfl,nN,nN,nN,nN]
     rfl
    have aby:=ah Xc;clear ZG hck hNr hJ Xc HW HN2 hlm;have hfn:=HR.out.name;have hft:=HR.out.text;have hjn:=HCM.out;simp only at hfn hft;generalize gG rb rc=tt at *;generalize bg (ps.map ZF.text)=jt at *
    have hq1:¬ 9223372036854775807<rn.length+1:=by omega
    have hq2:¬ 9223372036854775807<rn.length+1+jt.length:=by omega
    have hq3:¬ 9223372036854775807<rn.length+1+jt.length+3:=by omega
    have hq4:¬ 9223372036854775807<rn.length+1+jt.length+3+tt.length:=by omega
    clear hfn hft hjn
    go_upto_region 11 with (go_at_call 49;refine HTY.out.mono ?_;rintro r w6 ⟨rfl,hb6⟩)
    obtain⟨⟨z0,z1,z2,z3⟩,-⟩:=iD ((hb6.block _ hlr).trans HNR.out);have HJ6:=ah (HJ.out w6.drew hb6.drew);clear y0 y1 y2 y3 HTY HJ HNR;have hz6:=hb6.size
    have afL:w.heap.size<w6.heap.size:=by omega
    have p3:w6.drew.cell? ⟨w.heap.size,0,none⟩=some (.string ⟨rn.toArray⟩):=z0
    go_region_held3 (fun W=>W.cell? ⟨w.heap.size,0,none⟩=some (.string ⟨rn.toArray⟩))
     (first|(with_reducible exact p3)|(go_keep;done))
     (first|(go_at_call 50;refine HJ6.out.mono ?_;rintro e w7 ⟨rfl,rZ⟩;have OB:=(Below.refl w6.heap.size w6).drew.trans rZ;have p3:=cell_later OB z0))
    all_goals
     go_wp2;go_ret2;exact⟨by rw[aby.out];rfl,hbw2.trans ((hb6.trans (OB.mono hb6.size)).mono hbz)⟩
def mP (acc:Int):List ZF→Int
 | []=>acc
 | f :: l=>mP (acc+(1 - (f.clause.length:Int))) l
theorem Ea (r:ZF)(ps:List ZF)(P:Nat→Prop)(ap:Option Addr)(cp:Nat)(ac:Option Addr)(cc:Nat)(w:World)(h:RowK D9 P w (.slice ap ps.length cp) ps)(hps:∀ f∈ps,f.clause.length≤1000000)(hp:ps.length≤1000000)(hr:r.clause.length≤1000000) :
  Calls Tryz.prog 14 #[.agg #[.string ⟨r.name.toArray⟩,.slice ap ps.length cp,.int .i64 r.base,.slice ac r.clause.length cc]] w fun e w'=>e=.returned (.int .i64 (mP (1 - (r.clause.length:Int)) ps))∧Below w.heap.size w w':=by
 have hal:=aj w (.cells #[.string ⟨r.name.toArray⟩,.slice ap ps.length cp,.int .i64 r.base,.slice ac r.clause.length cc] 31);have hN:=heap_alloc_new w (.cells #[.string ⟨r.name.toArray⟩,.slice ap ps.length cp,.int .i64 r.base,.slice ac r.clause.length cc] 31);obtain⟨ap',cp',hv,_,hform⟩:=h.form;simp only[Value.slice.injEq] at hv;obtain⟨rfl,-,rfl⟩:=hv;have HF:=ah hform;have HPS:=ah hps;clear h hform hps
 obtain⟨R,hR⟩:∃ R,R=mP (1 - (r.clause.length:Int)) ps:=⟨_,rfl⟩
 rw[← hR];have HR:=ah hR;clear hR;obtain⟨rn,rb,rc,ra,rbr⟩:=r;simp only at *;go_enter Tryz.func14,Tryz.ntmps14
 go_upto_region 1 with fail
 change Code.wp _ _ _ _ (w.alloc (.cells #[.string ⟨rn.toArray⟩,.slice ap ps.length cp,.int .i64 rb,.slice ac rc.length cc] 31));generalize w.alloc (.cells #[.string ⟨rn.toArray⟩,.slice ap ps.length cp,.int .i64 rb,.slice ac rc.length cc] 31)=w1 at hal hN ⊢;have hl1:=(bG hN).1;have hz1:=hal.size;obtain⟨⟨y0,y1,y2,y3⟩,-⟩:=iD hN;generalize hrl:rc.length=rl at *;have HRL:=ah hrl;clear hN hrl;go_wp2;clear y0 y1 y2 y3
 go_loopw [3,5,13] (fun nv _ q wr=>∃ (k:Nat) (acc:Int),k≤ps.length∧q=.int .i64 k∧nv=.int .i64 acc∧R=mP acc (ps.drop k)∧-1000000 - 1000000 * (k:Int)≤acc∧acc≤k+1∧Below w.heap.size w wr) (fun _ _ q _=>ps.length - (intOf q).toNat)
 case atStart=>exact⟨0,1 - (rl:Int),Nat.zero_le _,rfl,rfl,by rw[HR.out];rfl,by omega,by omega,hal⟩
 case round =>
  obtain⟨k,acc,hk,rfl,rfl,hres,hlo,hhi,hbl⟩:=hrel;have uL:=hbl.size;have zK:=ah hres;clear hres
  by_cases hlt:k<ps.length
  ·obtain⟨b,off,rfl,_,hbw,hcell⟩:=HF.out (by omega)
   obtain⟨cv,hcv,hc⟩:=hcell k hlt;obtain⟨a2,c2,rfl⟩:=RowK.slice hcv;have x0:=(hbl.cell (p:=⟨b,off+k * 3+0,none⟩) hbw).trans (hc 0 _ rfl);have x1:=(hbl.cell (p:=⟨b,off+k * 3+1,none⟩) hbw).trans (hc 1 _ rfl);have x2:=(hbl.cell (p:=⟨b,off+k * 3+2,none⟩) hbw).trans (hc 2 _ rfl);rw[Nat.add_zero] at x0;have hdr:ps.drop k=ps[k] :: ps.drop (k+1):=List.drop_eq_getElem_cons hlt;have hkn:=HPS.out _ (List.getElem_mem hlt)
   have oH:(k:Int)<(ps.length:Int):=by omega
   have HE:Hid (R=mP (acc+(1 - (ps[k].clause.length:Int))) (ps.drop (k+1))):=ah (by rw[zK.out,hdr];rfl);clear hc hcell hdr hcv zK;generalize ps[k]=f at *;obtain⟨pU,fb,fc,fa,fbr⟩:=f;simp only[dh] at x0 x1 x2 hkn HE;generalize hcl:fc.length=cl at *;clear hcl;have bC:=aj wr (.cells #[.string ⟨pU.toArray⟩,.int .i64 fb,.slice a2 cl c2] 96);have hN:=heap_alloc_new wr (.cells #[.string ⟨pU.toArray⟩,.int .i64 fb,.slice a2 cl c2] 96)
   go_upto_region 5 with fail
   change Code.wp _ _ _ _ (wr.alloc (.cells #[.string ⟨pU.toArray⟩,.int .i64 fb,.slice a2 cl c2] 96));clear x0 x1 x2;generalize wr.alloc (.cells #[.string ⟨pU.toArray⟩,.int .i64 fb,.slice a2 cl c2] 96)=w5 at *;obtain⟨y0,y1,y2⟩:=jL hN
   have hs1:-1000001≤1 - (cl:Int):=by omega
   have hs2:-2000000000000≤acc+(1 - (cl:Int)):=by omega
   have hs3:acc+(1 - (cl:Int))≤2000000000000:=by omega
   go_wp2
   go_roundw
   case rel=>exact⟨k+1,acc+(1 - (cl:Int)),by omega,by go_num,rfl,HE.out,by omega,by omega,hbl.trans (bC.mono uL)⟩
   case measure=>simp[intOf];omega
  ·obtain rfl:k=ps.length:=by omega
   have oH:decide ((ps.length:Int)<(ps.length:Int))=false:=decide_eq_false (by omega);have HE:Hid (R=acc):=ah (by rw[zK.out,List.drop_length];rfl);go_wp2;go_ret;exact⟨by rw[HE.out];rfl,hbl⟩
end Go.Proofs.YtknicmmigbhpcaaGreatDoor

namespace Go.Proofs.YtknicmmigbhpcaaGreatDoor
open Go.RowKit Go
theorem Tryz.SY:(Tryz.prog.info? 46).map (fun i=>(i.zero,i.size,i.bytes))=some (some (.agg #[.int .i64 0,.string ⟨#[]⟩,.string ⟨#[]⟩,.bool false,.slice none 0 0,.bool false,.slice none 0 0,.int .i64 0]),8,112):=by kernel_rfl
def abz (n:Nat)(cs:List Value)(w:World)(e:Ending)(w':World):Prop:=∃ a c,e=.returned (.slice a n c)∧lF (fun b=>w.heap.size≤b) w' (.slice a n c) 8 n cs∧Below w.heap.size w w'
theorem Eb (P:Nat→Prop)(v:Value)(n:Nat)(cs:List Value)(w:World)(h:lF P w v 8 n cs)(h1:∀ u∈cs,u.oneCell'=true)(hn:n≤1000000) :
  Calls Tryz.prog 38 #[v] w (abz n cs w):=by
 obtain⟨i0,hi,hz0,hz1,hz2⟩:=info_parts Tryz.SY;obtain⟨ao,cap,rfl,hcap,hlen,hf⟩:=h
 have q22:∀ (w:World) (a:Option Addr) (n c n' c':Nat),(binOp .eql 29 (.slice a n c) (.slice none n' c')).run Tryz.prog w=.ok (.bool a.isNone) w:=fun w a n c n' c'=>Lib.run_eql_slice_nil w _ _ a n c n' c' Tryz.underlying29
 have u22:∀ w,Sem.run Tryz.prog (underlying 29) w=.ok (TypeDesc.slice 46) w:=run_underlying Tryz.underlying29
 cases ao with
 | none =>
  have hn0:n=0:=by
   rcases Nat.eq_zero_or_pos n with q|q
   ·exact q
   ·obtain⟨b,off,q1,_⟩:=hf q;cases q1
  subst hn0;obtain rfl:cs=[]:=List.eq_nil_of_length_eq_zero (by omega);clear hf hlen h1;go_enter Tryz.func38,Tryz.ntmps38;go_wp2;go_ret;exact⟨none,0,rfl,lF.nil _ _ _,Below.refl _ _⟩
 | some ad =>
  have hnews:∀ j u,cs[j]?=some u→w.cell? (ad.add j)=some u:=fun j u hj=>by
   obtain⟨h2,h3⟩:=mR hj;obtain⟨b,off,q1,_,_,q2⟩:=hf (by omega)
   injection q1 with q1
   rw[q1,Addr.add_lit,q2 j h2,h3]
  have aeA:∀ j u,cs[j]?=some u→(ad.add j).block<w.heap.size:=fun j u hj=>by
   obtain⟨h2,h3⟩:=mR hj;obtain⟨b,off,q1,_,q3,q2⟩:=hf (by omega)
   injection q1 with q1
   rw[q1,Addr.add_lit];exact q3
  have A:=ah hnews;have HLEN:=ah hlen;have HU:=ah h1;clear hf hlen h1 hnews;go_enter Tryz.func38,Tryz.ntmps38;go_wp2_with (at_builtin;refine wpList_append_own _ rfl _ _ 29 rfl w.heap.size 46 i0 (.agg #[.int .i64 0,.string ⟨#[]⟩,.string ⟨#[]⟩,.bool false,.slice none 0 0,.bool false,.slice none 0 0,.int .i64 0]) 8 112 Tryz.underlying29 hi hz0 hz1 hz2 rfl (by decide) _ _ _ rfl (World.ownsRow_made w #[] 0 (Nat.le_refl _) (Nat.zero_le _) rfl) ad n cap cs rfl ?qc1 ?qc2 ?qc3 ?qc4 ?qc5 ?qc6 ?_)
  case qc1=>exact HLEN.out
  case qc2 =>
   intro j u hj;have:=A.out j u hj;rw[World.cell?_of_block (Lib.alloc_old w _ _ (aeA j u hj))];exact this
  case qc3=>exact HU.out
  case qc4=>unfold maxLen;omega
  case qc5=>omega
  case qc6=>simp
  intro v' w1 hown hgrow hnil;have hb:Below w.heap.size w w1:=((Below.refl _ w).alloc (Nat.le_refl _) _).grown hgrow (by simp) (by intro k hk;simp[Value.ownBlock] at hk;omega)
  have hsl:=lF.eZ (P:=fun b=>w.heap.size≤b) hown fun _ hb=>hb
  have hvf:∃ a c,v'=.slice a n c:=by
   rcases hown.2 with ⟨q,q2⟩|⟨g,cap',cur,q,_⟩
   ·exact⟨none,0,by rw[q,show n=0 by omega]⟩
   ·exact⟨_,_,q⟩
  obtain⟨a',c',rfl⟩:=hvf;clear hown hgrow hnil;go_wp2;go_ret;exact⟨a',c',rfl,hsl,hb⟩
theorem Tryz.Xd:(Tryz.prog.info? 96).map (fun i=>(i.zero,i.size,i.bytes))=some (some (.agg #[.string ⟨#[]⟩,.int .i64 0,.slice none 0 0]),3,48):=by kernel_rfl
theorem Tryz.Xe:∀ args w,(callFunc 38 args).run Tryz.prog w=.ok (.enter 38 args) w:=Go.Proofs.enters_of Tryz.func38 (by kernel_rfl) rfl
def Qh (P:Nat→Prop)(d:ZD)(w:World)(e:Ending)(w':World):Prop:=∃ a c ac cc,e=.returned (.agg #[.string ⟨d.res.name.toArray⟩,.slice a d.params.length c,.int .i64 d.res.base,.slice ac d.res.clause.length cc])∧zJ (fun b=>(P b∧b<w.heap.size)∨w.heap.size≤b) w' (.slice a d.params.length c) (.slice ac d.res.clause.length cc) d.params d.res.clause∧Below w.heap.size w w'
theorem Lx {P:Nat→Prop}{w:World}{v:Value}{ks:List PZ}(h:RowK (ZK YA) P w v ks):∃ l:List (PZ × (Value × Value)),l.map Prod.fst=ks∧lF P w v 8 ks.length ((ZK YA).flat l)∧(∀ u∈(ZK YA).flat l,u.oneCell'=true)∧∀ p∈l,oI YA P w p.2.1 p.2.2 p.1:=by
 obtain⟨l,h1,h2,h3⟩:=h;refine⟨l,h1,h2,fun u hu=>?_,h3⟩;obtain⟨⟨e,m,k⟩,hp,hq⟩:=List.mem_flatMap.1 hu;have he:oI YA P w m k e:=h3 _ hp;obtain⟨am,wn,cm,ae,ce,rfl,rfl⟩:=he.YQ;simp only[ZK,YA,List.mem_cons,List.not_mem_nil,or_false] at hq
 rcases hq with rfl|rfl|rfl|rfl|rfl|rfl|rfl|rfl<;>rfl
theorem Ec {P Q R:Nat→Prop}{w w':World}{v':Value}{ks:List PZ}{l:List (PZ × (Value × Value))}(h1:l.map Prod.fst=ks)(h2:lF Q w' v' 8 ks.length ((ZK YA).flat l))(h3:∀ p∈l,oI YA P w p.2.1 p.2.2 p.1)(hA:aQ P w w')(hQ:∀ b,Q b→b<w'.heap.size→R b)(hP:∀ b,P b→b<w.heap.size→R b):RowK (ZK YA) R w' v' ks :=
 ⟨l,h1,h2.imp hQ,fun p hp=>((h3 p hp).imp (Q:=fun b=>P b∧R b) fun b hb hl=>⟨hb,hP b hb hl⟩).frame ⟨hA.1,fun b hb hl=>hA.2 b hb.1 hl⟩ |>.imp fun b hb _=>hb.2⟩
theorem yA {P:Nat→Prop}{w:World}{b:Nat}(v0 v1 v2 v3:Value)(h:∀ k,P k→k≠b):aQ P w (ny w b v0 v1 v2 v3) :=
 (((aQ.set (a:=⟨b,0,none⟩) v0 h).trans (aQ.set (a:=⟨b,1,none⟩) v1 h)).trans (aQ.set (a:=⟨b,2,none⟩) v2 h)).trans (aQ.set (a:=⟨b,3,none⟩) v3 h)
theorem Gv (P:Nat→Prop)(d:ZD)(ap:Option Addr)(cp:Nat)(ac:Option Addr)(cc:Nat)(am:Option Addr)(wn cm:Nat)(ae:Option Addr)(ce:Nat)(w:World)(hfit:d.uZ)
  (hP:RowK ZFK P w (.slice ap d.params.length cp) d.params) (hC:RowK (ZK YA) P w (.slice ac d.res.clause.length cc) d.res.clause) :
  Calls Tryz.prog 13 #[.agg (wu d ap cp ac cc am wn cm ae ce)] w (Qh P d w):=by
 have hal:=(aj w (.cells (wu d ap cp ac cc am wn cm ae ce) 48)).alloc (by simp) (.cells #[.string ⟨#[]⟩,.slice none 0 0,.int .i64 0,.slice none 0 0] 31);have g0:=(Lib.alloc_old (w.alloc (.cells (wu d ap cp ac cc am wn cm ae ce) 48)) (.cells #[.string ⟨#[]⟩,.slice none 0 0,.int .i64 0,.slice none 0 0] 31) w.heap.size (by simp)).trans (heap_alloc_new w (.cells (wu d ap cp ac cc am wn cm ae ce) 48));have g1:=heap_alloc_new (w.alloc (.cells (wu d ap cp ac cc am wn cm ae ce) 48)) (.cells #[.string ⟨#[]⟩,.slice none 0 0,.int .i64 0,.slice none 0 0] 31);rw[World.size_alloc] at g1;obtain⟨ae',ce',hv,_,hform⟩:=hP.form;simp only[Value.slice.injEq] at hv;obtain⟨rfl,-,rfl⟩:=hv;have hPR:=hP;obtain⟨lc,hlc,hcs1,hcs2,adh⟩:=Lx hC
 obtain⟨cs,abA⟩:∃ cs,cs=(ZK YA).flat lc:=⟨_,rfl⟩
 rw[← abA] at hcs1 hcs2;have HCS:=ah (And.intro hlc (And.intro abA adh));have hpn:=hfit.jR;have hcn:=hfit.cl.1;have Tz:=ah (fun W (hW:Below w.heap.size w W)=>Eb P _ _ cs W (hcs1.frame (aQ.of hW)) hcs2 (by omega));have HF:=ah hform;have aeB:=ah hfit;clear hform hP hC hfit hcs1 hcs2 adh hlc abA hPR;go_enter Tryz.func13,Tryz.ntmps13
 go_upto_region 1 with fail
 change Code.wp _ _ _ _ ((w.alloc (.cells (wu d ap cp ac cc am wn cm ae ce) 48)).alloc (.cells #[.string ⟨#[]⟩,.slice none 0 0,.int .i64 0,.slice none 0 0] 31));generalize (w.alloc (.cells (wu d ap cp ac cc am wn cm ae ce) 48)).alloc (.cells #[.string ⟨#[]⟩,.slice none 0 0,.int .i64 0,.slice none 0 0] 31)=w1 at *;have hz1:=hal.size;have hl1:=(bG g1).1;obtain⟨y0,y1,y2,y3,y4,y5,y6,y7,y8,y9,X6,TI,X7,y13,X8⟩:=wz g0;have HG:=ah (And.intro g0 g1)
 have hn1:w.heap.size≠w1.heap.size:=by omega
 clear g0 g1
 go_cut [3] (fun p wc=>∃ (Y:Nat) (a3:Option Addr) (c3:Nat),p=.pointer (some ⟨Y,0,none⟩)∧wc.heap[Y]?=some (.cells #[.string ⟨d.res.name.toArray⟩,.slice none 0 0,.int .i64 d.res.base,.slice a3 d.res.clause.length c3] 31 (0,0))∧w1.heap.size≤Y∧Below w1.heap.size w1 wc∧lF (fun b=>w1.heap.size≤b∧b≠Y) wc (.slice a3 d.res.clause.length c3) 8 d.res.clause.length cs)
 case first =>
  go_region_held3 (fun W=>W.cell? ⟨w.heap.size,1,none⟩=some (.string ⟨d.res.name.toArray⟩)∧W.cell? ⟨w.heap.size,3,none⟩=some (.int .i64 d.res.base)∧W.cell? ⟨w.heap.size,4,none⟩=some (.slice ac d.res.clause.length cc))
   (first|(with_reducible exact p3)|(with_reducible exact And.intro ((oD w2 w1.heap.size w.heap.size 1 _ _ _ _ hn1).trans p3.1) (And.intro ((oD w2 w1.heap.size w.heap.size 3 _ _ _ _ hn1).trans p3.2.1) ((oD w2 w1.heap.size w.heap.size 4 _ _ _ _ hn1).trans p3.2.2)))|(go_keep;done))
   (first|(go_at_call 38;refine(Tz.out _ ?_).mono ?_;(first|exact hal.drew|exact(hal.alloc hz1 _).drew);rintro e w2 ⟨a3,c3,rfl,hsl2,hb2⟩;have hq2:Below w1.heap.size w1 w2:=(by first|exact(Below.refl _ _).drew.trans hb2|exact((Below.refl _ _).alloc (Nat.le_refl _) _).drew.trans (hb2.mono (by simp)));have p3:=And.intro (cell_later hq2 y1) (And.intro (cell_later hq2 y3) (cell_later hq2 y4));try (have hT:=(hb2.block w1.heap.size (by simp)).trans (heap_alloc_new w1 (.cells #[.string ⟨#[]⟩,.slice none 0 0,.int .i64 0,.slice none 0 0] 31));obtain⟨⟨t0,t1,t2,t3⟩,g0,g1,g2,g3⟩:=iD hT)))
  ·clear p3
   go_wp2_with fail
   go_meet
   exact⟨w2.heap.size,a3,c3,rfl,heap_alloc_new w2 _,hq2.size,hq2.alloc hq2.size _,((hsl2.imp (Q:=fun b=>w1.heap.size≤b∧b≠w2.heap.size) fun b hb hl=>⟨hb,by omega⟩).frame (aQ.of (aj w2 _)))⟩
  ·clear p3
   go_wp2_with fail
   go_meet
   exact⟨w1.heap.size,a3,c3,rfl,iB hT (.string ⟨d.res.name.toArray⟩) (.slice none 0 0) (.int .i64 d.res.base) (.slice a3 d.res.clause.length c3),Nat.le_refl _,gH hq2 (Nat.le_refl _) (.string ⟨d.res.name.toArray⟩) (.slice none 0 0) (.int .i64 d.res.base) (.slice a3 d.res.clause.length c3),((hsl2.imp (Q:=fun b=>w1.heap.size≤b∧b≠w1.heap.size) fun b hb hl=>by have h9:w1.heap.size+1≤b:=(by simpa using hb);omega).frame (yA _ _ _ _ fun k hk=>hk.2))⟩
 case rest =>
  obtain⟨Y,a3,c3,rfl,hY,hYw,hqc,hsl⟩:=hcut
  obtain⟨w2,rfl⟩:∃ w2:World,w2=wc:=⟨_,rfl⟩
  clear y0 y1 y2 y3 y4 y5 y6 y7 y8 y9 X6 TI X7 y13 X8;have gd2:=(hqc.block _ (by omega)).trans HG.out.1;have gr2:=(hqc.block _ hl1).trans HG.out.2;have hzc:=hqc.size;have aeC:=(bG hY).1;have hbw2:=hal.trans (hqc.mono hz1);obtain⟨y0,y1,y2,y3,y4,y5,y6,y7,y8,y9,X6,TI,X7,y13,X8⟩:=wz gd2;have HGR:=ah gr2;have HY2:=ah hY;obtain⟨i0,hi,hz0,hz1',hz2⟩:=info_parts Tryz.Xd;clear gd2 gr2 hY HG;generalize hps:d.params=ps at *;generalize hrn:d.res.name=rn at *;generalize hrb:d.res.base=rb at *;generalize hrl:d.res.clause.length=rl at *;have HRN:=ah (And.intro hrn (And.intro hrb hrl));have HSL:=ah hsl;have aeD:Y<w2.heap.size:=aeC;clear hsl;clear hrn hrb hrl;go_wp2;clear y0 y1 y2 y3 y4 y5 y6 y7 y8 y9 X6 TI X7 y13 X8
  go_loopw [5,17] (fun _ q wr=>∃ (k:Nat) (ak:Option Addr) (ck:Nat),k≤ps.length∧q=.int .i64 k∧wr.heap[Y]?=some (.cells #[.string ⟨rn.toArray⟩,.slice ak k ck,.int .i64 rb,.slice a3 rl c3] 31 (0,0))∧oC D9 (fun b=>(P b∧b<w.heap.size)∨w2.heap.size≤b) w2.heap.size 96 wr (.slice ak k ck) (ps.take k)∧wr.heap[w.heap.size+1]?=some (.cells #[.string ⟨#[]⟩,.slice none 0 0,.int .i64 0,.slice none 0 0] 31 (0,0))∧Below w.heap.size w wr∧aQ (fun b=>b<w2.heap.size∧b≠Y) w2 wr) (fun _ q _=>ps.length - (intOf q).toNat)
  case atStart=>exact⟨0,none,0,Nat.zero_le _,rfl,HY2.out,by rw[List.take_zero];exact oC.nil _ _ _ _ _,HGR.out,hbw2,aQ.refl _ _⟩
  case round =>
   obtain⟨k,ak,ck,hk,rfl,hYr,aar,hgr,hbl,fB⟩:=hrel;have aeE:=fB.1;have afM:w1.heap.size≤wr.heap.size:=Nat.le_trans hzc aeE;have HQ:=ah aar;obtain⟨IL,hr1,hown,hes⟩:=aar
   have hlk:(ps.take k).length=k:=by rw[List.length_take,Nat.min_eq_left hk]
   rw[hlk] at hown;have hown:wr.ownsRow w2.heap.size 96 3 (.slice ak k ck) k (D9.flat IL):=hown;have Yq:=ah (And.intro hr1 (And.intro hes (And.intro hlk fB)));generalize hxs:D9.flat IL=xs at hown;have HXS:=ah hxs;clear hes hr1 hlk fB hxs;have uL:=hbl.size;have hYl:=(bG hYr).1;have hgl:=(bG hgr).1;have HYR:=ah hYr;have HO:=ah hown;have HOW:=HO;have Xf:=ah hgr;clear hYr hown hgr
   by_cases hlt:k<ps.length
   ·obtain⟨b,off,rfl,hPb,hbw,qx⟩:=HF.out (by omega)
    obtain⟨cv,hcl,hc⟩:=qx k hlt;obtain⟨a2,c2,rfl⟩:=RowK.slice hcl;obtain⟨l2,hl2,hs1,hs2,hs3⟩:=Lx hcl
    obtain⟨cs2,Xg⟩:∃ cs2,cs2=(ZK YA).flat l2:=⟨_,rfl⟩
    rw[← Xg] at hs1 hs2;have htk:=List.take_succ_eq_append_getElem hlt;have HL2:=ah (And.intro hl2 (And.intro Xg (And.intro hs3 htk)));clear hl2 Xg hs3 htk;have hpf:=aeB.out.pcl _ (by rw[hps];exact List.getElem_mem hlt);have x0:=(hbl.cell (p:=⟨b,off+k * 5+0,none⟩) hbw).trans (hc 0 _ rfl);have x1:=(hbl.cell (p:=⟨b,off+k * 5+1,none⟩) hbw).trans (hc 1 _ rfl);have x2:=(hbl.cell (p:=⟨b,off+k * 5+2,none⟩) hbw).trans (hc 2 _ rfl);have x3:=(hbl.cell (p:=⟨b,off+k * 5+3,none⟩) hbw).trans (hc 3 _ rfl);have x4:=(hbl.cell (p:=⟨b,off+k * 5+4,none⟩) hbw).trans (hc 4 _ rfl);rw[Nat.add_zero] at x0;simp only[dh] at x0;have hpc:=hpf.1;clear qx hcl hc hpf;generalize ps[k]=p at *;have mO:=aj wr (.cells #[.string ⟨p.name.toArray⟩,.int .i64 p.base,.slice a2 p.clause.length c2,.int .i64 p.at_,.int .i64 p.bare] 80);have gk:=heap_alloc_new wr (.cells #[.string ⟨p.name.toArray⟩,.int .i64 p.base,.slice a2 p.clause.length c2,.int .i64 p.at_,.int .i64 p.bare] 80)
    have oH:(k:Int)<(ps.length:Int):=by omega
    go_upto_region 5 with fail
    change Code.wp _ _ _ _ (wr.alloc (.cells #[.string ⟨p.name.toArray⟩,.int .i64 p.base,.slice a2 p.clause.length c2,.int .i64 p.at_,.int .i64 p.bare] 80));clear x0 x1 x2 x3 x4
    have aeF:wr.heap.size<(wr.alloc (.cells #[.string ⟨p.name.toArray⟩,.int .i64 p.base,.slice a2 p.clause.length c2,.int .i64 p.at_,.int .i64 p.bare] 80)).heap.size:=by simp
    generalize wr.alloc (.cells #[.string ⟨p.name.toArray⟩,.int .i64 p.base,.slice a2 p.clause.length c2,.int .i64 p.at_,.int .i64 p.bare] 80)=w3 at *;have hz3:=mO.size;have HCK:=ah (fun W (hW:Below w3.heap.size w3 W)=>Eb P _ _ cs2 W (hs1.frame (aQ.of (hbl.trans ((mO.trans (hW.mono hz3)).mono uL)))) hs2 (by omega));have HY3:=ah ((mO.block Y hYl).trans HYR.out);have HO3:=ah (own_below HO.out mO);have HG3:=ah ((mO.block _ hgl).trans Xf.out);have HGK:=ah gk
    have HS:Hid (∀ W,aQ (fun b=>b=wr.heap.size) w3 W→(W.cell? ⟨wr.heap.size,0,none⟩=some (.string ⟨p.name.toArray⟩)∧W.cell? ⟨wr.heap.size,1,none⟩=some (.int .i64 p.base)∧W.cell? ⟨wr.heap.size,2,none⟩=some (.slice a2 p.clause.length c2))):=ah fun W hW=>by
     obtain⟨q0,q1,q2,_,_⟩:=Ir ((hW.2 _ rfl aeF).trans HGK.out);exact⟨q0,q1,q2⟩
    have aeG:some wr.heap.size≠(Value.slice ak k ck).ownBlock:=own_ne HO3.out HGK.out (by decide);have HC:=ah (HCK.out w3.drew (Below.refl _ _).drew);have aeH:=Tryz.Xe;have p3:=HS.out w3.drew (aQ.of (Below.refl _ _).drew);obtain⟨t0,t1,t2,t3⟩:=(iD HY3.out).1
    have abv:Y<w3.heap.size:=by omega
    have aeI:w.heap.size+1<w3.heap.size:=by omega
    have hne:wr.heap.size≠Y:=by omega
    clear gk hs1 HYR HO Xf HCK;refine wp_region_held_drew (S:=(fun W=>W.cell? ⟨wr.heap.size,0,none⟩=some (.string ⟨p.name.toArray⟩)∧W.cell? ⟨wr.heap.size,1,none⟩=some (.int .i64 p.base)∧W.cell? ⟨wr.heap.size,2,none⟩=some (.slice a2 p.clause.length c2))) (by kernel_rfl) p3 (fun hHeld=>?_);refine wpAnyH_take (i:=0) (oi:=⟨some 21,_,_,_,_,_⟩) (v:=?_) rfl (by kernel_rfl) (by kernel_rfl) (by kernel_rfl) (fun _ _ _ h=>h) (Or.inl ⟨by rfl,?_⟩) hHeld ?_
    rotate_left
    ·intro w hSw;(try dsimp only at hSw);go_simp;try (with_reducible rfl)
    simp only[Act.put,List.setIfInBounds_toArray,List.set_cons_zero,List.set_cons_succ];refine wpAnyH_take (i:=2) (oi:=⟨some 23,_,_,_,_,_⟩) (v:=?_) rfl (by kernel_rfl) (by kernel_rfl) (by kernel_rfl) (fun _ _ _ h=>h) (Or.inl ⟨by rfl,?_⟩) hHeld ?_
    rotate_left
    ·intro w hSw;(try dsimp only at hSw);go_simp;try (with_reducible rfl)
    simp only[Act.put,List.setIfInBounds_toArray,List.set_cons_zero,List.set_cons_succ];refine wpAnyH_take (i:=3) (oi:=⟨some 24,_,_,_,_,_⟩) (v:=?_) rfl (by kernel_rfl) (by kernel_rfl) (by kernel_rfl) (fun _ _ _ h=>h) (Or.inl ⟨by rfl,?_⟩) hHeld ?_
    rotate_left
    ·intro w hSw;(try dsimp only at hSw);go_simp;try (with_reducible rfl)
    simp only[Act.put,List.setIfInBounds_toArray,List.set_cons_zero,List.set_cons_succ];refine wpAnyH_take (i:=4) (oi:=⟨some 25,_,_,_,_,_⟩) (v:=?_) rfl (by kernel_rfl) (by kernel_rfl) (by kernel_rfl) (fun _ _ _ h=>h) (Or.inl ⟨by rfl,?_⟩) hHeld ?_
    rotate_left
    ·intro w hSw;(try dsimp only at hSw);go_simp;try (with_reducible rfl)
    simp only[Act.put,List.setIfInBounds_toArray,List.set_cons_zero,List.set_cons_succ];refine wpAnyH_take (i:=5) (oi:=⟨some 26,_,_,_,_,_⟩) (v:=?_) rfl (by kernel_rfl) (by kernel_rfl) (by kernel_rfl) (fun _ _ _ h=>h) (Or.inl ⟨by rfl,?_⟩) hHeld ?_
    rotate_left
    ·intro w hSw;(try dsimp only at hSw);go_simp;try (with_reducible rfl)
    simp only[Act.put,List.setIfInBounds_toArray,List.set_cons_zero,List.set_cons_succ];refine wpAnyH_take (i:=6) (oi:=⟨some 27,_,_,_,_,_⟩) (v:=?_) rfl (by kernel_rfl) (by kernel_rfl) (by kernel_rfl) (fun _ _ _ h=>h) (Or.inl ⟨by rfl,?_⟩) hHeld ?_
    rotate_left
    ·intro w hSw;(try dsimp only at hSw);go_simp;try (with_reducible rfl)
    simp only[Act.put,List.setIfInBounds_toArray,List.set_cons_zero,List.set_cons_succ];refine wpAnyH_take (i:=7) (oi:=⟨some 28,_,_,_,_,_⟩) (v:=?_) rfl (by kernel_rfl) (by kernel_rfl) (by kernel_rfl) (fun _ _ _ h=>h) (Or.inl ⟨by rfl,?_⟩) hHeld ?_
    rotate_left
    ·intro w hSw;(try dsimp only at hSw);go_simp;try (with_reducible rfl)
    simp only[Act.put,List.setIfInBounds_toArray,List.set_cons_zero,List.set_cons_succ];refine wpAnyH_ready (rs:=[1,8]) (by kernel_rfl) (by simp) (AllReadyH.cons (o:=⟨some 22,_,_,_,_,_⟩) rfl (fun K hK=>?_) (AllReadyH.cons (o:=⟨some 29,_,_,_,_,_⟩) rfl (fun K hK=>?_) AllReadyH.nil));go_simp;refine hK.out _ _ (hHeld) (fun hHeld=>?_);clear hK K;refine wpAnyH_ready (rs:=[8]) (by kernel_rfl) (by simp) (AllReadyH.cons (o:=⟨some 29,_,_,_,_,_⟩) rfl (fun K hK=>?_) AllReadyH.nil)
    all_goals
     refine uy rfl 38 _ _ rfl HC.out (by rfl) (aeH _ _) ?_;rintro e w5 ⟨a5,c5,rfl,aeJ,hb5⟩;refine⟨_,rfl,?_⟩;have zT:Below w3.heap.size w3 w5:=(Below.refl w3.heap.size w3).drew.trans hb5;have hY5:=(zT.block Y abv).trans HY3.out;have r52:=(iD hY5).1.2.1;have r53:=fun o=>Lib.cell?_alloc_some o r52;have al5:aQ (fun b=>b=wr.heap.size) w3 w5:=aQ.of zT;have p3:=HS.out _ al5;have p3a:=fun o=>HS.out (w5.alloc o) (al5.trans (aQ.of (aj w5 o)))
     refine hK.out _ _ (p3) (fun hHeld=>?_);clear hK K
    all_goals
     refine wpAnyH_take (i:=9) (oi:=⟨some 30,_,_,_,_,_⟩) (v:=?_) rfl (by kernel_rfl) (by kernel_rfl) (by kernel_rfl) (fun _ _ _ h=>h) (Or.inl ⟨by rfl,?_⟩) hHeld ?_;rotate_left
     ·intro w hSw;(try dsimp only at hSw);go_simp;try (with_reducible rfl)
     simp only[Act.put,List.setIfInBounds_toArray,List.set_cons_zero,List.set_cons_succ]
    rotate_left 1;refine wpAnyH_ready (rs:=[1,10]) (by kernel_rfl) (by simp) (AllReadyH.cons (o:=⟨some 22,_,_,_,_,_⟩) rfl (fun K hK=>?_) (AllReadyH.cons (o:=⟨some 31,_,_,_,_,_⟩) rfl (fun K hK=>?_) AllReadyH.nil));rotate_right 1
    rotate_left 1;go_simp;refine hK.out _ _ (hHeld) (fun hHeld=>?_);clear hK K;refine wpAnyH_ready (rs:=[10]) (by kernel_rfl) (by simp) (AllReadyH.cons (o:=⟨some 31,_,_,_,_,_⟩) rfl (fun K hK=>?_) AllReadyH.nil);rotate_right 1
    refine wpAnyH_ready (rs:=[10]) (by kernel_rfl) (by simp) (AllReadyH.cons (o:=⟨some 31,_,_,_,_,_⟩) rfl (fun K hK=>?_) AllReadyH.nil)
    all_goals
     go_simp;refine hK.out _ _ (p3a _) (fun hHeld=>?_);clear hK K
    rotate_left 2;refine wpAnyH_ready (rs:=[1]) (by kernel_rfl) (by simp) (AllReadyH.cons (o:=⟨some 22,_,_,_,_,_⟩) rfl (fun K hK=>?_) AllReadyH.nil);go_simp;refine hK.out _ _ (hHeld) (fun hHeld=>?_);clear hK K;rotate_right 2
    all_goals refine wpAnyH_ready (rs:=[11]) (by kernel_rfl) (by simp) (AllReadyH.cons (o:=⟨some 32,_,_,_,_,_⟩) rfl (fun K hK=>?_) AllReadyH.nil)
    all_goals
     refine step_append_lies _ (by rfl) _ _ _ (by rfl) w2.heap.size 96 i0 _ 3 48 Tryz.underlying28 hi hz0 hz1' hz2 rfl (by omega) (.slice ak k ck) k _ (by rfl) ((own_below HO3.out zT).alloc _) ⟨w5.heap.size,0,none⟩ 1 1 [.string ⟨p.name.toArray⟩,.int .i64 p.base,.slice a5 p.clause.length c5] (by rfl) (by rfl) (World.news_of_block (cs:=#[.string ⟨p.name.toArray⟩,.int .i64 p.base,.slice a5 p.clause.length c5]) (t:=96) (fr:=(0,0)) (heap_alloc_new w5 _)) (by simp[Value.oneCell']) (by omega) (by unfold maxLen;omega) (by omega) (by have:=zT.size;simp;omega) (w5.heap.size+1) (by simp) ?_;intro gg cap6 w6 hown6 kU UC UD;have hY6:=gL ((own_below HO3.out zT).alloc _) kU ((Lib.alloc_old w5 _ Y (by have:=zT.size;omega)).trans hY5) (by decide);have hG6:=gL ((own_below HO3.out zT).alloc _) kU ((Lib.alloc_old w5 _ _ (by have:=zT.size;omega)).trans ((zT.block _ aeI).trans HG3.out)) (by decide);have r65:=(iD hY6).1.2.1;have z65:=(iD hY6).2.2.1;have al6:=(al5.trans (aQ.of (aj w5 _))).trans (aQ.grown kU fun b hb q=>aeG (by rw[← hb];exact q));have p3:=HS.out _ al6;have p3a:=fun v=>HS.out (w6.setCell ⟨Y,1,none⟩ v) (al6.trans (aQ.set v fun b hb=>by rw[hb];exact hne))
     refine hK.out _ _ (p3) (fun hHeld=>?_);clear hK K
    all_goals
     refine wpAnyH_take (i:=12) (oi:=⟨some 33,_,_,_,_,_⟩) (v:=?_) rfl (by kernel_rfl) (by kernel_rfl) (by kernel_rfl) (fun _ _ _ h=>h) (Or.inl ⟨by rfl,?_⟩) hHeld ?_;rotate_left
     ·intro w hSw;(try dsimp only at hSw);go_simp;try (with_reducible rfl)
     simp only[Act.put,List.setIfInBounds_toArray,List.set_cons_zero,List.set_cons_succ]
    all_goals refine wpAnyH_ready (rs:=[13]) (by kernel_rfl) (by simp) (AllReadyH.cons (o:=⟨none,_,_,_,_,_⟩) rfl (fun K hK=>?_) AllReadyH.nil)
    all_goals
     go_simp;refine hK.out _ _ (p3a _) (fun hHeld=>?_);clear hK K
    all_goals refine wpAnyH_done (by kernel_rfl) ?_ _
    all_goals
     have hx5:RowK (ZK YA) (fun b=>((P b∧b<w.heap.size)∨w2.heap.size≤b)∧some b≠(Value.slice ak k ck).ownBlock) w5 (.slice a5 p.clause.length c5) p.clause :=
      Ec HL2.out.1 (by rw[← HL2.out.2.1];exact aeJ) HL2.out.2.2.1 (aQ.of ((hbl.trans ((mO.trans (zT.mono hz3)).mono uL)))) (fun b hb _=>⟨.inr (by have h9:w3.heap.size≤b:=hb;omega),fun q=>by have h8:=(HO3.out.lt b q.symm).2;have h9:w3.heap.size≤b:=hb;omega⟩) (fun b hb hl=>⟨.inl ⟨hb,hl⟩,fun q=>by have h8:=(HO3.out.lt b q.symm).1;omega⟩)
     obtain⟨q1,q2,q3⟩:=oC.round (K:=D9) (Q:=fun b=>(P b∧b<w.heap.size)∨w2.heap.size≤b) (wr:=wr) (kv:=.slice ak k ck) (Tw:=.slice (some ⟨gg,0,none⟩) (k+1) cap6) (acc:=ps.take k) (a:=p) (x:=.slice a5 p.clause.length c5) (l:=IL) Yq.out.2.2.2 aeD (fun q=>by rcases q with q|q<;>omega) Yq.out.1 (by rw[Yq.out.2.2.1];rw[← HXS.out] at HOW;exact HOW.out) Yq.out.2.1 hx5 (mO.trans (zT.mono hz3)) (by rw[Yq.out.2.2.1,HXS.out];exact hown6) kU rfl UC 1 (.slice (some ⟨gg,0,none⟩) (k+1) cap6);rw[← HL2.out.2.2.2] at q1;have HE:=ah (And.intro (heap_setCell_same w6 Y 1 _ _ (.slice (some ⟨gg,0,none⟩) (k+1) cap6) hY6) (And.intro q1 (And.intro ((heap_setCell_other w6 ⟨Y,1,none⟩ (w.heap.size+1) (.slice (some ⟨gg,0,none⟩) (k+1) cap6) (by show w.heap.size+1≠Y;omega)).trans hG6) (And.intro (q3 w.heap.size w (by omega) hbl) q2))));clear q1 q2 q3 hx5;clear p3 p3a al6 al5 r65 z65 r52 r53 hY6 hG6 kU hown6 UC UD hY5 hb5 t0 t1 t2 t3 hHeld;go_wp2_with fail
     go_roundw
     case rel=>exact⟨k+1,some ⟨gg,0,none⟩,cap6,by omega,by go_num,HE.out.1,HE.out.2.1,HE.out.2.2.1,HE.out.2.2.2.1,HE.out.2.2.2.2⟩
     case measure=>simp[intOf];omega
   ·obtain rfl:k=ps.length:=by omega
    have oH:decide ((ps.length:Int)<(ps.length:Int))=false:=decide_eq_false (by omega);obtain⟨⟨t0,t1,t2,t3⟩,-⟩:=iD HYR.out;obtain⟨⟨c0,c1,c2,c3'⟩,f0,f1,f2,f3⟩:=iD Xf.out;have hP:=iB Xf.out (.string ⟨rn.toArray⟩) (.slice ak ps.length ck) (.int .i64 rb) (.slice a3 rl c3);have I5:=gH hbl (by omega:w.heap.size≤w.heap.size+1) (.string ⟨rn.toArray⟩) (.slice ak ps.length ck) (.int .i64 rb) (.slice a3 rl c3)
    have hSG:zJ (fun b=>(P b∧b<w.heap.size)∨w.heap.size≤b) (ny wr (w.heap.size+1) (.string ⟨rn.toArray⟩) (.slice ak ps.length ck) (.int .i64 rb) (.slice a3 rl c3)) (.slice ak ps.length ck) (.slice a3 rl c3) ps d.res.clause:=by
     have h7:=HQ.out;rw[List.take_length] at h7;refine⟨((h7.row (R:=fun b=>(P b∧b<w.heap.size)∨w2.heap.size≤b) (fun _ q=>.inr q) (fun _ q _=>q)).frame (yA _ _ _ _ fun k hk=>by rcases hk with hk|hk<;>omega)).imp fun b hb _=>by rcases hb with hb|hb;exact .inl hb;exact .inr (by omega),?_⟩
     have h81:lF (fun b=>(w1.heap.size≤b∧b≠Y)∧(b<w2.heap.size∧b≠Y)) w2 (.slice a3 rl c3) 8 rl cs:=HSL.out.imp fun b hb hl=>⟨hb,hl,hb.2⟩
     have h82:=h81.frame (w':=wr) ⟨Yq.out.2.2.2.1,fun b hb hl=>Yq.out.2.2.2.2 b hb.2 hl⟩
     have h8:lF (fun b=>w1.heap.size≤b∧b≠Y) wr (.slice a3 rl c3) 8 rl cs:=h82.imp fun b hb _=>hb.1
     have h9:RowK (ZK YA) (fun b=>(P b∧b<w.heap.size)∨w1.heap.size≤b) wr (.slice a3 rl c3) d.res.clause:=Ec (Q:=fun b=>w1.heap.size≤b∧b≠Y) HCS.out.1 (by rw[← HCS.out.2.1,HRN.out.2.2];exact h8) HCS.out.2.2 (aQ.of hbl) (fun b hb _=>.inr hb.1) (fun b hb hl=>.inl ⟨hb,hl⟩)
     exact(h9.frame (yA _ _ _ _ fun k hk=>by rcases hk with hk|hk<;>omega)).imp fun b hb _=>by rcases hb with hb|hb;exact .inl hb;exact .inr (by omega)
    have HSG:=ah hSG;clear hSG;have HP:=ah hP;have HB:=ah I5;clear hP I5 HYR Xf HO;go_wp2;change bodyPost _ _ _ _ _ (ny wr (w.heap.size+1) (.string ⟨rn.toArray⟩) (.slice ak ps.length ck) (.int .i64 rb) (.slice a3 rl c3));generalize ny wr _ _ _ _ _=w4 at *;obtain⟨⟨d0,d1,d2,d3⟩,-⟩:=iD HP.out;exact bodyPost_ret (v:=.agg #[.string ⟨rn.toArray⟩,.slice ak ps.length ck,.int .i64 rb,.slice a3 rl c3]) (by simp[results,Tryz.results13,go_sem,d0,d1,d2,d3]) rfl ⟨ak,ck,a3,c3,by rw[HRN.out.1,HRN.out.2.1,HRN.out.2.2,hps],by rw[hps,HRN.out.2.2];exact HSG.out,HB.out⟩
end Go.Proofs.YtknicmmigbhpcaaGreatDoor
