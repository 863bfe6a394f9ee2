/- Walks and plain laws: IntW, RdumpW. -/
import Derived.Test.YtemkhbmkaalgdaaGreatDoorQ29
import Derived.Lib.SlicesMore
set_option maxHeartbeats 16000000
set_option maxRecDepth 100000
namespace Go.Proofs.YtemkhbmkaalgdaaGreatDoor
open Go.RowKit Go
theorem digit_get:∀ k:Nat,k<10→∀ h:k<(ByteArray.mk #[48,49,50,51,52,53,54,55,56,57]).size,(ByteArray.mk #[48,49,50,51,52,53,54,55,56,57])[k]'h=UInt8.ofNat (48+k)
 | 0,_=>fun _=>rfl
 | 1,_=>fun _=>rfl
 | 2,_=>fun _=>rfl
 | 3,_=>fun _=>rfl
 | 4,_=>fun _=>rfl
 | 5,_=>fun _=>rfl
 | 6,_=>fun _=>rfl
 | 7,_=>fun _=>rfl
 | 8,_=>fun _=>rfl
 | 9,_=>fun _=>rfl
 | n+10,h=>absurd h (by omega)
theorem byteRow_text (W:World){base g cap n:Nat}{l:List UInt8}(hn:l.length=n)(h:W.ownsRow base 5 1 (.slice (some ⟨g,0,none⟩) n cap) n (Lib.byteCells l)) :
  (convert 100 9 (.slice (some ⟨g,0,none⟩) n cap)).run Tryz.prog W=.ok (.string ⟨l.toArray⟩) W:=by
 subst hn
 refine run_convert_bytes_back _ 100 9 5 ⟨g,0,none⟩ cap l Tryz.underlying100 Tryz.underlying5 Tryz.underlying9 (fun j hj=>?_)
 obtain ⟨ao,c,hv,_,hl,hc⟩:=Sl.ofOwns h
 obtain ⟨b,o,ha,_,hcell⟩:=hc (by omega)
 simp only [Value.slice.injEq] at hv
 rw [ha] at hv
 simp only [Option.some.injEq,Addr.mk.injEq] at hv
 obtain ⟨⟨rfl,rfl,-⟩,-,-⟩:=hv
 rw [show Addr.add ⟨g,0,none⟩ j=⟨g,0+j,none⟩ by unfold Addr.add;split <;> simp_all]
 have:=hcell j (by rw [hl];omega)
 rw [this]
 simp [Lib.byteCells]
theorem Wd.append {wr w3:World}{o:Obj}{v v' m:Value}{us:List Nat}{g:Nat}(h:Wd (fun b=>some b≠v.ownBlock) wr m us)(hg:(wr.alloc o).grownBy w3 v.ownBlock)(hat:v.ownBlock=some g∨g=wr.heap.size+1)(hv:v'.ownBlock=some g) :
  Wd (fun b=>some b≠v'.ownBlock) w3 m us:=by
 have h1:Wd (fun b=>some b≠v.ownBlock∧some b≠v'.ownBlock) wr m us:=SlP.imp h fun b hb hlt=>⟨hb,fun q=>by
  rw [hv] at q
  rcases hat with e|e
  ·exact hb (by rw [e,q])
  ·injection q;omega⟩
 have h2:Wd (fun b=>some b≠v.ownBlock∧some b≠v'.ownBlock) (wr.alloc o) m us:=SlP.frame h1 ⟨by simp,fun b _ hb=>Lib.alloc_old _ _ _ hb⟩
 exact SlP.imp (SlP.frame h2 (Alk.grown hg fun b hb=>hb.1)) fun b hb _=>hb.2
theorem zstr_zero (b:Bool)(am:Option Addr)(cm:Nat)(w:World) :
  Calls Tryz.prog 69 #[.agg #[.bool b,.slice am 0 cm]] w (StrPost [48] w):=by
 go_enter Tryz.func69,Tryz.ntmps69
 go_wp2
 go_ret
 exact ⟨rfl,(Below.refl _ _).alloc (Nat.le_refl _) _⟩
theorem bytesRow_eq (S:ByteArray)(c:Nat):bytesRow S c=(Lib.byteCells S.data.toList++List.replicate (c - S.size) (Value.int .u8 0)).toArray:=by
 apply Array.ext'
 simp [bytesRow,Lib.byteCells]
theorem cells_text (W:World){g cap n:Nat}{l:List UInt8}{rest:List Value}{T:TypeId}{fr:Nat × Nat}(hn:l.length=n)(h:W.heap[g]?=some (.cells (Lib.byteCells l++rest).toArray T fr)) :
  (convert 100 9 (.slice (some ⟨g,0,none⟩) n cap)).run Tryz.prog W=.ok (.string ⟨l.toArray⟩) W:=by
 subst hn
 refine run_convert_bytes_back _ 100 9 5 ⟨g,0,none⟩ cap l Tryz.underlying100 Tryz.underlying5 Tryz.underlying9 (fun j hj=>?_)
 rw [show Addr.add ⟨g,0,none⟩ j=⟨g,j,none⟩ by unfold Addr.add;split <;> simp_all,Lib.cell_of_heap h,List.getElem?_toArray,List.getElem?_append_left (by simpa [Lib.byteCells] using hj)]
 simp [Lib.byteCells,hj]
def ZIn (bx:Array Value)(w:World)(n:Nat)(l:List UInt8)(v m:Value)(us:List Nat)(wr:World):Prop :=
 Wd (fun b=>some b≠v.ownBlock) wr m us∧wr.ownsRow w.heap.size 5 1 v n (Lib.byteCells l)∧Below w.heap.size w wr∧wr.heap[w.heap.size]?=some (.cells bx 37 (0,0))
def ZDig (bx:Array Value)(w:World)(n:Nat)(l:List UInt8)(r:Nat)(m:Value)(us:List Nat)(v q c:Value)(wr:World):Prop :=
 ∃ i:Nat,i≤9∧c=.int .i64 i∧q=.int .u64 ((r / 10 ^ i:Nat):Int)∧ZIn bx w (n+i) (l++lowD i r) v m us wr
def ZRound (bx:Array Value)(w:World)(N j:Nat)(v m:Value)(us:List Nat)(wr:World):Prop :=
 trimW us=us∧(∀ x∈us,x<4294967296)∧magV us=N / 10 ^ (9 * j)∧Wd (fun b=>some b≠v.ownBlock) wr m us∧wr.ownsRow w.heap.size 5 1 v (9 * j) (Lib.byteCells (lowD (9 * j) N))∧Below w.heap.size w wr∧wr.heap[w.heap.size]?=some (.cells bx 37 (0,0))
def ZStr (bx:Array Value)(w:World)(k N:Nat)(v m:Value)(wr:World):Prop:=∃ j us am cm,j+k=7∧m=.slice am us.length cm∧ZRound bx w N j v m us wr
theorem zstr_pos (P:Nat→Prop)(am:Option Addr)(cm:Nat)(n:Int)(ws:List Nat)(w:World)(h:Wd P w (.slice am ws.length cm) ws)(ht:trimW ws=ws)(hw:∀ x∈ws,x<4294967296)(hv:magV ws=n.natAbs)(hn:n.natAbs<10 ^ 60)(h0:0<ws.length) :
  Calls Tryz.prog 69 #[.agg #[.bool (decide (n<0)),.slice am ws.length cm]] w (StrPost (intF n) w):=by
 obtain ⟨i0,hi,hz0,hz1,hz2⟩:=info_parts Tryz.infoByte
 have hN0:0<n.natAbs:=by rw [← hv];exact trimW_pos ht (by intro q;rw [q] at h0;simp at h0)
 have h7:ws.length≤7:=magV_few ws 7 ht (by rw [hv];exact Nat.lt_trans hn (by decide))
 have HT:=Lib.hid (show n≠0 by omega)
 have HS:Hid (ZStr #[.bool (decide (n<0)),.slice am ws.length cm] w 7 n.natAbs (.slice none 0 0) (.slice am ws.length cm) (w.alloc (.cells #[.bool (decide (n<0)),.slice am ws.length cm] 37))):=Lib.hid ⟨0,ws,am,cm,rfl,rfl,ht,hw,by rw [hv];simp,SlP.imp (SlP.frame h ⟨by simp,fun b _ hb=>Lib.alloc_old _ _ _ hb⟩) (fun b _ _ q=>by cases q),World.ownsRow_nil _ _ _ _,(Below.refl _ _).alloc (Nat.le_refl _) _,heap_alloc_new w _⟩
 have HN:=Lib.hid hn
 have hwl:(0:Int)<(ws.length:Int):=by omega
 have hwn:((ws.length:Int) == 0)=false:=beq_eq_false_iff_ne.2 (by omega)
 clear h ht hw hv hn hN0
 generalize hng:decide (n<0)=ng at *
 have HNG:=Lib.hid hng
 clear hng
 go_enter Tryz.func69,Tryz.ntmps69
 go_upto_region 5 with fail
 go_loopg [3,4] 7 (fun k v m wr=>ZStr #[.bool ng,.slice am ws.length cm] w k n.natAbs v m wr)
 case atStart=>exact HS.out
 case round =>
  obtain ⟨j,us,au,cu,hjk,rfl,ht,hw,hm,hwd,hrow,hbl,hbx⟩:=hrel
  obtain ⟨v,rfl⟩:∃ v:Value,v=u3:=⟨_,rfl⟩
  obtain ⟨w1,rfl⟩:∃ w1:World,w1=wr:=⟨_,rfl⟩
  have hz:=hbl.size
  by_cases hu:us.length=0
  ·have hu':=List.length_eq_zero_iff.1 hu
   subst hu'
   have hlt:n.natAbs<10 ^ (9 * j):=by
    rw [magV] at hm
    exact (Nat.div_eq_zero_iff_lt (Nat.pow_pos (by omega))).1 hm.symm
   have HTX:=Lib.hid (int_text n (9 * j) HT.out hlt)
   have htl:=trim_len (lowD (9 * j) n.natAbs)
   rw [lowD_len] at htl
   have hll:=lowD_len (9 * j) n.natAbs
   have h9j:0<9 * j:=by
    rcases Nat.eq_zero_or_pos j with q|q
    ·subst q;simp at hlt;have:=HT.out;omega
    ·omega
   obtain ⟨g,cap,rfl⟩:=row_form hrow h9j
   have hcv:=byteRow_text w1 hll hrow
   have bx0:w1.cell? ⟨w.heap.size,0,none⟩=some (.bool ng):=by rw [Lib.cell_of_heap hbx];rfl
   have HTR:=Lib.hid (Tryz.strings_TrimRight_one ⟨(lowD (9 * j) n.natAbs).toArray⟩ 48 (by decide) w1 (by rw [← size_list];simp [hll];omega))
   simp only [trim_right] at HTR
   generalize lowD (9 * j) n.natAbs=l at htl hll hcv HTX HTR hrow
   obtain ⟨TZ,hTZ,eTZ⟩:=bytes_of (trimZ l)
   rw [eTZ] at HTR
   have HTZ:=Lib.hid hTZ
   have htz:TZ.size≤9 * j:=by rw [← size_list,hTZ];exact htl
   have hcb:=fun (W:World) (S:ByteArray)=>run_bytes_of_string (P:=Tryz.prog) W 9 100 5 S Tryz.underlying9 Tryz.underlying100 Tryz.underlying5
   have HBL:=Lib.hid hbl
   clear hTZ eTZ htl hll hwd hrow ht hw hm hlt hbl
   go_upto_if 37 with (go_at_call 101;refine HTR.out.mono ?_;rintro e w2 ⟨rfl,hww⟩;obtain rfl:w1=w2:=hww.symm)
   go_cut [6] (fun s wc=>∃ S:ByteArray,s=.string S∧S.data.toList.reverse=intF n∧S.size≤70∧wc=w1)
   case first =>
    cases ng with
    | true =>
     have hn0:=of_decide_eq_true HNG.out
     have HR:Hid ((trimZ l++[45]).reverse=intF n):=Lib.hid (by have:=HTX.out;rw [if_pos hn0] at this;exact this)
     clear hn0
     go_wp2
     go_meet
     exact ⟨_,rfl,by rw [append_list,HTZ.out,← HR.out],by simp [ByteArray.size_append];show TZ.size+1≤70;omega,rfl⟩
    | false =>
     have hn0:=of_decide_eq_false HNG.out
     have HR:Hid ((trimZ l).reverse=intF n):=Lib.hid (by have:=HTX.out;rw [if_neg hn0,List.append_nil] at this;exact this)
     clear hn0
     go_wp2
     go_meet
     exact ⟨TZ,rfl,by rw [HTZ.out,HR.out],by omega,rfl⟩
   case rest =>
    obtain ⟨S,rfl,hS,hSz,rfl⟩:=hcut
    obtain ⟨wo,rfl⟩:∃ wo:World,wo=wc:=⟨_,rfl⟩
    have HSS:=Lib.hid hS
    have hcS:=hcb wo S
    rw [bytesRow_eq] at hcS
    have hnew:=heap_alloc_new wo.drew (.cells (Lib.byteCells S.data.toList++List.replicate (grownCap wo S.size 0 5 - S.size) (Value.int .u8 0)).toArray 5 ((Lib.byteCells S.data.toList++List.replicate (grownCap wo S.size 0 5 - S.size) (Value.int .u8 0)).toArray.size,(Lib.byteCells S.data.toList++List.replicate (grownCap wo S.size 0 5 - S.size) (Value.int .u8 0)).toArray.size+1))
    have hbn:=below_new wo.drew (.cells (Lib.byteCells S.data.toList++List.replicate (grownCap wo S.size 0 5 - S.size) (Value.int .u8 0)).toArray 5 ((Lib.byteCells S.data.toList++List.replicate (grownCap wo S.size 0 5 - S.size) (Value.int .u8 0)).toArray.size,(Lib.byteCells S.data.toList++List.replicate (grownCap wo S.size 0 5 - S.size) (Value.int .u8 0)).toArray.size+1))
    have hfz:S.data.toList.length≤((Lib.byteCells S.data.toList++List.replicate (grownCap wo S.size 0 5 - S.size) (Value.int .u8 0)).toArray.size,(Lib.byteCells S.data.toList++List.replicate (grownCap wo S.size 0 5 - S.size) (Value.int .u8 0)).toArray.size+1).1:=by simp [Lib.byteCells]
    generalize List.replicate (grownCap wo S.size 0 5 - S.size) (Value.int .u8 0)=rest at *
    generalize ((Lib.byteCells S.data.toList++rest).toArray.size,(Lib.byteCells S.data.toList++rest).toArray.size+1)=fr at *
    generalize grownCap wo S.size 0 5=cp at *
    generalize wo.drew.alloc _=w5 at hcS hnew hbn
    have hrv:=byteRev_any wo.heap.size cp S.data.toList rest fr w5 hnew hfz (by rw [size_list];omega)
    rw [size_list] at hrv
    have HRV:=Lib.hid hrv
    clear hcb hrv hnew hfz hS hcv bx0
    go_wp2_with (go_at_call 102;refine HRV.out.mono ?_;rintro e w6 ⟨rfl,hh6,hs6,ho6,hb6⟩;have hct:=cells_text (cap:=cp) (n:=S.size) w6 (by simp) hh6)
    go_ret
    exact ⟨by rw [HSS.out];rfl,(HBL.out.drew.trans (hbn.mono hz)).trans (hb6.mono hz)⟩
  ·have hul:(0:Int)<(us.length:Int):=by omega
   have hmp:=trimW_pos ht (by intro q;rw [q] at hu;exact hu rfl)
   have hj6:j≤6:=by
    rcases Nat.lt_or_ge 6 j with q|q
    ·obtain rfl:j=7:=by omega
     rw [Nat.div_eq_of_lt (Nat.lt_trans HN.out (by decide))] at hm
     omega
    ·exact q
   have hfew:us.length≤7:=magV_few us 7 ht (by rw [hm];exact Nat.lt_of_le_of_lt (Nat.div_le_self _ _) (Nat.lt_trans HN.out (by decide)))
   have HSH:=Lib.hid (zshort_any _ au cu us 1000000000 w1 hwd hw (by omega) (by omega) (by omega))
   obtain ⟨hd1,hd2⟩:=short_div us n.natAbs (9 * j) hm
   have hr9:=shortF_rest 1000000000 (by omega) us
   have htr:=trimW_idem (shortF 1000000000 us).1
   have hlt2:∀ x∈trimW (shortF 1000000000 us).1,x<4294967296:=fun x hx=>shortF_lt 1000000000 (by omega) us hw x (trimW_mem _ _ hx)
   have hlow:=lowD_nine (9 * j) n.natAbs
   rw [← hd2] at hlow
   have HLW:=Lib.hid hlow
   have HM:=Lib.hid (show trimW (trimW (shortF 1000000000 us).1)=trimW (shortF 1000000000 us).1∧(∀ x∈trimW (shortF 1000000000 us).1,x<4294967296)∧magV (trimW (shortF 1000000000 us).1)=n.natAbs / 10 ^ (9 * (j+1)) from ⟨htr,hlt2,by rw [hd1,Nat.mul_add]⟩)
   unfold ShortPost at HSH
   generalize (shortF 1000000000 us).2=r at HSH hr9 HLW
   generalize trimW (shortF 1000000000 us).1=us2 at HSH HM
   generalize lowD (9 * j) n.natAbs=l at hrow HLW
   clear hwd hw ht hm hmp hd1 hd2 htr hlt2 hlow
   go_upto_region 8 with (go_at_call 100;refine HSH.out.mono ?_;rintro e w2 ⟨c2,rfl,hwd2,hb2⟩)
   have hzb2:=hb2.size
   have hown:∀ q,v.ownBlock=some q→w.heap.size≤q∧q<w1.heap.size:=fun q hq=>hrow.lt q hq
   have HI:Hid (ZDig #[.bool ng,.slice am ws.length cm] w (9 * j) l r (.slice (some ⟨w1.heap.size,0,none⟩) us2.length c2) us2 v (.int .u64 (r:Int)) (.int .i64 (0:Nat)) w2):=Lib.hid ⟨0,by omega,rfl,by simp,SlP.imp hwd2 (fun b hb _ q=>by have:=(hown b q.symm).2;omega),by simpa [lowD] using own_below hrow hb2,hbl.trans (hb2.mono hz),(hb2.block _ (Array.getElem?_eq_some_iff.1 hbx).1).trans hbx⟩
   clear hown hrow hwd2 hb2 hbl hbx
   go_wp2
   go_loopw [3,5,22] (fun v q c W=>ZDig #[.bool ng,.slice am ws.length cm] w (9 * j) l r (.slice (some ⟨w1.heap.size,0,none⟩) us2.length c2) us2 v q c W) (fun _ _ c _=>9 - (intOf c).toNat)
   case atStart=>exact HI.out
   case round =>
    obtain ⟨i,hi9,rfl,rfl,hwd,hrow,hbl,hbx⟩:=hrel
    have hzW:=hbl.size
    by_cases hlt:i<9
    ·have hq9:r / 10 ^ i<1000000000:=Nat.lt_of_le_of_lt (Nat.div_le_self _ _) hr9
     have hsn:=lowD_snoc i r
     have hdv:r / 10 ^ (i+1)=r / 10 ^ i / 10:=by rw [Nat.pow_succ,Nat.div_div_eq_div_mul]
     have HDV:=Lib.hid hdv
     have HSN:=Lib.hid hsn
     generalize r / 10 ^ i=q at hq9 HDV HSN ⊢
     have hix:=digit_get (q % 10) (by omega)
     generalize UInt8.ofNat (48+q % 10)=c at hix HSN
     have hiI:(i:Int)<9:=by omega
     clear hsn hdv
     go_wp2_with (at_builtin;refine wpList_append_lies _ rfl _ _ 100 rfl w.heap.size 5 i0 (.int .u8 0) 1 1 Tryz.underlying100 hi hz0 hz1 hz2 rfl (by decide) _ (9 * j+i) _ rfl (hrow.alloc _) ⟨wr.heap.size,0,none⟩ 1 1 [.int .u8 (c.toNat:Int)] rfl rfl ?c1 ?c2 ?c3 ?c4 ?c5 ?c6 _ rfl ?_)
     case c1 =>
      intro j' u hj'
      exact World.news_of_block (cs:=#[.int .u8 (c.toNat:Int)]) (t:=5) (fr:=(0,0)) (heap_alloc_new wr _) j' u (by simpa using hj')
     case c2=>simp [Value.oneCell']
     case c3=>omega
     case c4=>unfold maxLen;omega
     case c5=>omega
     case c6=>simp;omega
     intro g cap w3 hown3 hgrow3 hat3 hlt3
     have hwd3:=Wd.append (v':=.slice (some ⟨g,0,none⟩) (9 * j+i+1) cap) hwd hgrow3 (by simpa using hat3) rfl
     have hb3:Below w.heap.size w w3:=(hbl.alloc hzW _).grown hgrow3 (by simp;omega) (fun q hq=>by have:=(hrow.lt q hq).1;omega)
     have HIN:Hid (ZIn #[.bool ng,.slice am ws.length cm] w (9 * j+(i+1)) (l++lowD (i+1) r) (.slice (some ⟨g,0,none⟩) (9 * j+i+1) cap) (.slice (some ⟨w1.heap.size,0,none⟩) us2.length c2) us2 w3):=Lib.hid ⟨hwd3,by rw [HSN.out,← List.append_assoc,Lib.byteCells_append];exact hown3,hb3,own_block (hrow.alloc _) hgrow3 ((Lib.alloc_old _ _ _ (Array.getElem?_eq_some_iff.1 hbx).1).trans hbx) (by decide)⟩
     clear hwd3 hb3 hown3 hgrow3 hat3 hlt3 hwd hrow hbl hix hbx
     go_wp2
     exact ⟨⟨i+1,by omega,by go_num,by rw [HDV.out];exact val_int (by omega),HIN.out⟩,by simp [intOf];omega⟩
    ·obtain rfl:i=9:=by omega
     have HO:Hid (ZRound #[.bool ng,.slice am ws.length cm] w n.natAbs (j+1) u3 (.slice (some ⟨w1.heap.size,0,none⟩) us2.length c2) us2 wr):=Lib.hid ⟨HM.out.1,HM.out.2.1,HM.out.2.2,hwd,by rw [Nat.mul_add,HLW.out];exact hrow,hbl,hbx⟩
     clear hwd hrow hbl hbx
     go_wp2
     go_roundg (6 - j)
     case measure=>omega
     case rel=>exact ⟨j+1,us2,_,c2,by omega,rfl,HO.out⟩
theorem zstr_any (P:Nat→Prop)(am:Option Addr)(wn cm:Nat)(n:Int)(w:World)(h:NumAt P w n (.slice am wn cm))(hn:n.natAbs<10 ^ 60) :
  Calls Tryz.prog 69 #[.agg #[.bool (decide (n<0)),.slice am wn cm]] w (StrPost (intF n) w):=by
 obtain ⟨ws,h1,h2,h3,h4⟩:=h
 obtain ⟨ao,cap,hv⟩:=h1.form
 simp only [Value.slice.injEq] at hv
 obtain ⟨rfl,rfl,rfl⟩:=hv
 by_cases h0:ws.length=0
 ·have hw:=List.length_eq_zero_iff.1 h0
  subst hw
  have hz:n=0:=by rw [magV] at h4;omega
  subst hz
  have e:intF 0=[48]:=by
   have:=intF_nat 0
   rw [show ((0:Nat):Int)=0 from rfl] at this
   rw [this,decF,dif_pos (by omega)]
   rfl
  rw [e]
  exact zstr_zero _ _ _ _
 ·exact zstr_pos P _ _ n ws w h1 h2 h3 h4 hn (by omega)
theorem PE.dumpT_def (e:PE):e.dumpT=headF e.op e.name e.module e.txt e.yes++dumpTE e.kids++[93]:=by cases e;rfl
theorem PE.dump_def (e:PE):e.dump=headF e.op e.name e.module (intF e.num) e.yes++dumpE e.kids++[93]:=by cases e;rfl
theorem dumpTE_append:∀ (a b:List PE),dumpTE (a++b)=dumpTE a++dumpTE b
 | [],b=>by simp [dumpTE]
 | e :: a,b=>by simp only [List.cons_append,dumpTE,dumpTE_append a b,List.append_assoc]
theorem dumpE_append:∀ (a b:List PE),dumpE (a++b)=dumpE a++dumpE b
 | [],b=>by simp [dumpE]
 | e :: a,b=>by simp only [List.cons_append,dumpE,dumpE_append a b,List.append_assoc]
mutual
def PE.opsOk:PE→Prop
 | .mk op _ _ _ _ _ kids _=>op<100∧opsOkE kids
def opsOkE:List PE→Prop
 | []=>True
 | e :: l=>e.opsOk∧opsOkE l
end
theorem opsOkE_mem:∀ {l:List PE} {e:PE},opsOkE l→e∈l→e.opsOk
 | x :: l,e,h,hm=>by
  rw [opsOkE] at h
  rcases List.mem_cons.1 hm with rfl|hm
  ·exact h.1
  ·exact opsOkE_mem h.2 hm
theorem PE.opsOk.opsOk_def {e:PE}(h:e.opsOk):e.op<100∧opsOkE e.kids:=by cases e;rw [PE.opsOk] at h;exact h
theorem empty_no {s:ByteArray}(h:s.data.toList≠[]):s.toList.isEmpty=false:=by
 rw [isEmpty_size]
 refine decide_eq_false fun q=>h ?_
 rw [← size_list] at q
 exact List.length_eq_zero_iff.1 q
theorem empty_yes {s:ByteArray}(h:s.data.toList=[]):s.toList.isEmpty=true:=by
 rw [isEmpty_size]
 refine decide_eq_true ?_
 rw [← size_list,h]
 rfl
def nameF (nm md:List UInt8):List UInt8:=if md≠[] then [32]++md++[46]++nm else if nm≠[] then [32]++nm else []
def numTF (op:Nat)(tx:List UInt8):List UInt8:=if op=1 then [32]++tx else []
def yesF (op:Nat)(ys:Bool):List UInt8:=if op=2 then (if ys=true then [32,116,114,117,101] else [32,102,97,108,115,101]) else []
theorem nameF_md {nm md:List UInt8}(h:md≠[]):nameF nm md=[32]++md++[46]++nm:=by rw [nameF,if_pos h]
theorem nameF_nm {nm md:List UInt8}(h:md=[])(hn:nm≠[]):nameF nm md=[32]++nm:=by rw [nameF,if_neg (by simp [h]),if_pos hn]
theorem nameF_no {nm md:List UInt8}(h:md=[])(hn:nm=[]):nameF nm md=[]:=by rw [nameF,if_neg (by simp [h]),if_neg (by simp [hn])]
theorem head_parts (op:Nat)(nm md tx:List UInt8)(ys:Bool):headF op nm md tx ys=[91]++decF op++nameF nm md++numTF op tx++yesF op ys:=rfl
def boxR (op:Nat)(NM MD TX:ByteArray)(ys:Bool)(kv:Value)(a_:Nat):Array Value:=#[.int .i64 op,.string NM,.string MD,.string TX,.bool ys,kv,.int .i64 a_]
theorem boxR_cells {w:World}{b op:Nat}{NM MD TX:ByteArray}{ys:Bool}{kv:Value}{a_:Nat}(h:w.heap[b]?=some (.cells (boxR op NM MD TX ys kv a_) 78 (0,0))) :
  w.cell? ⟨b,0,none⟩=some (.int .i64 op)∧w.cell? ⟨b,1,none⟩=some (.string NM)∧w.cell? ⟨b,2,none⟩=some (.string MD)∧w.cell? ⟨b,3,none⟩=some (.string TX)∧w.cell? ⟨b,4,none⟩=some (.bool ys)∧w.cell? ⟨b,5,none⟩=some kv:=by
 refine ⟨?_,?_,?_,?_,?_,?_⟩ <;> (rw [Lib.cell_of_heap h];rfl)
def RdDoes (e:PE):Prop:=∀ (B:Nat) (m:Value) (ae:Option Addr) (ce:Nat) (w:World),EAt XR (fun b=>b<B) w m (.slice ae e.kids.length ce) e→B≤w.heap.size→e.size≤1099511627776→e.dumpT.length≤1099511627776 →
  Calls Tryz.prog 43 #[.agg #[.int .i64 e.op,.string ⟨e.name.toArray⟩,.string ⟨e.module.toArray⟩,.string ⟨e.txt.toArray⟩,.bool e.yes,.slice ae e.kids.length ce,.int .i64 e.at_]] w (StrPost e.dumpT w)
def RdAll (ks:List PE):Prop:=∀ x∈ks,RdDoes x
theorem rdump_step (e:PE)(hop:e.op<100)(IH:RdAll e.kids):RdDoes e:=by
  intro B m ae ce w h hB hz hdl
  have hdef:=e.size_def
  have hdd:=e.dumpT_def
  obtain ⟨hnum,ae',ce',hv,hcap,hf⟩:=h.form
  simp only [Value.slice.injEq] at hv
  obtain ⟨rfl,-,rfl⟩:=hv
  have hfew:=sizeE_few e.kids
  have hkl:e.kids.length≤1099511627776:=by omega
  have hzk:sizeE e.kids+1≤1099511627776:=by omega
  have HDG:=Lib.hid (fun W=>digits_any e.op W hop)
  rw [head_parts] at hdd
  clear hnum hf hdef hz hop
  have HE:=Lib.hid h
  clear h
  generalize decF e.op=dg at HDG hdd
  generalize e.op=op at *
  generalize e.name=nm at *
  generalize e.module=md at *
  generalize e.txt=tx at *
  generalize e.yes=ys at *
  generalize e.at_=a_ at *
  generalize e.dumpT=out at *
  generalize hkk:e.kids=ks at *
  obtain ⟨NM,rfl,eN⟩:=bytes_of nm
  obtain ⟨MD,rfl,eM⟩:=bytes_of md
  obtain ⟨TX,rfl,eT⟩:=bytes_of tx
  obtain ⟨DG,rfl,eD⟩:=bytes_of dg
  have HDG:Hid (∀ W,Calls Tryz.prog 67 #[.int .i64 op] W fun r w'=>r=.returned (.string DG)∧Below W.heap.size W w'):=Lib.hid fun W=>(HDG.out W).mono fun r w' h=>⟨by rw [h.1,eD],h.2⟩
  rw [eN,eM,eT]
  have hln:=congrArg List.length hdd
  simp only [List.length_append,size_list,List.length_cons,List.length_nil] at hln
  have e0:=heap_alloc_new w (.cells (boxR op NM MD TX ys (.slice ae ks.length ce) a_) 78)
  have hbb:=below_new w (.cells (boxR op NM MD TX ys (.slice ae ks.length ce) a_) 78)
  have HDD:=Lib.hid hdd
  have hbd:DG.size+(nameF NM.data.toList MD.data.toList).length+(numTF op TX.data.toList).length+(yesF op ys).length+(dumpTE ks).length+2≤1099511627776:=by omega
  clear hdd hln hdl eN eM eT eD
  go_enter Tryz.func43,Tryz.ntmps43
  have hq:∀ w3,Below (w.alloc (.cells (boxR op NM MD TX ys (.slice ae ks.length ce) a_) 78)).heap.size (w.alloc (.cells (boxR op NM MD TX ys (.slice ae ks.length ce) a_) 78)) w3→w3.heap[w.heap.size]?=some (.cells (boxR op NM MD TX ys (.slice ae ks.length ce) a_) 78 (0,0))∧Below w.heap.size w w3:=fun w3 hb=>⟨(hb.block w.heap.size (by simp)).trans e0,hbb.trans (hb.mono (by simp))⟩
  have HQ:=Lib.hid hq
  clear hq e0 hbb
  go_upto_region 2 with (go_at_call 67;refine (HDG.out _).mono ?_;rintro e w3 ⟨rfl,hb3⟩)
  obtain ⟨hbx,hbl⟩:=HQ.out w3 hb3
  clear hb3 HQ HDG
  obtain ⟨y0,y1,y2,y3,y4,y5⟩:=boxR_cells hbx
  have hS0:((ByteArray.mk #[91])++DG).data.toList=[91]++DG.data.toList:=by simp
  have hS0z:((ByteArray.mk #[91])++DG).size=1+DG.size:=by rw [← size_list,hS0];simp;omega
  generalize (ByteArray.mk #[91])++DG=S0 at hS0 hS0z ⊢
  go_upto_if 11 with fail
  generalize ht:(!MD.toList.isEmpty)=t
  go_cut [3] (fun s wc=>∃ S:ByteArray,s=.string S∧S.data.toList=[91]++DG.data.toList++nameF NM.data.toList MD.data.toList∧wc=w3)
  case first =>
   cases t with
   | false =>
    have hm:MD.data.toList=[]:=Classical.byContradiction fun q=>by rw [empty_no q] at ht;cases ht
    clear ht
    by_cases hn:NM.data.toList=[]
    ·have hne:=empty_yes hn
     have HN:=Lib.hid (nameF_no hm hn)
     clear hm hn
     go_wp2
     go_meet
     exact ⟨S0,rfl,by rw [hS0,HN.out,List.append_nil],rfl⟩
    ·have hne:=empty_no hn
     have HN:=Lib.hid (nameF_nm hm hn)
     clear hm hn
     rw [HN.out] at hbd
     simp only [List.length_append,size_list,List.length_cons,List.length_nil] at hbd
     go_wp2
     go_meet
     exact ⟨_,rfl,by rw [append_list,append_list,hS0,HN.out],rfl⟩
   | true =>
    have hm:MD.data.toList≠[]:=fun q=>by rw [empty_yes q] at ht;cases ht
    have HN:=Lib.hid (nameF_md (nm:=NM.data.toList) hm)
    rw [HN.out] at hbd
    simp only [List.length_append,size_list,List.length_cons,List.length_nil] at hbd
    clear hm ht
    go_wp2
    go_meet
    exact ⟨_,rfl,by rw [append_list,append_list,append_list,append_list,hS0,HN.out],rfl⟩
  case rest =>
   obtain ⟨S1,rfl,hS1,rfl⟩:=hcut
   have hz1:S1.size=1+DG.size+(nameF NM.data.toList MD.data.toList).length:=by rw [← size_list,hS1];simp;omega
   obtain ⟨wo,rfl⟩:∃ wo:World,wo=wc:=⟨_,rfl⟩
   clear hS0 hS0z ht S0
   go_upto_if 31 with fail
   generalize ht1:((op:Int) == 1)=t1
   go_cut [3] (fun s wc=>∃ S:ByteArray,s=.string S∧S.data.toList=[91]++DG.data.toList++nameF NM.data.toList MD.data.toList++numTF op TX.data.toList∧wc=wo)
   case first =>
    cases t1 with
    | true =>
     have HN:Hid (numTF op TX.data.toList=[32]++TX.data.toList):=Lib.hid (by rw [numTF,if_pos (by have:=eq_of_beq ht1;omega)])
     rw [HN.out] at hbd
     simp only [List.length_append,size_list,List.length_cons,List.length_nil] at hbd
     clear ht1
     go_wp2
     go_meet
     exact ⟨_,rfl,by rw [append_list,append_list,hS1,HN.out],rfl⟩
    | false =>
     have HN:Hid (numTF op TX.data.toList=[]):=Lib.hid (by rw [numTF,if_neg (fun q=>by rw [q] at ht1;cases ht1)])
     clear ht1
     go_wp2
     go_meet
     exact ⟨S1,rfl,by rw [hS1,HN.out,List.append_nil],rfl⟩
   case rest =>
    obtain ⟨S2,rfl,hS2,rfl⟩:=hcut
    have hz2:S2.size=1+DG.size+(nameF NM.data.toList MD.data.toList).length+(numTF op TX.data.toList).length:=by rw [← size_list,hS2];simp;omega
    obtain ⟨wo,rfl⟩:∃ wo:World,wo=wc:=⟨_,rfl⟩
    clear hS1 hz1 ht1 S1
    have hyl:(yesF op ys).length≤6:=by unfold yesF;split <;> (try split) <;> simp
    go_upto_region 8 with fail
    go_cut [43] (fun t wc=>t=.bool (decide (op=2) && ys)∧wc=wo)
    case first =>
     by_cases h2:op=2
     ·subst h2
      go_wp2
      go_meet
      exact ⟨by simp,rfl⟩
     ·have h2I:((op:Int) == 2)=false:=by simp;omega
      have HH2:=Lib.hid h2
      clear h2
      go_wp2
      go_meet
      exact ⟨by simp [HH2.out],rfl⟩
    case rest =>
    obtain ⟨rfl,rfl⟩:=hcut
    obtain ⟨wo,rfl⟩:∃ wo:World,wo=wc:=⟨_,rfl⟩
    generalize ht2:(decide (op=2) && ys)=t2
    go_upto_if 43 with fail
    go_cut [3] (fun s wc=>∃ S:ByteArray,s=.string S∧S.data.toList=S2.data.toList++(if t2=true then [32,116,114,117,101] else [])∧wc=wo)
    case first =>
     cases t2 with
     | true =>
      clear ht2
      go_wp2
      go_meet
      exact ⟨_,rfl,by rw [append_list];simp,rfl⟩
     | false =>
      clear ht2
      go_wp2
      go_meet
      exact ⟨S2,rfl,by simp,rfl⟩
    case rest =>
     obtain ⟨S3,rfl,hS3,rfl⟩:=hcut
     have hz3:S3.size≤S2.size+5:=by
      rw [← size_list,hS3,List.length_append,size_list]
      split <;> simp
     obtain ⟨wo,rfl⟩:∃ wo:World,wo=wc:=⟨_,rfl⟩
     go_upto_region 10 with fail
     go_cut [53] (fun t wc=>t=.bool (decide (op=2) && !ys)∧wc=wo)
     case first =>
      by_cases h2:op=2
      ·subst h2
       clear ht2
       go_wp2
       go_meet
       exact ⟨by simp,rfl⟩
      ·have h2I:((op:Int) == 2)=false:=by simp;omega
       have HH2:=Lib.hid h2
       clear h2 ht2
       go_wp2
       go_meet
       exact ⟨by simp [HH2.out],rfl⟩
     case rest =>
     obtain ⟨rfl,rfl⟩:=hcut
     obtain ⟨wo,rfl⟩:∃ wo:World,wo=wc:=⟨_,rfl⟩
     generalize ht3:(decide (op=2) && !ys)=t3
     have HY:Hid ((if t2=true then [32,116,114,117,101] else [])++(if t3=true then [32,102,97,108,115,101] else [])=yesF op ys):=Lib.hid (by
      rw [← ht2,← ht3,yesF]
      by_cases h3:op=2
      ·cases ys <;> simp [h3]
      ·simp [h3])
     go_upto_if 53 with fail
     go_cut [3] (fun s wc=>∃ S:ByteArray,s=.string S∧S.data.toList=S2.data.toList++yesF op ys∧wc=wo)
     case first =>
      cases t3 with
      | true =>
       clear ht2 ht3
       go_wp2
       go_meet
       exact ⟨_,rfl,by rw [append_list,hS3,← HY.out];simp,rfl⟩
      | false =>
       clear ht2 ht3
       go_wp2
       go_meet
       exact ⟨S3,rfl,by rw [hS3,← HY.out];simp,rfl⟩
     case rest =>
      obtain ⟨S4,rfl,hS4,rfl⟩:=hcut
      have hh:S4.data.toList=[91]++DG.data.toList++nameF NM.data.toList MD.data.toList++numTF op TX.data.toList++yesF op ys:=by rw [hS4,hS2]
      rw [← hh] at HDD
      have hz4:S4.size=1+DG.size+(nameF NM.data.toList MD.data.toList).length+(numTF op TX.data.toList).length+(yesF op ys).length:=by rw [← size_list,hh];simp;omega
      have hbd4:S4.size+(dumpTE ks).length+1≤1099511627776:=by omega
      obtain ⟨wo,rfl⟩:∃ wo:World,wo=wc:=⟨_,rfl⟩
      clear hS2 hz2 hS3 hz3 hS4 hz4 hh hbd hyl ht2 ht3 HY S2 S3 y0 y1 y2 y3 y4
      go_wp2
      go_loopw [3,4] (fun v q wr=>∃ (k:Nat) (S:ByteArray),k≤ks.length∧q=.int .i64 k∧v=.string S∧S.data.toList=S4.data.toList++dumpTE (ks.take k)∧wr.heap[w.heap.size]?=some (.cells (boxR op NM MD TX ys (.slice ae ks.length ce) a_) 78 (0,0))∧Below w.heap.size w wr) (fun _ q _=>ks.length - (intOf q).toNat)
      case atStart=>exact ⟨0,S4,Nat.zero_le _,rfl,rfl,by simp [dumpTE],hbx,hbl⟩
      case round =>
       obtain ⟨k,S,hk,rfl,rfl,hS,hbx,hbl⟩:=hrel
       have hw:=hbl.size
       obtain ⟨-,-,-,-,-,c5⟩:=boxR_cells hbx
       have hsl:S.size=S4.size+(dumpTE (ks.take k)).length:=by rw [← size_list,hS,List.length_append,size_list]
       have hspl:=dumpTE_append (ks.take k) (ks.drop k)
       rw [List.take_append_drop] at hspl
       by_cases hlt:k<ks.length
       ·obtain ⟨_,ae',ce',hv,_,hf⟩:=HE.out.form
        simp only [Value.slice.injEq] at hv
        obtain ⟨rfl,-,rfl⟩:=hv
        simp only [hkk] at hf
        obtain ⟨b,off,rfl,hbB,hbw,hkid⟩:=hf (by omega)
        obtain ⟨m1,kv,hE,hc⟩:=hkid k hlt
        have hmem:ks[k]∈ks:=List.getElem_mem hlt
        have hle:=sizeE_mem ks _ hmem
        obtain ⟨_,ae1,ce1,rfl,_,_⟩:=hE.form
        have IHx:=IH _ hmem B m1 ae1 ce1
        have hstep:dumpTE (ks.take (k+1))=dumpTE (ks.take k)++([32]++ks[k].dumpT):=by rw [take_succ_at hlt,dumpTE_append];simp [dumpTE]
        have hlen:(dumpTE (ks.take k)).length+1+ks[k].dumpT.length≤(dumpTE ks).length:=by
         rw [hspl,List.drop_eq_getElem_cons hlt,dumpTE]
         simp
         omega
        generalize ks[k]=x at hE hc hle IHx hstep hlen
        have y0:=(hbl.cell (p:=⟨b,off+k * 7,none⟩) hbw).trans (hc 0 _ rfl)
        have y1:=(hbl.cell (p:=⟨b,off+k * 7+1,none⟩) hbw).trans (hc 1 _ rfl)
        have y2:=(hbl.cell (p:=⟨b,off+k * 7+2,none⟩) hbw).trans (hc 2 _ rfl)
        have y3:=(hbl.cell (p:=⟨b,off+k * 7+3,none⟩) hbw).trans (hc 3 _ rfl)
        have y4:=(hbl.cell (p:=⟨b,off+k * 7+4,none⟩) hbw).trans (hc 4 _ rfl)
        have y5:=(hbl.cell (p:=⟨b,off+k * 7+5,none⟩) hbw).trans (hc 5 _ rfl)
        have y6:=(hbl.cell (p:=⟨b,off+k * 7+6,none⟩) hbw).trans (hc 6 _ rfl)
        simp only [strV] at y1 y2 y3
        have hI:=IHx wr (hE.frame (Alk.ofB hbl (fun b hb=>by omega))) (by omega) (by omega) (by omega)
        obtain ⟨XD,hXD,eX⟩:=bytes_of x.dumpT
        rw [← hXD] at hstep hlen
        have HI:Hid (Calls Tryz.prog 43 #[.agg #[.int .i64 x.op,.string ⟨x.name.toArray⟩,.string ⟨x.module.toArray⟩,.string ⟨x.txt.toArray⟩,.bool x.yes,.slice ae1 x.kids.length ce1,.int .i64 x.at_]] wr fun r w'=>r=.returned (.string XD)∧Below wr.heap.size wr w'):=Lib.hid (hI.mono fun r w' h=>⟨by rw [h.1,eX],h.2⟩)
        rw [size_list] at hlen
        have hxs:S.size+XD.size+2≤1099511627776:=by omega
        have HST:=Lib.hid hstep
        have HSS:=Lib.hid hS
        have HBX:=Lib.hid hbx
        have hkI:(k:Int)<(ks.length:Int):=by omega
        clear hkid hc hE IHx hI hstep hS hbx hspl eX hXD IH hf HDD HE hmem
        go_wp2_with (go_at_call 43;refine HI.out.mono ?_;rintro r w2 ⟨rfl,hb2⟩)
        have hlx:=(Array.getElem?_eq_some_iff.1 HBX.out).1
        refine ⟨⟨k+1,_,by omega,by go_num,rfl,?_,(hb2.block w.heap.size hlx).trans HBX.out,hbl.trans (hb2.mono hw)⟩,by simp [intOf];omega⟩
        rw [append_list,append_list,HSS.out,HST.out,List.append_assoc]
       ·obtain rfl:k=ks.length:=by omega
        have hkI:decide ((ks.length:Int)<(ks.length:Int))=false:=decide_eq_false (by omega)
        rw [List.take_length] at hS hsl
        have HSS:=Lib.hid hS
        clear hS hspl
        go_wp2
        go_ret
        refine ⟨congrArg (fun z=>Ending.returned (Value.string z)) (bytes_ext ?_),hbl⟩
        rw [HDD.out,append_list,HSS.out]
theorem rdump_any:∀ (n:Nat) (e:PE),SizeOf.sizeOf e<n→e.opsOk→RdDoes e
 | 0,e,hs,_=>absurd hs (by omega)
 | n+1,e,hs,hop=>rdump_step e hop.opsOk_def.1 fun x hx=>rdump_any n x (by have:=kids_sizeOf e x hx;omega) (opsOkE_mem hop.opsOk_def.2 hx)
end Go.Proofs.YtemkhbmkaalgdaaGreatDoor
