/- Walks and plain laws: IntW, EdumpW, DumpX, AstPlain, SizeW. -/
import Derived.Test.YtbodlpoomfefcaaGreatDoorA26
import Derived.Lib.SlicesMore
import Derived.Deep.CutBlock
set_option maxHeartbeats 16000000
set_option maxRecDepth 100000
set_option linter.unusedVariables false
set_option linter.unusedSimpArgs false
namespace Go.Proofs.YtbodlpoomfefcaaGreatDoor
open Go.RowKit Go
theorem digit_get:∀ k:Nat,k<10→∀ h:k<(ByteArray.mk #[48,49,50,51,52,53,54,55,56,57]).size,(ByteArray.mk #[48,49,50,51,52,53,54,55,56,57])[k]'h=UInt8.ofNat (48+k)
 | 0,_=>fun _=>rfl
 | 1,_=>fun _=>rfl
 | 2,_=>fun _=>rfl
 | 3,_=>fun _=>rfl
 | 4,_=>fun _=>rfl
 | 5,_=>fun _=>rfl
 | 6,_=>fun _=>rfl
 | 7,_=>fun _=>rfl
 | 8,_=>fun _=>rfl
 | 9,_=>fun _=>rfl
 | n+10,h=>absurd h (by omega)
theorem byteRow_text (W:World){base g cap n:Nat}{l:List UInt8}(hn:l.length=n)(h:W.ownsRow base 5 1 (.slice (some ⟨g,0,none⟩) n cap) n (Lib.byteCells l)) :
  (convert 98 9 (.slice (some ⟨g,0,none⟩) n cap)).run Tryz.prog W=.ok (.string ⟨l.toArray⟩) W:=by
 subst hn
 refine run_convert_bytes_back _ 98 9 5 ⟨g,0,none⟩ cap l Tryz.underlying98 Tryz.underlying5 Tryz.underlying9 (fun j hj=>?_)
 obtain ⟨ao,c,hv,_,hl,hc⟩:=Sl.ofOwns h
 obtain ⟨b,o,ha,_,hcell⟩:=hc (by omega)
 simp only [Value.slice.injEq] at hv
 rw [ha] at hv
 simp only [Option.some.injEq,Addr.mk.injEq] at hv
 obtain ⟨⟨rfl,rfl,-⟩,-,-⟩:=hv
 rw [show Addr.add ⟨g,0,none⟩ j=⟨g,0+j,none⟩ by unfold Addr.add;split <;> simp_all]
 have:=hcell j (by rw [hl];omega)
 rw [this]
 simp [Lib.byteCells]
theorem Wd.append {wr w3:World}{o:Obj}{v v' m:Value}{us:List Nat}{g:Nat}(h:Wd (fun b=>some b≠v.ownBlock) wr m us)(hg:(wr.alloc o).grownBy w3 v.ownBlock)(hat:v.ownBlock=some g∨g=wr.heap.size+1)(hv:v'.ownBlock=some g) :
  Wd (fun b=>some b≠v'.ownBlock) w3 m us:=by
 have h1:Wd (fun b=>some b≠v.ownBlock∧some b≠v'.ownBlock) wr m us:=SlP.imp h fun b hb hlt=>⟨hb,fun q=>by
  rw [hv] at q
  rcases hat with e|e
  ·exact hb (by rw [e,q])
  ·injection q;omega⟩
 have h2:Wd (fun b=>some b≠v.ownBlock∧some b≠v'.ownBlock) (wr.alloc o) m us:=SlP.frame h1 ⟨by simp,fun b _ hb=>Lib.alloc_old _ _ _ hb⟩
 exact SlP.imp (SlP.frame h2 (Alk.grown hg fun b hb=>hb.1)) fun b hb _=>hb.2
theorem zstr_zero (b:Bool)(am:Option Addr)(cm:Nat)(w:World) :
  Calls Tryz.prog 107 #[.agg #[.bool b,.slice am 0 cm]] w (StrPost [48] w):=by
 go_enter Tryz.func107,Tryz.ntmps107
 go_wp2
 go_ret
 exact ⟨rfl,(Below.refl _ _).alloc (Nat.le_refl _) _⟩
theorem bytesRow_eq (S:ByteArray)(c:Nat):bytesRow S c=(Lib.byteCells S.data.toList++List.replicate (c - S.size) (Value.int .u8 0)).toArray:=by
 apply Array.ext'
 simp [bytesRow,Lib.byteCells]
theorem cells_text (W:World){g cap n:Nat}{l:List UInt8}{rest:List Value}{T:TypeId}{fr:Nat × Nat}(hn:l.length=n)(h:W.heap[g]?=some (.cells (Lib.byteCells l++rest).toArray T fr)) :
  (convert 98 9 (.slice (some ⟨g,0,none⟩) n cap)).run Tryz.prog W=.ok (.string ⟨l.toArray⟩) W:=by
 subst hn
 refine run_convert_bytes_back _ 98 9 5 ⟨g,0,none⟩ cap l Tryz.underlying98 Tryz.underlying5 Tryz.underlying9 (fun j hj=>?_)
 rw [show Addr.add ⟨g,0,none⟩ j=⟨g,j,none⟩ by unfold Addr.add;split <;> simp_all,Lib.cell_of_heap h,List.getElem?_toArray,List.getElem?_append_left (by simpa [Lib.byteCells] using hj)]
 simp [Lib.byteCells,hj]
def ZIn (bx:Array Value)(w:World)(n:Nat)(l:List UInt8)(v m:Value)(us:List Nat)(wr:World):Prop :=
 Wd (fun b=>some b≠v.ownBlock) wr m us∧wr.ownsRow w.heap.size 5 1 v n (Lib.byteCells l)∧Below w.heap.size w wr∧wr.heap[w.heap.size]?=some (.cells bx 37 (0,0))
def ZDig (bx:Array Value)(w:World)(n:Nat)(l:List UInt8)(r:Nat)(m:Value)(us:List Nat)(v q c:Value)(wr:World):Prop :=
 ∃ i:Nat,i≤9∧c=.int .i64 i∧q=.int .u64 ((r / 10 ^ i:Nat):Int)∧ZIn bx w (n+i) (l++lowD i r) v m us wr
def ZRound (bx:Array Value)(w:World)(N j:Nat)(v m:Value)(us:List Nat)(wr:World):Prop :=
 trimW us=us∧(∀ x∈us,x<4294967296)∧magV us=N / 10 ^ (9 * j)∧Wd (fun b=>some b≠v.ownBlock) wr m us∧wr.ownsRow w.heap.size 5 1 v (9 * j) (Lib.byteCells (lowD (9 * j) N))∧Below w.heap.size w wr∧wr.heap[w.heap.size]?=some (.cells bx 37 (0,0))
def ZStr (bx:Array Value)(w:World)(k N:Nat)(v m:Value)(wr:World):Prop:=∃ j us am cm,j+k=7∧m=.slice am us.length cm∧ZRound bx w N j v m us wr
theorem zstr_pos (P:Nat→Prop)(am:Option Addr)(cm:Nat)(n:Int)(ws:List Nat)(w:World)(h:Wd P w (.slice am ws.length cm) ws)(ht:trimW ws=ws)(hw:∀ x∈ws,x<4294967296)(hv:magV ws=n.natAbs)(hn:n.natAbs<10 ^ 60)(h0:0<ws.length) :
  Calls Tryz.prog 107 #[.agg #[.bool (decide (n<0)),.slice am ws.length cm]] w (StrPost (intF n) w):=by
 obtain ⟨i0,hi,hz0,hz1,hz2⟩:=info_parts Tryz.infoByte
 have hN0:0<n.natAbs:=by rw [← hv];exact trimW_pos ht (by intro q;rw [q] at h0;simp at h0)
 have h7:ws.length≤7:=magV_few ws 7 ht (by rw [hv];exact Nat.lt_trans hn (by decide))
 have HT:=Lib.hid (show n≠0 by omega)
 have HS:Hid (ZStr #[.bool (decide (n<0)),.slice am ws.length cm] w 7 n.natAbs (.slice none 0 0) (.slice am ws.length cm) (w.alloc (.cells #[.bool (decide (n<0)),.slice am ws.length cm] 37))):=Lib.hid ⟨0,ws,am,cm,rfl,rfl,ht,hw,by rw [hv];simp,SlP.imp (SlP.frame h ⟨by simp,fun b _ hb=>Lib.alloc_old _ _ _ hb⟩) (fun b _ _ q=>by cases q),World.ownsRow_nil _ _ _ _,(Below.refl _ _).alloc (Nat.le_refl _) _,heap_alloc_new w _⟩
 have HN:=Lib.hid hn
 have hwl:(0:Int)<(ws.length:Int):=by omega
 have hwn:((ws.length:Int) == 0)=false:=beq_eq_false_iff_ne.2 (by omega)
 clear h ht hw hv hn hN0
 generalize hng:decide (n<0)=ng at *
 have HNG:=Lib.hid hng
 clear hng
 go_enter Tryz.func107,Tryz.ntmps107
 go_upto_region 5 with fail
 go_loopg [3,4] 7 (fun k v m wr=>ZStr #[.bool ng,.slice am ws.length cm] w k n.natAbs v m wr)
 case atStart=>exact HS.out
 case round =>
  obtain ⟨j,us,au,cu,hjk,rfl,ht,hw,hm,hwd,hrow,hbl,hbx⟩:=hrel
  obtain ⟨v,rfl⟩:∃ v:Value,v=u3:=⟨_,rfl⟩
  obtain ⟨w1,rfl⟩:∃ w1:World,w1=wr:=⟨_,rfl⟩
  have hz:=hbl.size
  by_cases hu:us.length=0
  ·have hu':=List.length_eq_zero_iff.1 hu
   subst hu'
   have hlt:n.natAbs<10 ^ (9 * j):=by
    rw [magV] at hm
    exact (Nat.div_eq_zero_iff_lt (Nat.pow_pos (by omega))).1 hm.symm
   have HTX:=Lib.hid (int_text n (9 * j) HT.out hlt)
   have htl:=trim_len (lowD (9 * j) n.natAbs)
   rw [lowD_len] at htl
   have hll:=lowD_len (9 * j) n.natAbs
   have h9j:0<9 * j:=by
    rcases Nat.eq_zero_or_pos j with q|q
    ·subst q;simp at hlt;have:=HT.out;omega
    ·omega
   obtain ⟨g,cap,rfl⟩:=row_form hrow h9j
   have hcv:=byteRow_text w1 hll hrow
   have bx0:w1.cell? ⟨w.heap.size,0,none⟩=some (.bool ng):=by rw [Lib.cell_of_heap hbx];rfl
   have HTR:=Lib.hid (Tryz.strings_TrimRight_one ⟨(lowD (9 * j) n.natAbs).toArray⟩ 48 (by decide) w1 (by rw [← size_list];simp [hll];omega))
   simp only [trim_right] at HTR
   generalize lowD (9 * j) n.natAbs=l at htl hll hcv HTX HTR hrow
   obtain ⟨TZ,hTZ,eTZ⟩:=bytes_of (trimZ l)
   rw [eTZ] at HTR
   have HTZ:=Lib.hid hTZ
   have htz:TZ.size≤9 * j:=by rw [← size_list,hTZ];exact htl
   have hcb:=fun (W:World) (S:ByteArray)=>run_bytes_of_string (P:=Tryz.prog) W 9 98 5 S Tryz.underlying9 Tryz.underlying98 Tryz.underlying5
   have HBL:=Lib.hid hbl
   clear hTZ eTZ htl hll hwd hrow ht hw hm hlt hbl
   go_upto_if 37 with (go_at_call 172;refine HTR.out.mono ?_;rintro e w2 ⟨rfl,hww⟩;obtain rfl:w1=w2:=hww.symm)
   go_cut [6] (fun s wc=>∃ S:ByteArray,s=.string S∧S.data.toList.reverse=intF n∧S.size≤70∧wc=w1)
   case first =>
    cases ng with
    | true =>
     have hn0:=of_decide_eq_true HNG.out
     have HR:Hid ((trimZ l++[45]).reverse=intF n):=Lib.hid (by have:=HTX.out;rw [if_pos hn0] at this;exact this)
     clear hn0
     go_wp2
     go_meet
     exact ⟨_,rfl,by rw [append_list,HTZ.out,← HR.out],by simp [ByteArray.size_append];show TZ.size+1≤70;omega,rfl⟩
    | false =>
     have hn0:=of_decide_eq_false HNG.out
     have HR:Hid ((trimZ l).reverse=intF n):=Lib.hid (by have:=HTX.out;rw [if_neg hn0,List.append_nil] at this;exact this)
     clear hn0
     go_wp2
     go_meet
     exact ⟨TZ,rfl,by rw [HTZ.out,HR.out],by omega,rfl⟩
   case rest =>
    obtain ⟨S,rfl,hS,hSz,rfl⟩:=hcut
    obtain ⟨wo,rfl⟩:∃ wo:World,wo=wc:=⟨_,rfl⟩
    have HSS:=Lib.hid hS
    have hcS:=hcb wo S
    rw [bytesRow_eq] at hcS
    have hnew:=heap_alloc_new wo.drew (.cells (Lib.byteCells S.data.toList++List.replicate (grownCap wo S.size 0 5 - S.size) (Value.int .u8 0)).toArray 5 ((Lib.byteCells S.data.toList++List.replicate (grownCap wo S.size 0 5 - S.size) (Value.int .u8 0)).toArray.size,(Lib.byteCells S.data.toList++List.replicate (grownCap wo S.size 0 5 - S.size) (Value.int .u8 0)).toArray.size+1))
    have hbn:=below_new wo.drew (.cells (Lib.byteCells S.data.toList++List.replicate (grownCap wo S.size 0 5 - S.size) (Value.int .u8 0)).toArray 5 ((Lib.byteCells S.data.toList++List.replicate (grownCap wo S.size 0 5 - S.size) (Value.int .u8 0)).toArray.size,(Lib.byteCells S.data.toList++List.replicate (grownCap wo S.size 0 5 - S.size) (Value.int .u8 0)).toArray.size+1))
    have hfz:S.data.toList.length≤((Lib.byteCells S.data.toList++List.replicate (grownCap wo S.size 0 5 - S.size) (Value.int .u8 0)).toArray.size,(Lib.byteCells S.data.toList++List.replicate (grownCap wo S.size 0 5 - S.size) (Value.int .u8 0)).toArray.size+1).1:=by simp [Lib.byteCells]
    generalize List.replicate (grownCap wo S.size 0 5 - S.size) (Value.int .u8 0)=rest at *
    generalize ((Lib.byteCells S.data.toList++rest).toArray.size,(Lib.byteCells S.data.toList++rest).toArray.size+1)=fr at *
    generalize grownCap wo S.size 0 5=cp at *
    generalize wo.drew.alloc _=w5 at hcS hnew hbn
    have hrv:=byteRev_any wo.heap.size cp S.data.toList rest fr w5 hnew hfz (by rw [size_list];omega)
    rw [size_list] at hrv
    have HRV:=Lib.hid hrv
    clear hcb hrv hnew hfz hS hcv bx0
    go_wp2_with (go_at_call 173;refine HRV.out.mono ?_;rintro e w6 ⟨rfl,hh6,hs6,ho6,hb6⟩;have hct:=cells_text (cap:=cp) (n:=S.size) w6 (by simp) hh6)
    go_ret
    exact ⟨by rw [HSS.out];rfl,(HBL.out.drew.trans (hbn.mono hz)).trans (hb6.mono hz)⟩
  ·have hul:(0:Int)<(us.length:Int):=by omega
   have hmp:=trimW_pos ht (by intro q;rw [q] at hu;exact hu rfl)
   have hj6:j≤6:=by
    rcases Nat.lt_or_ge 6 j with q|q
    ·obtain rfl:j=7:=by omega
     rw [Nat.div_eq_of_lt (Nat.lt_trans HN.out (by decide))] at hm
     omega
    ·exact q
   have hfew:us.length≤7:=magV_few us 7 ht (by rw [hm];exact Nat.lt_of_le_of_lt (Nat.div_le_self _ _) (Nat.lt_trans HN.out (by decide)))
   have HSH:=Lib.hid (zshort_any _ au cu us 1000000000 w1 hwd hw (by omega) (by omega) (by omega))
   obtain ⟨hd1,hd2⟩:=short_div us n.natAbs (9 * j) hm
   have hr9:=shortF_rest 1000000000 (by omega) us
   have htr:=trimW_idem (shortF 1000000000 us).1
   have hlt2:∀ x∈trimW (shortF 1000000000 us).1,x<4294967296:=fun x hx=>shortF_lt 1000000000 (by omega) us hw x (trimW_mem _ _ hx)
   have hlow:=lowD_nine (9 * j) n.natAbs
   rw [← hd2] at hlow
   have HLW:=Lib.hid hlow
   have HM:=Lib.hid (show trimW (trimW (shortF 1000000000 us).1)=trimW (shortF 1000000000 us).1∧(∀ x∈trimW (shortF 1000000000 us).1,x<4294967296)∧magV (trimW (shortF 1000000000 us).1)=n.natAbs / 10 ^ (9 * (j+1)) from ⟨htr,hlt2,by rw [hd1,Nat.mul_add]⟩)
   unfold ShortPost at HSH
   generalize (shortF 1000000000 us).2=r at HSH hr9 HLW
   generalize trimW (shortF 1000000000 us).1=us2 at HSH HM
   generalize lowD (9 * j) n.natAbs=l at hrow HLW
   clear hwd hw ht hm hmp hd1 hd2 htr hlt2 hlow
   go_upto_region 8 with (go_at_call 171;refine HSH.out.mono ?_;rintro e w2 ⟨c2,rfl,hwd2,hb2⟩)
   have hzb2:=hb2.size
   have hown:∀ q,v.ownBlock=some q→w.heap.size≤q∧q<w1.heap.size:=fun q hq=>hrow.lt q hq
   have HI:Hid (ZDig #[.bool ng,.slice am ws.length cm] w (9 * j) l r (.slice (some ⟨w1.heap.size,0,none⟩) us2.length c2) us2 v (.int .u64 (r:Int)) (.int .i64 (0:Nat)) w2):=Lib.hid ⟨0,by omega,rfl,by simp,SlP.imp hwd2 (fun b hb _ q=>by have:=(hown b q.symm).2;omega),by simpa [lowD] using own_below hrow hb2,hbl.trans (hb2.mono hz),(hb2.block _ (Array.getElem?_eq_some_iff.1 hbx).1).trans hbx⟩
   clear hown hrow hwd2 hb2 hbl hbx
   go_wp2
   go_loopw [3,5,22] (fun v q c W=>ZDig #[.bool ng,.slice am ws.length cm] w (9 * j) l r (.slice (some ⟨w1.heap.size,0,none⟩) us2.length c2) us2 v q c W) (fun _ _ c _=>9 - (intOf c).toNat)
   case atStart=>exact HI.out
   case round =>
    obtain ⟨i,hi9,rfl,rfl,hwd,hrow,hbl,hbx⟩:=hrel
    have hzW:=hbl.size
    by_cases hlt:i<9
    ·have hq9:r / 10 ^ i<1000000000:=Nat.lt_of_le_of_lt (Nat.div_le_self _ _) hr9
     have hsn:=lowD_snoc i r
     have hdv:r / 10 ^ (i+1)=r / 10 ^ i / 10:=by rw [Nat.pow_succ,Nat.div_div_eq_div_mul]
     have HDV:=Lib.hid hdv
     have HSN:=Lib.hid hsn
     generalize r / 10 ^ i=q at hq9 HDV HSN ⊢
     have hix:=digit_get (q % 10) (by omega)
     generalize UInt8.ofNat (48+q % 10)=c at hix HSN
     have hiI:(i:Int)<9:=by omega
     clear hsn hdv
     go_wp2_with (at_builtin;refine wpList_append_lies _ rfl _ _ 98 rfl w.heap.size 5 i0 (.int .u8 0) 1 1 Tryz.underlying98 hi hz0 hz1 hz2 rfl (by decide) _ (9 * j+i) _ rfl (hrow.alloc _) ⟨wr.heap.size,0,none⟩ 1 1 [.int .u8 (c.toNat:Int)] rfl rfl ?c1 ?c2 ?c3 ?c4 ?c5 ?c6 _ rfl ?_)
     case c1 =>
      intro j' u hj'
      exact World.news_of_block (cs:=#[.int .u8 (c.toNat:Int)]) (t:=5) (fr:=(0,0)) (heap_alloc_new wr _) j' u (by simpa using hj')
     case c2=>simp [Value.oneCell']
     case c3=>omega
     case c4=>unfold maxLen;omega
     case c5=>omega
     case c6=>simp;omega
     intro g cap w3 hown3 hgrow3 hat3 hlt3
     have hwd3:=Wd.append (v':=.slice (some ⟨g,0,none⟩) (9 * j+i+1) cap) hwd hgrow3 (by simpa using hat3) rfl
     have hb3:Below w.heap.size w w3:=(hbl.alloc hzW _).grown hgrow3 (by simp;omega) (fun q hq=>by have:=(hrow.lt q hq).1;omega)
     have HIN:Hid (ZIn #[.bool ng,.slice am ws.length cm] w (9 * j+(i+1)) (l++lowD (i+1) r) (.slice (some ⟨g,0,none⟩) (9 * j+i+1) cap) (.slice (some ⟨w1.heap.size,0,none⟩) us2.length c2) us2 w3):=Lib.hid ⟨hwd3,by rw [HSN.out,← List.append_assoc,Lib.byteCells_append];exact hown3,hb3,own_block (hrow.alloc _) hgrow3 ((Lib.alloc_old _ _ _ (Array.getElem?_eq_some_iff.1 hbx).1).trans hbx) (by decide)⟩
     clear hwd3 hb3 hown3 hgrow3 hat3 hlt3 hwd hrow hbl hix hbx
     go_wp2
     exact ⟨⟨i+1,by omega,by go_num,by rw [HDV.out];exact val_int (by omega),HIN.out⟩,by simp [intOf];omega⟩
    ·obtain rfl:i=9:=by omega
     have HO:Hid (ZRound #[.bool ng,.slice am ws.length cm] w n.natAbs (j+1) u3 (.slice (some ⟨w1.heap.size,0,none⟩) us2.length c2) us2 wr):=Lib.hid ⟨HM.out.1,HM.out.2.1,HM.out.2.2,hwd,by rw [Nat.mul_add,HLW.out];exact hrow,hbl,hbx⟩
     clear hwd hrow hbl hbx
     go_wp2
     go_roundg (6 - j)
     case measure=>omega
     case rel=>exact ⟨j+1,us2,_,c2,by omega,rfl,HO.out⟩
theorem zstr_any (P:Nat→Prop)(am:Option Addr)(wn cm:Nat)(n:Int)(w:World)(h:NumAt P w n (.slice am wn cm))(hn:n.natAbs<10 ^ 60) :
  Calls Tryz.prog 107 #[.agg #[.bool (decide (n<0)),.slice am wn cm]] w (StrPost (intF n) w):=by
 obtain ⟨ws,h1,h2,h3,h4⟩:=h
 obtain ⟨ao,cap,hv⟩:=h1.form
 simp only [Value.slice.injEq] at hv
 obtain ⟨rfl,rfl,rfl⟩:=hv
 by_cases h0:ws.length=0
 ·have hw:=List.length_eq_zero_iff.1 h0
  subst hw
  have hz:n=0:=by rw [magV] at h4;omega
  subst hz
  have e:intF 0=[48]:=by
   have:=intF_nat 0
   rw [show ((0:Nat):Int)=0 from rfl] at this
   rw [this,decF,dif_pos (by omega)]
   rfl
  rw [e]
  exact zstr_zero _ _ _ _
 ·exact zstr_pos P _ _ n ws w h1 h2 h3 h4 hn (by omega)
def boxA (op:Nat)(NM MD:ByteArray)(ng:Bool)(mv:Value)(ys:Bool)(kv:Value)(a_:Nat):Array Value:=#[.int .i64 op,.string NM,.string MD,.bool ng,mv,.bool ys,kv,.int .i64 a_]
theorem boxA_cells {w:World}{b op:Nat}{NM MD:ByteArray}{ng ys:Bool}{mv kv:Value}{a_:Nat}(h:w.heap[b]?=some (.cells (boxA op NM MD ng mv ys kv a_) 40 (0,0))) :
  w.cell? ⟨b,0,none⟩=some (.int .i64 op)∧w.cell? ⟨b,1,none⟩=some (.string NM)∧w.cell? ⟨b,2,none⟩=some (.string MD)∧w.cell? ⟨b,3,none⟩=some (.bool ng)∧w.cell? ⟨b,4,none⟩=some mv∧w.cell? ⟨b,5,none⟩=some (.bool ys)∧w.cell? ⟨b,6,none⟩=some kv∧w.cell? ⟨b,7,none⟩=some (.int .i64 a_):=by
 refine ⟨?_,?_,?_,?_,?_,?_,?_,?_⟩ <;> (rw [Lib.cell_of_heap h];rfl)
theorem fitsE_mem {M:Nat}:∀ {l:List PE} {e:PE},fitsE M l→e∈l→e.fits M
 | x :: l,e,h,hm=>by
  rw [fitsE] at h
  rcases List.mem_cons.1 hm with rfl|hm
  ·exact h.1
  ·exact fitsE_mem h.2 hm
theorem PE.fits_def {M:Nat}{e:PE}(h:e.fits M):e.op<100∧e.num.natAbs<10 ^ 60∧fitsE M e.kids:=by
 cases e
 rw [PE.fits] at h
 exact ⟨h.1,h.2.2.2.2.2.1,h.2.2.2.2.2.2⟩
def EdSt (w:World)(B' b:Nat)(bx:Array Value)(acc:List UInt8)(W:World):Prop :=
 Bld B' b acc W∧W.heap[w.heap.size]?=some (.cells bx 40 (0,0))∧Below B' w W∧Lib.OthersKept 5 (some b) w W
theorem EdSt.write {w W W':World}{B' b:Nat}{bx:Array Value}{acc acc':List UInt8}(h:EdSt w B' b bx acc W)(h1:Bld B' b acc' W')(h2:Below B' W W')(h3:Lib.OthersKept 5 (some b) W W'):EdSt w B' b bx acc' W' :=
 ⟨h1,h.1.block h3 h.2.1 (by decide) (by decide),h.2.2.1.trans h2,h.2.2.2.trans h3⟩
theorem Bld.belowAll {B b:Nat}{acc:List UInt8}{w w':World}(h:Bld B b acc w)(hb:Below w.heap.size w w'):Bld B b acc w':=by
 have key:∀ p,Lib.BuilderAtF 100 5 B b p (Lib.byteCells acc) w→Lib.BuilderAtF 100 5 B b p (Lib.byteCells acc) w':=by
  rintro p ⟨h1,v,h2,⟨h3,h4⟩,h5⟩
  refine ⟨h1,v,(hb.block b h.lt).trans h2,⟨h3,?_⟩,h5⟩
  rcases h4 with h4|⟨g,cap,cur,fz,q1,q2,q3,q4⟩
  ·exact Or.inl h4
  ·exact Or.inr ⟨g,cap,cur,fz,q1,q2,(hb.block g (Array.getElem?_eq_some_iff.1 q3).1).trans q3,q4⟩
 rcases h with h|h
 ·exact Or.inl (key _ h)
 ·exact Or.inr (key _ h)
theorem EdSt.below {w W W':World}{B' b:Nat}{bx:Array Value}{acc:List UInt8}(h:EdSt w B' b bx acc W)(hb:Below W.heap.size W W'):EdSt w B' b bx acc W' :=
 ⟨h.1.belowAll hb,(hb.block _ (Array.getElem?_eq_some_iff.1 h.2.1).1).trans h.2.1,h.2.2.1.trans (hb.mono (Nat.le_trans (Nat.le_trans h.1.le (Nat.le_of_lt h.1.lt)) (Nat.le_refl _))),fun k o hk hkb he=>by
  have h1:=h.2.2.2 k o hk hkb he
  exact (hb.block k (Array.getElem?_eq_some_iff.1 h1).1).trans h1⟩
theorem EdSt.alloc {w W:World}{B' b:Nat}{bx:Array Value}{acc:List UInt8}(h:EdSt w B' b bx acc W)(o:Obj):EdSt w B' b bx acc (W.alloc o):=h.below (below_new W o)
def EdDoes (e:PE):Prop:=∀ (B B' b:Nat) (am:Option Addr) (wn cm:Nat) (ae:Option Addr) (ce:Nat) (acc:List UInt8) (w:World),EAt XA (fun b=>b<B) w (.slice am wn cm) (.slice ae e.kids.length ce) e→B≤B'→Bld B' b acc w→B'≤w.heap.size→acc.length+e.dump.length≤1099511627776→e.size≤1099511627776 →
  Calls Tryz.prog 73 #[.agg #[.int .i64 e.op,.string ⟨e.name.toArray⟩,.string ⟨e.module.toArray⟩,.bool (decide (e.num<0)),.slice am wn cm,.bool e.yes,.slice ae e.kids.length ce,.int .i64 e.at_],.pointer (some ⟨b,0,none⟩)] w (DmpPost B' b (acc++e.dump) w)
def EdAll (ks:List PE):Prop:=∀ x∈ks,EdDoes x
theorem yesF_two (b:Bool):yesF 2 b=[32]++Lib.formatBool b:=by cases b <;> rfl
theorem edump_step (e:PE)(hop:e.op<100)(hnm:e.num.natAbs<10 ^ 60)(IH:EdAll e.kids):EdDoes e:=by
 intro B B' b am wn cm ae ce acc w h hBB hbd hB hdl hz
 have hdef:=e.size_def
 have hdd:=e.dump_def
 obtain ⟨hnum,ae',ce',hv,hcap,hf⟩:=h.form
 simp only [Value.slice.injEq] at hv
 obtain ⟨rfl,-,rfl⟩:=hv
 have hfew:=sizeE_few e.kids
 have hkl:e.kids.length≤1099511627776:=by omega
 have hzk:sizeE e.kids+1≤1099511627776:=by omega
 have HIT:=Lib.hid (fun W=>itoa_any e.op hop W)
 have HST:=Lib.hid (fun W (hW:Below B' w W)=>zstr_any (fun b=>b<B) am wn cm e.num W (XA.frame hnum (Alk.ofB hW (fun b hb=>by omega))) hnm)
 rw [head_parts] at hdd
 have HF:=Lib.hid hf
 clear hnum hdef hz hop hnm h hf
 generalize decF e.op=dg at HIT hdd
 generalize intF e.num=tx at HST hdd
 generalize decide (e.num<0)=ng at *
 generalize e.op=op at *
 generalize e.name=nm at *
 generalize e.module=md at *
 generalize e.yes=ys at *
 generalize e.at_=a_ at *
 generalize e.dump=out at *
 generalize hkk:e.kids=ks at *
 obtain ⟨NM,rfl,eN⟩:=bytes_of nm
 obtain ⟨MD,rfl,eM⟩:=bytes_of md
 obtain ⟨TX,rfl,eT⟩:=bytes_of tx
 obtain ⟨DG,rfl,eD⟩:=bytes_of dg
 have HIT:Hid (∀ W,Calls Tryz.prog 92 #[.int .i64 op] W fun r w'=>r=.returned (.string DG)∧w'=W):=Lib.hid fun W=>(HIT.out W).mono fun r w' h=>⟨by rw [h.1,eD],h.2⟩
 have HST:Hid (∀ W,Below B' w W→Calls Tryz.prog 107 #[.agg #[.bool ng,.slice am wn cm]] W fun r w'=>r=.returned (.string TX)∧Below W.heap.size W w'):=Lib.hid fun W hW=>(HST.out W hW).mono fun r w' h=>⟨by rw [h.1,eT],h.2⟩
 rw [eN,eM]
 have hln:=congrArg List.length hdd
 simp only [List.length_append,size_list,List.length_cons,List.length_nil] at hln
 have HDD:=Lib.hid hdd
 have hbd0:acc.length+DG.size+(nameF NM.data.toList MD.data.toList).length+(numTF op TX.data.toList).length+(yesF op ys).length+(dumpE ks).length+2≤1099511627776:=by omega
 have H0:Hid (EdSt w B' b (boxA op NM MD ng (.slice am wn cm) ys (.slice ae ks.length ce) a_) acc (w.alloc (.cells (boxA op NM MD ng (.slice am wn cm) ys (.slice ae ks.length ce) a_) 40))):=Lib.hid ⟨hbd.alloc _,heap_alloc_new w _,(Below.refl _ w).alloc hB _,(Lib.OthersKept.refl 5 (some b) w).alloc _⟩
 clear hdd hln hdl eN eM eT eD hbd
 have hS0:((ByteArray.mk #[91])++DG).data.toList=[91]++DG.data.toList:=by simp
 have HS0:=Lib.hid hS0
 have hS0z:((ByteArray.mk #[91])++DG).size=1+DG.size:=by rw [← size_list,hS0];simp;omega
 have HS0z:=Lib.hid hS0z
 clear hS0 hS0z
 have e0:=(boxA_cells H0.out.2.1).1
 go_enter Tryz.func73,Tryz.ntmps73
 go_upto_block 0 with (first|(go_at_call 92;refine (HIT.out _).mono ?_;rintro e w3 ⟨rfl,rfl⟩)|(go_at_call 90;refine (write_any B' b acc (ByteArray.mk #[91]++DG) _ H0.out.1 (by rw [HS0z.out];omega) (by simp;omega)).mono ?_;rintro e w4 ⟨rfl,hb4,hl4,ho4⟩))
 have hst:=H0.out.write hb4 hl4 ho4
 rw [HS0.out] at hst
 generalize hA1:acc++([91]++DG.data.toList)=A1 at hst
 have HA1:=Lib.hid hA1
 have hl1:A1.length=acc.length+DG.size+1:=by rw [← hA1];simp only [List.length_append,size_list,List.length_cons,List.length_nil];omega
 have hbd1:A1.length+(nameF NM.data.toList MD.data.toList).length+(numTF op TX.data.toList).length+(yesF op ys).length+(dumpE ks).length+1≤1099511627776:=by omega
 clear hb4 hl4 ho4 H0 HS0 HS0z HIT e0 hA1 hl1 hbd0
 go_cut [12] (fun s wc=>EdSt w B' b (boxA op NM MD ng (.slice am wn cm) ys (.slice ae ks.length ce) a_) (A1++nameF NM.data.toList MD.data.toList) wc)
 case first =>
  have hz4:=hst.2.2.1.size
  obtain ⟨y0,y1,y2,-⟩:=boxA_cells hst.2.1
  have HS4:=Lib.hid hst
  clear hst
  go_upto_if 12 with fail
  generalize ht:(!MD.toList.isEmpty)=t
  cases t with
  | false =>
   have hm:MD.data.toList=[]:=Classical.byContradiction fun q=>by rw [empty_no q] at ht;cases ht
   clear ht
   by_cases hn:NM.data.toList=[]
   ·have hne:=empty_yes hn
    have HN:=Lib.hid (nameF_no hm hn)
    clear hm hn
    go_wp2
    go_meet
    rw [HN.out,List.append_nil]
    exact HS4.out
   ·have hne:=empty_no hn
    have HN:=Lib.hid (nameF_nm hm hn)
    clear hm hn
    rw [HN.out] at hbd1
    simp only [List.length_append,size_list,List.length_cons,List.length_nil] at hbd1
    have HW:Hid (((ByteArray.mk #[32])++NM).data.toList=[32]++NM.data.toList):=Lib.hid (by simp)
    go_wp2_with (go_at_call 90;refine (write_any B' b A1 (ByteArray.mk #[32]++NM) _ HS4.out.1 (by rw [← size_list,HW.out];simp;omega) (by omega)).mono ?_;rintro e w5 ⟨rfl,hb5,hl5,ho5⟩)
    go_meet
    rw [HN.out,← HW.out]
    exact HS4.out.write hb5 hl5 ho5
  | true =>
   have hm:MD.data.toList≠[]:=fun q=>by rw [empty_yes q] at ht;cases ht
   have HN:=Lib.hid (nameF_md (nm:=NM.data.toList) hm)
   rw [HN.out] at hbd1
   simp only [List.length_append,size_list,List.length_cons,List.length_nil] at hbd1
   clear hm ht
   have HW:Hid (((ByteArray.mk #[32])++MD++(ByteArray.mk #[46])++NM).data.toList=[32]++MD.data.toList++[46]++NM.data.toList):=Lib.hid (by simp)
   go_wp2_with (go_at_call 90;refine (write_any B' b A1 (ByteArray.mk #[32]++MD++ByteArray.mk #[46]++NM) _ HS4.out.1 (by rw [← size_list,HW.out];simp;omega) (by omega)).mono ?_;rintro e w5 ⟨rfl,hb5,hl5,ho5⟩)
   go_meet
   rw [HN.out,← HW.out]
   exact HS4.out.write hb5 hl5 ho5
 case rest =>
  obtain ⟨wo,rfl⟩:∃ wo:World,wo=wc:=⟨_,rfl⟩
  clear hst
  generalize hA2:A1++nameF NM.data.toList MD.data.toList=A2 at hcut
  have HA2:=Lib.hid hA2
  have hl2:A2.length=A1.length+(nameF NM.data.toList MD.data.toList).length:=by rw [← hA2,List.length_append]
  have hbd2:A2.length+(numTF op TX.data.toList).length+(yesF op ys).length+(dumpE ks).length+1≤1099511627776:=by omega
  clear hA2 hl2 hbd1
  have z0:=(boxA_cells hcut.2.1).1
  go_upto_block 1 with fail
  go_cut [36] (fun s wc=>EdSt w B' b (boxA op NM MD ng (.slice am wn cm) ys (.slice ae ks.length ce) a_) (A2++(numTF op TX.data.toList++yesF op ys)) wc)
  case first =>
   have hz4:=hcut.2.2.1.size
   obtain ⟨y0,y1,y2,y3,y4,y5,-,-⟩:=boxA_cells hcut.2.1
   have HS4:=Lib.hid hcut
   clear hcut
   by_cases h1:op=1
   ·subst h1
    have HN:Hid (numTF 1 TX.data.toList++yesF 1 ys=[32]++TX.data.toList):=Lib.hid (by simp [numTF,yesF])
    have hbd3:A2.length+1+TX.size+1≤1099511627776:=by
     have:=congrArg List.length HN.out
     simp only [List.length_append,size_list,List.length_cons,List.length_nil] at this
     omega
    have HW:Hid (((ByteArray.mk #[32])++TX).data.toList=[32]++TX.data.toList):=Lib.hid (by simp)
    have HZ:=HST.out wo HS4.out.2.2.1
    have HSZ:=Lib.hid HZ
    clear HZ
    go_wp2_with (first|(go_at_call 107;refine HSZ.out.mono ?_;rintro e w5 ⟨rfl,hb5⟩;have HS5:=HS4.out.below hb5;have hz5:=hb5.size)|(go_at_call 90;refine (write_any B' b A2 (ByteArray.mk #[32]++TX) _ HS5.1 (by rw [← size_list,HW.out];simp;omega) (by omega)).mono ?_;rintro e w6 ⟨rfl,hb6,hl6,ho6⟩))
    go_meet
    rw [HN.out,← HW.out]
    exact HS5.write hb6 hl6 ho6
   ·have h1I:((op:Int) == 1)=false:=beq_eq_false_iff_ne.2 (by omega)
    by_cases h2:op=2
    ·subst h2
     have HN:Hid (numTF 2 TX.data.toList++yesF 2 ys=[32]++Lib.formatBool ys):=Lib.hid (by rw [yesF_two];simp [numTF])
     obtain ⟨FB,hFB,eFB⟩:=bytes_of (Lib.formatBool ys)
     have HFB:=Lib.hid (fun W=>Tryz.strconv_FormatBool ys W)
     rw [eFB] at HFB
     have hfl:FB.size≤5:=by rw [← size_list,hFB];cases ys <;> decide
     rw [← hFB] at HN
     have hbd3:A2.length+1+FB.size+1≤1099511627776:=by
      have:=congrArg List.length HN.out
      simp only [List.length_append,size_list,List.length_cons,List.length_nil] at this
      omega
     have HW:Hid (((ByteArray.mk #[32])++FB).data.toList=[32]++FB.data.toList):=Lib.hid (by simp)
     clear hFB eFB h1
     go_wp2_with (first|(go_at_call 126;refine (HFB.out _).mono ?_;rintro e w5 ⟨rfl,rfl⟩)|(go_at_call 90;refine (write_any B' b A2 (ByteArray.mk #[32]++FB) _ HS4.out.1 (by rw [← size_list,HW.out];simp;omega) (by omega)).mono ?_;rintro e w6 ⟨rfl,hb6,hl6,ho6⟩))
     go_meet
     rw [HN.out,← HW.out]
     exact HS4.out.write hb6 hl6 ho6
    ·have h2I:((op:Int) == 2)=false:=beq_eq_false_iff_ne.2 (by omega)
     have HN:Hid (numTF op TX.data.toList++yesF op ys=[]):=Lib.hid (by simp [numTF,yesF,h1,h2])
     clear h1 h2
     go_wp2
     go_meet
     rw [HN.out,List.append_nil]
     exact HS4.out
  case rest =>
   obtain ⟨wo,rfl⟩:∃ wo:World,wo=wc:=⟨_,rfl⟩
   generalize hA3:A2++(numTF op TX.data.toList++yesF op ys)=A3 at hcut
   have hl3:A3.length=A2.length+(numTF op TX.data.toList).length+(yesF op ys).length:=by rw [← hA3,List.length_append,List.length_append];omega
   have hbd3:A3.length+(dumpE ks).length+1≤1099511627776:=by omega
   have HAA:Hid (acc++out=A3++dumpE ks++[93]):=Lib.hid (by rw [HDD.out,← hA3,← HA2.out,← HA1.out];simp)
   have z6:=(boxA_cells hcut.2.1).2.2.2.2.2.2.1
   have HC:=Lib.hid hcut
   clear hA3 hl3 hbd2 HST HDD HA1 HA2 hcut z0
   go_upto_block 2 with fail
   go_wp2_with fail
   go_loopw [55] (fun q wr=>∃ k:Nat,k≤ks.length∧q=.int .i64 k∧EdSt w B' b (boxA op NM MD ng (.slice am wn cm) ys (.slice ae ks.length ce) a_) (A3++dumpE (ks.take k)) wr) (fun q _=>ks.length - (intOf q).toNat)
   case atStart=>exact ⟨0,Nat.zero_le _,rfl,by simpa [dumpE] using HC.out⟩
   case round =>
    obtain ⟨k,hk,rfl,hst⟩:=hrel
    have hbl:=hst.2.2.1
    have hz:=hbl.size
    have hspl:=congrArg List.length (dumpE_append (ks.take k) (ks.drop k))
    rw [List.take_append_drop,List.length_append] at hspl
    by_cases hlt:k<ks.length
    ·obtain ⟨b2,off,rfl,hbB,hbw,hkid⟩:=HF.out (by omega)
     obtain ⟨m,kv,hE,hc⟩:=hkid k hlt
     have hmem:ks[k]∈ks:=List.getElem_mem hlt
     have hle:=sizeE_mem ks _ hmem
     obtain ⟨am1,wn1,cm1,ae1,ce1,rfl,rfl⟩:=hE.slX
     have IHx:=IH _ hmem B B' b am1 wn1 cm1 ae1 ce1
     have hstep:dumpE (ks.take (k+1))=dumpE (ks.take k)++([32]++ks[k].dump):=by rw [take_succ_at hlt,dumpE_append];simp [dumpE]
     have hlen:(dumpE (ks.take k)).length+1+ks[k].dump.length≤(dumpE ks).length:=by
      rw [hspl,List.drop_eq_getElem_cons hlt,dumpE]
      simp
      omega
     have hxs:ks[k].size≤1099511627776:=by omega
     generalize ks[k]=x at hE hc hle IHx hstep hlen hxs
     have y0:=(hbl.cell (p:=⟨b2,off+k * 8,none⟩) (by show b2<B';omega)).trans (hc 0 _ rfl)
     have y1:=(hbl.cell (p:=⟨b2,off+k * 8+1,none⟩) (by show b2<B';omega)).trans (hc 1 _ rfl)
     have y2:=(hbl.cell (p:=⟨b2,off+k * 8+2,none⟩) (by show b2<B';omega)).trans (hc 2 _ rfl)
     have y3:=(hbl.cell (p:=⟨b2,off+k * 8+3,none⟩) (by show b2<B';omega)).trans (hc 3 _ rfl)
     have y4:=(hbl.cell (p:=⟨b2,off+k * 8+4,none⟩) (by show b2<B';omega)).trans (hc 4 _ rfl)
     have y5:=(hbl.cell (p:=⟨b2,off+k * 8+5,none⟩) (by show b2<B';omega)).trans (hc 5 _ rfl)
     have y6:=(hbl.cell (p:=⟨b2,off+k * 8+6,none⟩) (by show b2<B';omega)).trans (hc 6 _ rfl)
     have y7:=(hbl.cell (p:=⟨b2,off+k * 8+7,none⟩) (by show b2<B';omega)).trans (hc 7 _ rfl)
     simp only [strV] at y1 y2
     have hAl:(A3++dumpE (ks.take k)).length=A3.length+(dumpE (ks.take k)).length:=List.length_append
     have HS2:=Lib.hid hstep
     generalize dumpE (ks.take k)=D at hst hspl hlen hAl HS2
     have HE1:=Lib.hid (hst.alloc (.cells (boxA x.op ⟨x.name.toArray⟩ ⟨x.module.toArray⟩ (decide (x.num<0)) (.slice am1 wn1 cm1) x.yes (.slice ae1 x.kids.length ce1) x.at_) 40))
     have HN1:=Lib.hid (heap_alloc_new wr (.cells (boxA x.op ⟨x.name.toArray⟩ ⟨x.module.toArray⟩ (decide (x.num<0)) (.slice am1 wn1 cm1) x.yes (.slice ae1 x.kids.length ce1) x.at_) 40))
     have hEf:=fun (W:World) (hW:Below B' w W)=>EAt.frame (Alk.ofB hW (fun b hb=>by omega)) hE
     have HEF:=Lib.hid hEf
     have hAD:(A3++D).length+1+x.dump.length≤1099511627776:=by omega
     have hkI:(k:Int)<(ks.length:Int):=by omega
     clear hkid hc hE hstep hspl hlen hAl hst hEf hmem
     go_upto_region 15 with (go_at_call 90;refine (write_any B' b (A3++D) ⟨#[32]⟩ _ HE1.out.1 (by show (A3++D).length+1≤140737488355328;omega) (by simp;omega)).mono ?_;rintro e w5 ⟨rfl,hb5,hl5,ho5⟩)
     have hst5:=HE1.out.write hb5 hl5 ho5
     obtain ⟨r0,r1,r2,r3,r4,r5,r6,r7⟩:=boxA_cells (HE1.out.1.block ho5 HN1.out (by decide) (by decide))
     have hz5:=hst5.2.2.1.size
     have HI:=Lib.hid (IHx _ w5 (HEF.out w5 hst5.2.2.1) hBB hst5.1 (by omega) (by rw [List.length_append];exact hAD) hxs)
     have HS5:=Lib.hid hst5
     clear hst5 hb5 hl5 ho5 HE1 HN1 HEF y0 y1 y2 y3 y4 y5 y6 y7 hbl IHx
     go_wp2_with (go_at_call 73;refine HI.out.mono ?_;rintro e w6 ⟨rfl,hb6,hl6,ho6⟩)
     refine ⟨⟨k+1,by omega,by go_num,?_⟩,by simp [intOf];omega⟩
     rw [HS2.out,← List.append_assoc,← List.append_assoc]
     exact HS5.out.write hb6 hl6 ho6
    ·obtain rfl:k=ks.length:=by omega
     have hkI:decide ((ks.length:Int)<(ks.length:Int))=false:=decide_eq_false (by omega)
     rw [List.take_length] at hst
     have HSS:=Lib.hid hst
     have hal:(A3++dumpE ks).length+1≤140737488355328:=by rw [List.length_append];omega
     clear hst hspl hbl
     go_wp2_with (go_at_call 90;refine (write_any B' b (A3++dumpE ks) ⟨#[93]⟩ _ HSS.out.1 hal (by omega)).mono ?_;rintro e w5 ⟨rfl,hb5,hl5,ho5⟩)
     go_end0
     refine ⟨rfl,?_,HSS.out.2.2.1.trans hl5,HSS.out.2.2.2.trans ho5⟩
     rw [HAA.out]
     exact hb5
theorem edump_any {M:Nat}:∀ (n:Nat) (e:PE),SizeOf.sizeOf e<n→e.fits M→EdDoes e
 | 0,e,hs,_=>absurd hs (by omega)
 | n+1,e,hs,hf=>edump_step e (PE.fits_def hf).1 (PE.fits_def hf).2.1 fun x hx=>edump_any n x (by have:=kids_sizeOf e x hx;omega) (fitsE_mem (PE.fits_def hf).2.2 hx)
theorem dumpX_any {M:Nat}(x:PE)(hf:x.fits M)(B:Nat)(am:Option Addr)(wn cm:Nat)(ae:Option Addr)(ce:Nat)(w:World)(h:EAt XA (fun b=>b<B) w (.slice am wn cm) (.slice ae x.kids.length ce) x)(hB:B≤w.heap.size)(hd:x.dump.length≤1099511627776)(hz:x.size≤1099511627776) :
  Calls Tryz.prog 37 #[.agg #[.int .i64 x.op,.string ⟨x.name.toArray⟩,.string ⟨x.module.toArray⟩,.bool (decide (x.num<0)),.slice am wn cm,.bool x.yes,.slice ae x.kids.length ce,.int .i64 x.at_]] w (StrPost x.dump w):=by
 have hbb:=(below_new w (.cells (boxA x.op ⟨x.name.toArray⟩ ⟨x.module.toArray⟩ (decide (x.num<0)) (.slice am wn cm) x.yes (.slice ae x.kids.length ce) x.at_) 40))
 have hbd:=Bld.fresh (T:=100) (w.alloc (.cells (boxA x.op ⟨x.name.toArray⟩ ⟨x.module.toArray⟩ (decide (x.num<0)) (.slice am wn cm) x.yes (.slice ae x.kids.length ce) x.at_) 40))
 rw [World.size_alloc] at hbd
 have hb2:=hbb.alloc hbb.size (.cells #[.pointer none,.slice none 0 0] 100)
 have hbox:=(Lib.alloc_old _ (.cells #[.pointer none,.slice none 0 0] 100) w.heap.size (by simp)).trans (heap_alloc_new w (.cells (boxA x.op ⟨x.name.toArray⟩ ⟨x.module.toArray⟩ (decide (x.num<0)) (.slice am wn cm) x.yes (.slice ae x.kids.length ce) x.at_) 40))
 have hHD:=fun W hW hWB=>edump_any (SizeOf.sizeOf x+1) x (by omega) hf B (w.heap.size+1) (w.heap.size+1) am wn cm ae ce [] W hW (by omega) hWB
 have HD:=Lib.hid hHD
 have HE:=Lib.hid (fun W (hW:Below w.heap.size w W)=>EAt.frame (Alk.ofB hW (fun b hb=>by omega)) h)
 have hs2:w.heap.size+1≤((w.alloc (.cells (boxA x.op ⟨x.name.toArray⟩ ⟨x.module.toArray⟩ (decide (x.num<0)) (.slice am wn cm) x.yes (.slice ae x.kids.length ce) x.at_) 40)).alloc (.cells #[.pointer none,.slice none 0 0] 100)).heap.size:=by simp
 clear hbb hHD h
 go_enter Tryz.func37,Tryz.ntmps37
 go_upto_region 2 with fail
 change Code.wp _ _ _ _ ((w.alloc (.cells (boxA x.op ⟨x.name.toArray⟩ ⟨x.module.toArray⟩ (decide (x.num<0)) (.slice am wn cm) x.yes (.slice ae x.kids.length ce) x.at_) 40)).alloc (.cells #[.pointer none,.slice none 0 0] 100))
 generalize (w.alloc _).alloc _=w2 at hbd hb2 hbox hs2 ⊢
 obtain ⟨y0,y1,y2,y3,y4,y5,y6,y7⟩:=boxA_cells hbox
 have HC:=Lib.hid (HD.out w2 (HE.out w2 hb2) hbd hs2 (by simpa using hd) hz)
 clear hbd hbox HD HE
 go_wp2_with (first|(go_at_call 73;refine HC.out.mono ?_;rintro e w3 ⟨rfl,hbd3,hl3,ho3⟩;rw [List.nil_append] at hbd3;have hz3:=hl3.size)|(go_at_call 48;refine (bstring_any _ _ x.dump _ hbd3 (by omega)).mono ?_;rintro e w4 ⟨rfl,hbd4,hl4,ho4⟩))
 go_ret
 exact ⟨rfl,hb2.trans ((hl3.trans hl4).mono (by omega))⟩
end Go.Proofs.YtbodlpoomfefcaaGreatDoor

namespace Go.Proofs.YtbodlpoomfefcaaGreatDoor
def exF:List Tok:=[⟨4,[],[40],0⟩,⟨1,[],[120],1⟩,⟨4,[],[41],2⟩,⟨4,[],[43],3⟩,⟨3,[],[49],4⟩,⟨5,[],[],5⟩]
def exS:List UInt8:=[40,120,41,43,49]
def exC:CE:=.bin (.group .nam) .num
theorem exF_lex:lexAll exS=.ok exF:=by rfl
theorem exF_form:formF exS 9=.good exF ((aloneT exC).em 0 0):=by rfl
theorem ex_good:FGood exS exF ((aloneT exC).em 0 0) exC :=
 form_good_of (d:=9) (by omega) exF_form exF_lex rfl (by
  simp only [exC,CE.ok]
  exact ⟨by decide,⟨rfl,rfl⟩,rfl⟩) (by decide) (by decide)
theorem dec_one {n:Nat}(h:n<10):decF n=[UInt8.ofNat (48+n)]:=by rw [decF,dif_pos h]
theorem ex_pe:exC.pe exF 0=.mk 7 [] [] 0 [] false [.mk 3 [120] [] 0 [] false [] 1,.mk 1 [] [] 1 [49] false [] 4] 3:=by rfl
theorem ex_dump:(exC.pe exF 0).dump=[91,55,32,91,51,32,120,93,32,91,49,32,49,93,93]:=by
 rw [ex_pe]
 simp only [PE.dump,dumpE,headF,intF,Int.natAbs]
 rw [dec_one (n:=7) (by omega),dec_one (n:=3) (by omega),dec_one (n:=1) (by omega),dec_one (n:=0) (by omega)]
 decide
theorem ex_size:(exC.pe exF 0).size=3:=by rw [ex_pe];rfl
end Go.Proofs.YtbodlpoomfefcaaGreatDoor

namespace Go.Proofs.YtbodlpoomfefcaaGreatDoor
open Go.RowKit Go
theorem size_any:∀ (n:Nat) (e:PE),SizeOf.sizeOf e<n→∀ (B:Nat) (am:Option Addr) (wn cm:Nat) (ae:Option Addr) (ce:Nat) (w:World),EAt XA (fun b=>b<B) w (.slice am wn cm) (.slice ae e.kids.length ce) e→B≤w.heap.size→e.size≤1099511627776 →
  Calls Tryz.prog 38 #[.agg #[.int .i64 e.op,.string ⟨e.name.toArray⟩,.string ⟨e.module.toArray⟩,.bool (decide (e.num<0)),.slice am wn cm,.bool e.yes,.slice ae e.kids.length ce,.int .i64 e.at_]] w fun r w'=>r=.returned (.int .i64 e.size)∧Below w.heap.size w w'
 | 0,e,hs,_,_,_,_,_,_,_,_,_,_=>absurd hs (by omega)
 | n+1,e,hs,B,am,wn,cm,ae,ce,w,h,hB,hz=>by
  have hsub:=kids_sizeOf e
  have hdef:=e.size_def
  obtain ⟨hnum,ae',ce',hv,hcap,hf⟩:=h.form
  simp only [Value.slice.injEq] at hv
  obtain ⟨rfl,-,rfl⟩:=hv
  have hfew:=sizeE_few e.kids
  have IH:=Lib.hid (fun (x:PE) (hx:x∈e.kids)=>size_any n x (by have:=hsub x hx;omega))
  have HF:=Lib.hid hf
  have HD:=Lib.hid hdef
  have hkl:e.kids.length≤1099511627776:=by omega
  have hzk:sizeE e.kids+1≤1099511627776:=by omega
  clear h hnum hf hsub hs hdef hz
  go_enter Tryz.func38,Tryz.ntmps38
  go_wp2
  generalize hkk:e.kids=ks at *
  go_loopw [3,9] (fun nv q wr=>∃ k:Nat,k≤ks.length∧q=.int .i64 k∧nv=.int .i64 ((1+sizeE (ks.take k):Nat):Int)∧Below w.heap.size w wr) (fun _ q _=>ks.length - (intOf q).toNat)
  case atStart=>exact ⟨0,Nat.zero_le _,rfl,rfl,(Below.refl _ _).alloc (Nat.le_refl _) _⟩
  case round =>
   obtain ⟨k,hk,rfl,rfl,hbl⟩:=hrel
   have hw:=hbl.size
   by_cases hlt:k<ks.length
   ·obtain ⟨b,off,rfl,hbB,hbw,hkid⟩:=HF.out (by omega)
    obtain ⟨m,kv,hE,hc⟩:=hkid k hlt
    have hmem:ks[k]∈ks:=List.getElem_mem hlt
    have hsn:ks.take (k+1)=ks.take k++[ks[k]]:=List.take_succ_eq_append_getElem hlt
    have hle:=sizeE_mem ks _ hmem
    have hsz:sizeE (ks.take (k+1))=sizeE (ks.take k)+ks[k].size:=by rw [hsn,sizeE_append];simp [sizeE]
    have htl:sizeE (ks.take (k+1))≤sizeE ks:=by
     have:=sizeE_append (ks.take (k+1)) (ks.drop (k+1))
     rw [List.take_append_drop] at this
     omega
    obtain ⟨am1,wn1,cm1,ae1,ce1,rfl,rfl⟩:=hE.slX
    have IHx:=IH.out _ hmem B am1 wn1 cm1 ae1 ce1
    generalize ks[k]=x at hE hc hsz hle IHx
    have y0:=(hbl.cell (p:=⟨b,off+k * 8,none⟩) hbw).trans (hc 0 _ rfl)
    have y1:=(hbl.cell (p:=⟨b,off+k * 8+1,none⟩) hbw).trans (hc 1 _ rfl)
    have y2:=(hbl.cell (p:=⟨b,off+k * 8+2,none⟩) hbw).trans (hc 2 _ rfl)
    have y3:=(hbl.cell (p:=⟨b,off+k * 8+3,none⟩) hbw).trans (hc 3 _ rfl)
    have y4:=(hbl.cell (p:=⟨b,off+k * 8+4,none⟩) hbw).trans (hc 4 _ rfl)
    have y5:=(hbl.cell (p:=⟨b,off+k * 8+5,none⟩) hbw).trans (hc 5 _ rfl)
    have y6:=(hbl.cell (p:=⟨b,off+k * 8+6,none⟩) hbw).trans (hc 6 _ rfl)
    have y7:=(hbl.cell (p:=⟨b,off+k * 8+7,none⟩) hbw).trans (hc 7 _ rfl)
    simp only [strV] at y1 y2
    have hA:∀ o,EAt XA (fun b=>b<B) (wr.alloc o) (.slice am1 wn1 cm1) (.slice ae1 x.kids.length ce1) x:=fun o=>hE.frame (Alk.ofB (hbl.alloc hw o) (fun b hb=>by omega))
    have hbA:∀ o,Below w.heap.size w (wr.alloc o):=fun o=>hbl.alloc hw o
    have HI:=Lib.hid (fun o=>IHx (wr.alloc o) (hA o) (by simp;omega) (by omega))
    have HS:=Lib.hid hsz
    have hI2:(1:Int)+(sizeE (ks.take k):Int)+(x.size:Int)≤1099511627776:=by omega
    clear hkid hc hE IHx hsn hsz hA htl
    have hkI:(k:Int)<(ks.length:Int):=by omega
    go_wp2_with (go_at_call 38;refine (HI.out _).mono ?_;rintro r w2 ⟨rfl,hb2⟩)
    exact ⟨⟨k+1,by omega,by go_num,by rw [HS.out];go_num,(hbA _).trans (hb2.mono (hbA _).size)⟩,by simp [intOf];omega⟩
   ·obtain rfl:k=ks.length:=by omega
    have hkI:decide ((ks.length:Int)<(ks.length:Int))=false:=decide_eq_false (by omega)
    go_wp2
    go_ret
    refine ⟨?_,hbl⟩
    rw [HD.out,List.take_length];try rfl
end Go.Proofs.YtbodlpoomfefcaaGreatDoor
