/- Walks and plain laws: IntPlain, SizeL, AtsL, IntW, ShowB, Pieces. -/
import Derived.Lib.ItoaNum
import Derived.Lib.TrimByte
import Derived.Maps.AppendAt
import Derived.RangeFuncBox
import Derived.Test.YtdednahplodojaaGreatDoorD17
import Derived.Lib.SlicesMore
set_option maxHeartbeats 16000000
set_option maxRecDepth 100000
set_option linter.unusedVariables false
set_option linter.unusedSimpArgs false
namespace Go.Proofs.YtdednahplodojaaGreatDoor
theorem dec_digits (u:Nat):Lib.decDigits u=decF u:=by
 induction u using Nat.strongRecOn with
 | _ u ih =>
  rw [Lib.decDigits,decF]
  split
  ·rfl
  ·rw [ih (u / 10) (by omega)]
theorem trim_right (l:List UInt8):Lib.trimRightB l 48=trimZ l:=rfl
theorem magV_few:∀ (ws:List Nat) (n:Nat),trimW ws=ws→magV ws<4294967296 ^ n→ws.length≤n
 | [],n,_,_=>Nat.zero_le _
 | d :: l,0,h,hm=>by
  have:=trimW_pos h (by simp)
  simp only [Nat.pow_zero] at hm
  omega
 | d :: l,n+1,h,hm=>by
  have hl:trimW l=l:=by
   rw [trimW] at h
   split at h
   ·cases h
   ·injection h
  have:=magV_few l n hl (by
   rw [magV,Nat.pow_succ] at hm
   generalize 4294967296 ^ n=p at hm ⊢
   omega)
  rw [List.length_cons]
  omega
theorem int_text (n:Int)(k:Nat)(h0:n≠0)(hk:n.natAbs<10 ^ k):(trimZ (lowD k n.natAbs)++(if n<0 then [45] else [])).reverse=intF n:=by
 rw [List.reverse_append,low_text _ _ (by omega) hk,intF]
 split <;> simp
theorem lowD_len:∀ (k n:Nat),(lowD k n).length=k
 | 0,_=>rfl
 | k+1,n=>by rw [lowD,List.length_cons,lowD_len k]
theorem lowD_nine (k n:Nat):lowD (k+9) n=lowD k n++lowD 9 (n / 10 ^ k % 1000000000):=by
 rw [lowD_add k 9,show (1000000000:Nat)=10 ^ 9 from rfl,lowD_mod 9 9 _ (Nat.le_refl _)]
theorem short_div (ws:List Nat)(n k:Nat)(h:magV ws=n / 10 ^ k):magV (trimW (shortF 1000000000 ws).1)=n / 10 ^ (k+9)∧(shortF 1000000000 ws).2=n / 10 ^ k % 1000000000:=by
 have h1:=shortF_val 1000000000 ws
 have h2:=shortF_rest 1000000000 (by omega) ws
 rw [magV_trim,← h]
 have e:n / 10 ^ (k+9)=magV ws / 1000000000:=by
  rw [h,Nat.pow_add,Nat.div_div_eq_div_mul]
 rw [e]
 omega
theorem trim_len (l:List UInt8):(trimZ l).length≤l.length:=by
 rw [trimZ,List.length_reverse]
 have:=(List.dropWhile_suffix (l:=l.reverse) (p:=(· == 48))).length_le
 simpa using this
end Go.Proofs.YtdednahplodojaaGreatDoor

namespace Go.Proofs.YtdednahplodojaaGreatDoor
open Go.RowKit Go
mutual
def PE.size:PE→Nat
 | .mk _ _ _ _ _ _ kids _=>1+sizeE kids
def sizeE:List PE→Nat
 | []=>0
 | e :: l=>e.size+sizeE l
end
mutual
theorem PE.ats_len:∀ e:PE,e.ats.length=e.size
 | .mk _ _ _ _ _ _ kids _=>by rw [PE.ats,PE.size,List.length_cons,atsE_len kids,Nat.add_comm]
theorem atsE_len:∀ l:List PE,(atsE l).length=sizeE l
 | []=>rfl
 | e :: l=>by rw [atsE,sizeE,List.length_append,PE.ats_len e,atsE_len l]
end
theorem sizeE_mem:∀ (l:List PE) (e:PE),e∈l→e.size≤sizeE l
 | x :: l,e,h=>by
  rw [sizeE]
  rcases List.mem_cons.1 h with rfl|h
  ·omega
  ·have:=sizeE_mem l e h
   omega
theorem PE.size_def (e:PE):e.size=1+sizeE e.kids:=by cases e;rfl
theorem sizeE_few:∀ l:List PE,l.length≤sizeE l
 | []=>Nat.zero_le _
 | e :: l=>by
  have:=sizeE_few l
  rw [sizeE,e.size_def,List.length_cons]
  omega
theorem kids_sizeOf (e:PE):∀ x∈e.kids,SizeOf.sizeOf x<SizeOf.sizeOf e:=by
 intro x hx
 cases e with
 | mk op name module num txt yes kids at_ =>
  have:=List.sizeOf_lt_of_mem hx
  simp only [PE.mk.sizeOf_spec,PE.kids] at this ⊢
  omega
theorem EAt.slX {P:Nat→Prop}{w:World}{m k:Value}{x:PE}(h:EAt XA P w m k x):∃ am wn cm ae ce,m=.slice am wn cm∧k=.slice ae x.kids.length ce:=by
 obtain ⟨hnum,ae,ce,rfl,_,_⟩:=h.form
 obtain ⟨ws,hws,_⟩:=(hnum:NumAt _ _ _ _)
 obtain ⟨am,cm,rfl⟩:=hws.form
 exact ⟨am,_,cm,ae,ce,rfl,rfl⟩
def StrPost (l:List UInt8)(w:World)(r:Ending)(w':World):Prop:=r=.returned (.string ⟨l.toArray⟩)∧Below w.heap.size w w'
theorem row_form {W:World}{base n:Nat}{e:TypeId}{size:Nat}{v:Value}{xs:List Value}(h:W.ownsRow base e size v n xs)(h0:0<n):∃ g cap,v=.slice (some ⟨g,0,none⟩) n cap:=by
 rcases h.2 with ⟨_,h1⟩|⟨g,cap,_,rfl,_⟩
 ·omega
 ·exact ⟨g,cap,rfl⟩
theorem take_succ_at {α:Type}{l:List α}{k:Nat}(h:k<l.length):l.take (k+1)=l.take k++[l[k]]:=List.take_succ_eq_append_getElem h
theorem digit_get:∀ k:Nat,k<10→∀ h:k<(ByteArray.mk #[48,49,50,51,52,53,54,55,56,57]).size,(ByteArray.mk #[48,49,50,51,52,53,54,55,56,57])[k]'h=UInt8.ofNat (48+k)
 | 0,_=>fun _=>rfl
 | 1,_=>fun _=>rfl
 | 2,_=>fun _=>rfl
 | 3,_=>fun _=>rfl
 | 4,_=>fun _=>rfl
 | 5,_=>fun _=>rfl
 | 6,_=>fun _=>rfl
 | 7,_=>fun _=>rfl
 | 8,_=>fun _=>rfl
 | 9,_=>fun _=>rfl
 | n+10,h=>absurd h (by omega)
theorem byteRow_text (W:World){base g cap n:Nat}{l:List UInt8}(hn:l.length=n)(h:W.ownsRow base 5 1 (.slice (some ⟨g,0,none⟩) n cap) n (Lib.byteCells l)) :
  (convert 97 9 (.slice (some ⟨g,0,none⟩) n cap)).run Tryz.prog W=.ok (.string ⟨l.toArray⟩) W:=by
 subst hn
 refine run_convert_bytes_back _ 97 9 5 ⟨g,0,none⟩ cap l Tryz.underlying97 Tryz.underlying5 Tryz.underlying9 (fun j hj=>?_)
 obtain ⟨ao,c,hv,_,hl,hc⟩:=Sl.ofOwns h
 obtain ⟨b,o,ha,_,hcell⟩:=hc (by omega)
 simp only [Value.slice.injEq] at hv
 rw [ha] at hv
 simp only [Option.some.injEq,Addr.mk.injEq] at hv
 obtain ⟨⟨rfl,rfl,-⟩,-,-⟩:=hv
 rw [show Addr.add ⟨g,0,none⟩ j=⟨g,0+j,none⟩ by unfold Addr.add;split <;> simp_all]
 have:=hcell j (by rw [hl];omega)
 rw [this]
 simp [Lib.byteCells]
theorem Wd.append {wr w3:World}{o:Obj}{v v' m:Value}{us:List Nat}{g:Nat}(h:Wd (fun b=>some b≠v.ownBlock) wr m us)(hg:(wr.alloc o).grownBy w3 v.ownBlock)(hat:v.ownBlock=some g∨g=wr.heap.size+1)(hv:v'.ownBlock=some g) :
  Wd (fun b=>some b≠v'.ownBlock) w3 m us:=by
 have h1:Wd (fun b=>some b≠v.ownBlock∧some b≠v'.ownBlock) wr m us:=SlP.imp h fun b hb hlt=>⟨hb,fun q=>by
  rw [hv] at q
  rcases hat with e|e
  ·exact hb (by rw [e,q])
  ·injection q;omega⟩
 have h2:Wd (fun b=>some b≠v.ownBlock∧some b≠v'.ownBlock) (wr.alloc o) m us:=SlP.frame h1 ⟨by simp,fun b _ hb=>Lib.alloc_old _ _ _ hb⟩
 exact SlP.imp (SlP.frame h2 (Alk.grown hg fun b hb=>hb.1)) fun b hb _=>hb.2
theorem zstr_zero (b:Bool)(am:Option Addr)(cm:Nat)(w:World) :
  Calls Tryz.prog 86 #[.agg #[.bool b,.slice am 0 cm]] w (StrPost [48] w):=by
 go_enter Tryz.func86,Tryz.ntmps86
 go_wp2
 go_ret
 exact ⟨rfl,(Below.refl _ _).alloc (Nat.le_refl _) _⟩
theorem bytesRow_eq (S:ByteArray)(c:Nat):bytesRow S c=(Lib.byteCells S.data.toList++List.replicate (c - S.size) (Value.int .u8 0)).toArray:=by
 apply Array.ext'
 simp [bytesRow,Lib.byteCells]
theorem cells_text (W:World){g cap n:Nat}{l:List UInt8}{rest:List Value}{T:TypeId}{fr:Nat × Nat}(hn:l.length=n)(h:W.heap[g]?=some (.cells (Lib.byteCells l++rest).toArray T fr)) :
  (convert 97 9 (.slice (some ⟨g,0,none⟩) n cap)).run Tryz.prog W=.ok (.string ⟨l.toArray⟩) W:=by
 subst hn
 refine run_convert_bytes_back _ 97 9 5 ⟨g,0,none⟩ cap l Tryz.underlying97 Tryz.underlying5 Tryz.underlying9 (fun j hj=>?_)
 rw [show Addr.add ⟨g,0,none⟩ j=⟨g,j,none⟩ by unfold Addr.add;split <;> simp_all,Lib.cell_of_heap h,List.getElem?_toArray,List.getElem?_append_left (by simpa [Lib.byteCells] using hj)]
 simp [Lib.byteCells,hj]
def ZIn (bx:Array Value)(w:World)(n:Nat)(l:List UInt8)(v m:Value)(us:List Nat)(wr:World):Prop :=
 Wd (fun b=>some b≠v.ownBlock) wr m us∧wr.ownsRow w.heap.size 5 1 v n (Lib.byteCells l)∧Below w.heap.size w wr∧wr.heap[w.heap.size]?=some (.cells bx 37 (0,0))
def ZDig (bx:Array Value)(w:World)(n:Nat)(l:List UInt8)(r:Nat)(m:Value)(us:List Nat)(v q c:Value)(wr:World):Prop :=
 ∃ i:Nat,i≤9∧c=.int .i64 i∧q=.int .u64 ((r / 10 ^ i:Nat):Int)∧ZIn bx w (n+i) (l++lowD i r) v m us wr
def ZRound (bx:Array Value)(w:World)(N j:Nat)(v m:Value)(us:List Nat)(wr:World):Prop :=
 trimW us=us∧(∀ x∈us,x<4294967296)∧magV us=N / 10 ^ (9 * j)∧Wd (fun b=>some b≠v.ownBlock) wr m us∧wr.ownsRow w.heap.size 5 1 v (9 * j) (Lib.byteCells (lowD (9 * j) N))∧Below w.heap.size w wr∧wr.heap[w.heap.size]?=some (.cells bx 37 (0,0))
def ZStr (bx:Array Value)(w:World)(k N:Nat)(v m:Value)(wr:World):Prop:=∃ j us am cm,j+k=7∧m=.slice am us.length cm∧ZRound bx w N j v m us wr
theorem zstr_pos (P:Nat→Prop)(am:Option Addr)(cm:Nat)(n:Int)(ws:List Nat)(w:World)(h:Wd P w (.slice am ws.length cm) ws)(ht:trimW ws=ws)(hw:∀ x∈ws,x<4294967296)(hv:magV ws=n.natAbs)(hn:n.natAbs<10 ^ 60)(h0:0<ws.length) :
  Calls Tryz.prog 86 #[.agg #[.bool (decide (n<0)),.slice am ws.length cm]] w (StrPost (intF n) w):=by
 obtain ⟨i0,hi,hz0,hz1,hz2⟩:=info_parts Tryz.infoByte
 have hN0:0<n.natAbs:=by rw [← hv];exact trimW_pos ht (by intro q;rw [q] at h0;simp at h0)
 have h7:ws.length≤7:=magV_few ws 7 ht (by rw [hv];exact Nat.lt_trans hn (by decide))
 have HT:=Lib.hid (show n≠0 by omega)
 have HS:Hid (ZStr #[.bool (decide (n<0)),.slice am ws.length cm] w 7 n.natAbs (.slice none 0 0) (.slice am ws.length cm) (w.alloc (.cells #[.bool (decide (n<0)),.slice am ws.length cm] 37))):=Lib.hid ⟨0,ws,am,cm,rfl,rfl,ht,hw,by rw [hv];simp,SlP.imp (SlP.frame h ⟨by simp,fun b _ hb=>Lib.alloc_old _ _ _ hb⟩) (fun b _ _ q=>by cases q),World.ownsRow_nil _ _ _ _,(Below.refl _ _).alloc (Nat.le_refl _) _,heap_alloc_new w _⟩
 have HN:=Lib.hid hn
 have hwl:(0:Int)<(ws.length:Int):=by omega
 have hwn:((ws.length:Int) == 0)=false:=beq_eq_false_iff_ne.2 (by omega)
 clear h ht hw hv hn hN0
 generalize hng:decide (n<0)=ng at *
 have HNG:=Lib.hid hng
 clear hng
 go_enter Tryz.func86,Tryz.ntmps86
 go_upto_region 5 with fail
 go_loopg [3,4] 7 (fun k v m wr=>ZStr #[.bool ng,.slice am ws.length cm] w k n.natAbs v m wr)
 case atStart=>exact HS.out
 case round =>
  obtain ⟨j,us,au,cu,hjk,rfl,ht,hw,hm,hwd,hrow,hbl,hbx⟩:=hrel
  obtain ⟨v,rfl⟩:∃ v:Value,v=u3:=⟨_,rfl⟩
  obtain ⟨w1,rfl⟩:∃ w1:World,w1=wr:=⟨_,rfl⟩
  have hz:=hbl.size
  by_cases hu:us.length=0
  ·have hu':=List.length_eq_zero_iff.1 hu
   subst hu'
   have hlt:n.natAbs<10 ^ (9 * j):=by
    rw [magV] at hm
    exact (Nat.div_eq_zero_iff_lt (Nat.pow_pos (by omega))).1 hm.symm
   have HTX:=Lib.hid (int_text n (9 * j) HT.out hlt)
   have htl:=trim_len (lowD (9 * j) n.natAbs)
   rw [lowD_len] at htl
   have hll:=lowD_len (9 * j) n.natAbs
   have h9j:0<9 * j:=by
    rcases Nat.eq_zero_or_pos j with q|q
    ·subst q;simp at hlt;have:=HT.out;omega
    ·omega
   obtain ⟨g,cap,rfl⟩:=row_form hrow h9j
   have hcv:=byteRow_text w1 hll hrow
   have bx0:w1.cell? ⟨w.heap.size,0,none⟩=some (.bool ng):=by rw [Lib.cell_of_heap hbx];rfl
   have HTR:=Lib.hid (Tryz.strings_TrimRight_one ⟨(lowD (9 * j) n.natAbs).toArray⟩ 48 (by decide) w1 (by rw [← size_list];simp [hll];omega))
   simp only [trim_right] at HTR
   generalize lowD (9 * j) n.natAbs=l at htl hll hcv HTX HTR hrow
   obtain ⟨TZ,hTZ,eTZ⟩:=bytes_of (trimZ l)
   rw [eTZ] at HTR
   have HTZ:=Lib.hid hTZ
   have htz:TZ.size≤9 * j:=by rw [← size_list,hTZ];exact htl
   have hcb:=fun (W:World) (S:ByteArray)=>run_bytes_of_string (P:=Tryz.prog) W 9 97 5 S Tryz.underlying9 Tryz.underlying97 Tryz.underlying5
   have HBL:=Lib.hid hbl
   clear hTZ eTZ htl hll hwd hrow ht hw hm hlt hbl
   go_upto_if 37 with (go_at_call 131;refine HTR.out.mono ?_;rintro e w2 ⟨rfl,hww⟩;obtain rfl:w1=w2:=hww.symm)
   go_cut [6] (fun s wc=>∃ S:ByteArray,s=.string S∧S.data.toList.reverse=intF n∧S.size≤70∧wc=w1)
   case first =>
    cases ng with
    | true =>
     have hn0:=of_decide_eq_true HNG.out
     have HR:Hid ((trimZ l++[45]).reverse=intF n):=Lib.hid (by have:=HTX.out;rw [if_pos hn0] at this;exact this)
     clear hn0
     go_wp2
     go_meet
     exact ⟨_,rfl,by rw [append_list,HTZ.out,← HR.out],by simp [ByteArray.size_append];show TZ.size+1≤70;omega,rfl⟩
    | false =>
     have hn0:=of_decide_eq_false HNG.out
     have HR:Hid ((trimZ l).reverse=intF n):=Lib.hid (by have:=HTX.out;rw [if_neg hn0,List.append_nil] at this;exact this)
     clear hn0
     go_wp2
     go_meet
     exact ⟨TZ,rfl,by rw [HTZ.out,HR.out],by omega,rfl⟩
   case rest =>
    obtain ⟨S,rfl,hS,hSz,rfl⟩:=hcut
    obtain ⟨wo,rfl⟩:∃ wo:World,wo=wc:=⟨_,rfl⟩
    have HSS:=Lib.hid hS
    have hcS:=hcb wo S
    rw [bytesRow_eq] at hcS
    have hnew:=heap_alloc_new wo.drew (.cells (Lib.byteCells S.data.toList++List.replicate (grownCap wo S.size 0 5 - S.size) (Value.int .u8 0)).toArray 5 ((Lib.byteCells S.data.toList++List.replicate (grownCap wo S.size 0 5 - S.size) (Value.int .u8 0)).toArray.size,(Lib.byteCells S.data.toList++List.replicate (grownCap wo S.size 0 5 - S.size) (Value.int .u8 0)).toArray.size+1))
    have hbn:=below_new wo.drew (.cells (Lib.byteCells S.data.toList++List.replicate (grownCap wo S.size 0 5 - S.size) (Value.int .u8 0)).toArray 5 ((Lib.byteCells S.data.toList++List.replicate (grownCap wo S.size 0 5 - S.size) (Value.int .u8 0)).toArray.size,(Lib.byteCells S.data.toList++List.replicate (grownCap wo S.size 0 5 - S.size) (Value.int .u8 0)).toArray.size+1))
    have hfz:S.data.toList.length≤((Lib.byteCells S.data.toList++List.replicate (grownCap wo S.size 0 5 - S.size) (Value.int .u8 0)).toArray.size,(Lib.byteCells S.data.toList++List.replicate (grownCap wo S.size 0 5 - S.size) (Value.int .u8 0)).toArray.size+1).1:=by simp [Lib.byteCells]
    generalize List.replicate (grownCap wo S.size 0 5 - S.size) (Value.int .u8 0)=rest at *
    generalize ((Lib.byteCells S.data.toList++rest).toArray.size,(Lib.byteCells S.data.toList++rest).toArray.size+1)=fr at *
    generalize grownCap wo S.size 0 5=cp at *
    generalize wo.drew.alloc _=w5 at hcS hnew hbn
    have hrv:=byteRev_any wo.heap.size cp S.data.toList rest fr w5 hnew hfz (by rw [size_list];omega)
    rw [size_list] at hrv
    have HRV:=Lib.hid hrv
    clear hcb hrv hnew hfz hS hcv bx0
    go_wp2_with (go_at_call 132;refine HRV.out.mono ?_;rintro e w6 ⟨rfl,hh6,hs6,ho6,hb6⟩;have hct:=cells_text (cap:=cp) (n:=S.size) w6 (by simp) hh6)
    go_ret
    exact ⟨by rw [HSS.out];rfl,(HBL.out.drew.trans (hbn.mono hz)).trans (hb6.mono hz)⟩
  ·have hul:(0:Int)<(us.length:Int):=by omega
   have hmp:=trimW_pos ht (by intro q;rw [q] at hu;exact hu rfl)
   have hj6:j≤6:=by
    rcases Nat.lt_or_ge 6 j with q|q
    ·obtain rfl:j=7:=by omega
     rw [Nat.div_eq_of_lt (Nat.lt_trans HN.out (by decide))] at hm
     omega
    ·exact q
   have hfew:us.length≤7:=magV_few us 7 ht (by rw [hm];exact Nat.lt_of_le_of_lt (Nat.div_le_self _ _) (Nat.lt_trans HN.out (by decide)))
   have HSH:=Lib.hid (zshort_any _ au cu us 1000000000 w1 hwd hw (by omega) (by omega) (by omega))
   obtain ⟨hd1,hd2⟩:=short_div us n.natAbs (9 * j) hm
   have hr9:=shortF_rest 1000000000 (by omega) us
   have htr:=trimW_idem (shortF 1000000000 us).1
   have hlt2:∀ x∈trimW (shortF 1000000000 us).1,x<4294967296:=fun x hx=>shortF_lt 1000000000 (by omega) us hw x (trimW_mem _ _ hx)
   have hlow:=lowD_nine (9 * j) n.natAbs
   rw [← hd2] at hlow
   have HLW:=Lib.hid hlow
   have HM:=Lib.hid (show trimW (trimW (shortF 1000000000 us).1)=trimW (shortF 1000000000 us).1∧(∀ x∈trimW (shortF 1000000000 us).1,x<4294967296)∧magV (trimW (shortF 1000000000 us).1)=n.natAbs / 10 ^ (9 * (j+1)) from ⟨htr,hlt2,by rw [hd1,Nat.mul_add]⟩)
   unfold ShortPost at HSH
   generalize (shortF 1000000000 us).2=r at HSH hr9 HLW
   generalize trimW (shortF 1000000000 us).1=us2 at HSH HM
   generalize lowD (9 * j) n.natAbs=l at hrow HLW
   clear hwd hw ht hm hmp hd1 hd2 htr hlt2 hlow
   go_upto_region 8 with (go_at_call 130;refine HSH.out.mono ?_;rintro e w2 ⟨c2,rfl,hwd2,hb2⟩)
   have hzb2:=hb2.size
   have hown:∀ q,v.ownBlock=some q→w.heap.size≤q∧q<w1.heap.size:=fun q hq=>hrow.lt q hq
   have HI:Hid (ZDig #[.bool ng,.slice am ws.length cm] w (9 * j) l r (.slice (some ⟨w1.heap.size,0,none⟩) us2.length c2) us2 v (.int .u64 (r:Int)) (.int .i64 (0:Nat)) w2):=Lib.hid ⟨0,by omega,rfl,by simp,SlP.imp hwd2 (fun b hb _ q=>by have:=(hown b q.symm).2;omega),by simpa [lowD] using own_below hrow hb2,hbl.trans (hb2.mono hz),(hb2.block _ (Array.getElem?_eq_some_iff.1 hbx).1).trans hbx⟩
   clear hown hrow hwd2 hb2 hbl hbx
   go_wp2
   go_loopw [3,5,22] (fun v q c W=>ZDig #[.bool ng,.slice am ws.length cm] w (9 * j) l r (.slice (some ⟨w1.heap.size,0,none⟩) us2.length c2) us2 v q c W) (fun _ _ c _=>9 - (intOf c).toNat)
   case atStart=>exact HI.out
   case round =>
    obtain ⟨i,hi9,rfl,rfl,hwd,hrow,hbl,hbx⟩:=hrel
    have hzW:=hbl.size
    by_cases hlt:i<9
    ·have hq9:r / 10 ^ i<1000000000:=Nat.lt_of_le_of_lt (Nat.div_le_self _ _) hr9
     have hsn:=lowD_snoc i r
     have hdv:r / 10 ^ (i+1)=r / 10 ^ i / 10:=by rw [Nat.pow_succ,Nat.div_div_eq_div_mul]
     have HDV:=Lib.hid hdv
     have HSN:=Lib.hid hsn
     generalize r / 10 ^ i=q at hq9 HDV HSN ⊢
     have hix:=digit_get (q % 10) (by omega)
     generalize UInt8.ofNat (48+q % 10)=c at hix HSN
     have hiI:(i:Int)<9:=by omega
     clear hsn hdv
     go_wp2_with (at_builtin;refine wpList_append_lies _ rfl _ _ 97 rfl w.heap.size 5 i0 (.int .u8 0) 1 1 Tryz.underlying97 hi hz0 hz1 hz2 rfl (by decide) _ (9 * j+i) _ rfl (hrow.alloc _) ⟨wr.heap.size,0,none⟩ 1 1 [.int .u8 (c.toNat:Int)] rfl rfl ?c1 ?c2 ?c3 ?c4 ?c5 ?c6 _ rfl ?_)
     case c1 =>
      intro j' u hj'
      exact World.news_of_block (cs:=#[.int .u8 (c.toNat:Int)]) (t:=5) (fr:=(0,0)) (heap_alloc_new wr _) j' u (by simpa using hj')
     case c2=>simp [Value.oneCell']
     case c3=>omega
     case c4=>unfold maxLen;omega
     case c5=>omega
     case c6=>simp;omega
     intro g cap w3 hown3 hgrow3 hat3 hlt3
     have hwd3:=Wd.append (v':=.slice (some ⟨g,0,none⟩) (9 * j+i+1) cap) hwd hgrow3 (by simpa using hat3) rfl
     have hb3:Below w.heap.size w w3:=(hbl.alloc hzW _).grown hgrow3 (by simp;omega) (fun q hq=>by have:=(hrow.lt q hq).1;omega)
     have HIN:Hid (ZIn #[.bool ng,.slice am ws.length cm] w (9 * j+(i+1)) (l++lowD (i+1) r) (.slice (some ⟨g,0,none⟩) (9 * j+i+1) cap) (.slice (some ⟨w1.heap.size,0,none⟩) us2.length c2) us2 w3):=Lib.hid ⟨hwd3,by rw [HSN.out,← List.append_assoc,Lib.byteCells_append];exact hown3,hb3,own_block (hrow.alloc _) hgrow3 ((Lib.alloc_old _ _ _ (Array.getElem?_eq_some_iff.1 hbx).1).trans hbx) (by decide)⟩
     clear hwd3 hb3 hown3 hgrow3 hat3 hlt3 hwd hrow hbl hix hbx
     go_wp2
     exact ⟨⟨i+1,by omega,by go_num,by rw [HDV.out];exact val_int (by omega),HIN.out⟩,by simp [intOf];omega⟩
    ·obtain rfl:i=9:=by omega
     have HO:Hid (ZRound #[.bool ng,.slice am ws.length cm] w n.natAbs (j+1) u3 (.slice (some ⟨w1.heap.size,0,none⟩) us2.length c2) us2 wr):=Lib.hid ⟨HM.out.1,HM.out.2.1,HM.out.2.2,hwd,by rw [Nat.mul_add,HLW.out];exact hrow,hbl,hbx⟩
     clear hwd hrow hbl hbx
     go_wp2
     go_roundg (6 - j)
     case measure=>omega
     case rel=>exact ⟨j+1,us2,_,c2,by omega,rfl,HO.out⟩
theorem zstr_any (P:Nat→Prop)(am:Option Addr)(wn cm:Nat)(n:Int)(w:World)(h:NumAt P w n (.slice am wn cm))(hn:n.natAbs<10 ^ 60) :
  Calls Tryz.prog 86 #[.agg #[.bool (decide (n<0)),.slice am wn cm]] w (StrPost (intF n) w):=by
 obtain ⟨ws,h1,h2,h3,h4⟩:=h
 obtain ⟨ao,cap,hv⟩:=h1.form
 simp only [Value.slice.injEq] at hv
 obtain ⟨rfl,rfl,rfl⟩:=hv
 by_cases h0:ws.length=0
 ·have hw:=List.length_eq_zero_iff.1 h0
  subst hw
  have hz:n=0:=by rw [magV] at h4;omega
  subst hz
  have e:intF 0=[48]:=by
   have:=intF_nat 0
   rw [show ((0:Nat):Int)=0 from rfl] at this
   rw [this,decF,dif_pos (by omega)]
   rfl
  rw [e]
  exact zstr_zero _ _ _ _
 ·exact zstr_pos P _ _ n ws w h1 h2 h3 h4 hn (by omega)
def boxZ (op:Int)(NM MD:ByteArray)(ng:Bool)(mv:Value)(ys:Bool)(kv:Value)(a_:Int):Array Value:=#[.int .i64 op,.string NM,.string MD,.bool ng,mv,.bool ys,kv,.int .i64 a_]
theorem boxZ_cells {w:World}{b:Nat}{op:Int}{NM MD:ByteArray}{ng ys:Bool}{mv kv:Value}{a_:Int}(h:w.heap[b]?=some (.cells (boxZ op NM MD ng mv ys kv a_) 40 (0,0))) :
    w.cell? ⟨b,0,none⟩=some (.int .i64 op)∧w.cell? ⟨b,1,none⟩=some (.string NM)∧w.cell? ⟨b,2,none⟩=some (.string MD)∧w.cell? ⟨b,3,none⟩=some (.bool ng)∧w.cell? ⟨b,4,none⟩=some mv∧w.cell? ⟨b,5,none⟩=some (.bool ys)∧w.cell? ⟨b,6,none⟩=some kv∧w.cell? ⟨b,7,none⟩=some (.int .i64 a_):=by
  refine ⟨?_,?_,?_,?_,?_,?_,?_,?_⟩ <;> (rw [Lib.cell_of_heap h];rfl)
theorem empty_two (s:ByteArray):s.toList.isEmpty=decide (s.data.toList=[])∧(s.toList == [])=decide (s.data.toList=[]):=by
  rw [Go.ByteArray.toList_eq]
  cases s.data.toList with
  | nil=>exact ⟨rfl,rfl⟩
  | cons c l=>exact ⟨by simp,by simp⟩
theorem names_any (op:Int)(NM MD:ByteArray)(ng:Bool)(am:Option Addr)(wn cm:Nat)(ys:Bool)(ae:Option Addr)(wk ce:Nat)(a_:Int)(w:World)(h1:NM.size≤1099511627776)(h2:MD.size≤1099511627776) :
    Calls Tryz.prog 134 #[.agg #[.int .i64 op,.string NM,.string MD,.bool ng,.slice am wn cm,.bool ys,.slice ae wk ce,.int .i64 a_]] w fun r w'=>r=.returned (.bool (namesB op NM.data.toList MD.data.toList))∧Below w.heap.size w w':=by
  have P1:=Lib.hid (fun W=>lplain_any NM W h1)
  have P2:=Lib.hid (fun W=>lplain_any MD W h2)
  obtain ⟨q1,q2⟩:=empty_two MD
  obtain ⟨q3,q4⟩:=empty_two NM
  have hN:namesB op NM.data.toList MD.data.toList=if op=3∨op=22 then plainB NM.data.toList && decide (MD.data.toList=[]) else if op=24 then plainB NM.data.toList && (decide (MD.data.toList=[]) || plainB MD.data.toList) else decide (NM.data.toList=[]) && decide (MD.data.toList=[]):=rfl
  rw [hN]
  clear hN
  generalize decide (MD.data.toList=[])=eM at *
  generalize decide (NM.data.toList=[])=eN at *
  generalize plainB NM.data.toList=pN at *
  generalize plainB MD.data.toList=pM at *
  obtain ⟨res,hres⟩:∃ res,res=if op=3∨op=22 then pN && eM else if op=24 then pN && (eM || pM) else eN && eM:=⟨_,rfl⟩
  rw [← hres]
  have HR:=Lib.hid hres
  clear hres
  have hb0:=below_new w (.cells (boxZ op NM MD ng (.slice am wn cm) ys (.slice ae wk ce) a_) 40)
  have hB:=heap_alloc_new w (.cells (boxZ op NM MD ng (.slice am wn cm) ys (.slice ae wk ce) a_) 40)
  have hs0:w.heap.size<(w.alloc (.cells (boxZ op NM MD ng (.slice am wn cm) ys (.slice ae wk ce) a_) 40)).heap.size:=by simp
  go_enter Tryz.func134,Tryz.ntmps134
  go_upto_region 1 with fail
  change Code.wp _ _ _ _ (w.alloc (.cells (boxZ op NM MD ng (.slice am wn cm) ys (.slice ae wk ce) a_) 40))
  generalize w.alloc _=w0 at hb0 hB hs0 ⊢
  obtain ⟨y0,y1,y2,-⟩:=boxZ_cells hB
  by_cases h3:op=3∨op=22
  · rcases h3 with rfl|rfl <;> cases pN <;> cases eM <;>
      (go_wp2_with (go_at_call 55;refine (P1.out _).mono ?_;rintro r w1 ⟨rfl,hb1⟩;have z2:=(hb1.cell (p:=⟨w.heap.size,2,none⟩) hs0).trans y2)
       go_ret;exact ⟨ret_bool (by rw [HR.out];rfl),hb0.trans (hb1.mono hb0.size)⟩)
  · have H3:=Lib.hid h3
    have t3:(op == 3)=false:=beq_eq_false_iff_ne.2 fun q=>h3 (.inl q)
    have t22:(op == 22)=false:=beq_eq_false_iff_ne.2 fun q=>h3 (.inr q)
    by_cases h24:op=24
    · subst h24
      clear h3 t3 t22
      cases pN <;> cases eM <;> cases pM <;>
        (go_wp2_with (first|(go_at_call 55;(with_reducible refine (P1.out w0).mono ?_);rintro r w1 ⟨rfl,hb1⟩;have hs1:=hb1.size;have z2:=(hb1.cell (p:=⟨w.heap.size,2,none⟩) hs0).trans y2)|(go_at_call 55;(with_reducible refine (P2.out _).mono ?_);rintro r w2 ⟨rfl,hb2⟩))
         go_ret;first|exact ⟨ret_bool (by rw [HR.out];rfl),hb0.trans (hb1.mono hb0.size)⟩|exact ⟨ret_bool (by rw [HR.out];rfl),(hb0.trans (hb1.mono hb0.size)).trans (hb2.mono (by omega))⟩)
    · have H24:=Lib.hid h24
      have t24:(op == 24)=false:=beq_eq_false_iff_ne.2 h24
      clear h3 h24
      cases eN <;> cases eM <;> (go_wp2;go_ret;exact ⟨ret_bool (by rw [HR.out,if_neg H3.out,if_neg H24.out];rfl),hb0⟩)
theorem may_any (op:Int)(fm:Bool)(w:World):Calls Tryz.prog 133 #[.int .i64 op,.int .i64 (if fm=true then 0 else 1)] w fun r w'=>r=.returned (.bool (mayB fm op))∧w=w':=by
  have h:mayB fm op=if fm=true then decide (op≤20) else decide (op≠4):=rfl
  rw [h]
  clear h
  cases fm with
  | true =>
    simp only [if_true]
    have e:decide (op≤20)=decide (op<21):=by by_cases q:op≤20 <;> simp <;> omega
    rw [e]
    go_enter Tryz.func133,Tryz.ntmps133
    go_wp2
    go_ret
    exact ⟨rfl,rfl⟩
  | false =>
    simp only [Bool.false_eq_true,if_false]
    have e:decide (op≠4)=!(op == 4):=by by_cases q:op=4 <;> simp [q]
    rw [e]
    go_enter Tryz.func133,Tryz.ntmps133
    go_wp2
    go_ret
    exact ⟨rfl,rfl⟩
def kidsN (op:Int):Int:=if op≤4 then 0 else if op≤6 then 1 else if op≤20∨op=22∨op=23 then 2 else if op=21 then 3 else -1
theorem kids_any (op:Int)(w:World):Calls Tryz.prog 136 #[.int .i64 op] w fun r w'=>r=.returned (.int .i64 (kidsN op))∧w=w':=by
  unfold kidsN
  by_cases h4:op≤4
  · rw [if_pos h4]
    go_enter Tryz.func136,Tryz.ntmps136
    go_wp2;go_ret;exact ⟨rfl,rfl⟩
  rw [if_neg h4]
  have t4:4<op:=by omega
  by_cases h6:op≤6
  · rw [if_pos h6]
    go_enter Tryz.func136,Tryz.ntmps136
    go_wp2;go_ret;exact ⟨rfl,rfl⟩
  rw [if_neg h6]
  have t6:6<op:=by omega
  by_cases h20:op≤20
  · rw [if_pos (.inl h20)]
    go_enter Tryz.func136,Tryz.ntmps136
    go_wp2;go_ret;exact ⟨rfl,rfl⟩
  have t20:20<op:=by omega
  by_cases h22:op=22
  · subst h22
    rw [if_pos (.inr (.inl rfl))]
    go_enter Tryz.func136,Tryz.ntmps136
    go_wp2;go_ret;exact ⟨rfl,rfl⟩
  by_cases h23:op=23
  · subst h23
    rw [if_pos (.inr (.inr rfl))]
    go_enter Tryz.func136,Tryz.ntmps136
    go_wp2;go_ret;exact ⟨rfl,rfl⟩
  rw [if_neg (by rintro (h|h|h) <;> omega)]
  have t22:(op == 22)=false:=beq_eq_false_iff_ne.2 h22
  have t23:(op == 23)=false:=beq_eq_false_iff_ne.2 h23
  by_cases h21:op=21
  · subst h21
    go_enter Tryz.func136,Tryz.ntmps136
    go_wp2;go_ret;exact ⟨rfl,rfl⟩
  rw [if_neg h21]
  have t21:(op == 21)=false:=beq_eq_false_iff_ne.2 h21
  clear h22 h23 h21
  go_enter Tryz.func136,Tryz.ntmps136
  go_wp2;go_ret;exact ⟨rfl,rfl⟩
theorem values_any (P:Nat→Prop)(op:Int)(NM MD:ByteArray)(n:Int)(am:Option Addr)(wn cm:Nat)(ys:Bool)(ae:Option Addr)(wk ce:Nat)(a_:Int)(w:World)(h:NumAt P w n (.slice am wn cm))(hn:n.natAbs<10 ^ 60) :
    Calls Tryz.prog 135 #[.agg #[.int .i64 op,.string NM,.string MD,.bool (decide (n<0)),.slice am wn cm,.bool ys,.slice ae wk ce,.int .i64 a_]] w fun r w'=>r=.returned (.bool (valuesB op n ys))∧Below w.heap.size w w':=by
  have HS:=Lib.hid (fun W (hW:Below w.heap.size w W)=>zsign_any P am wn cm n W (YA.frame h (Alk.of hW)))
  have HT:=Lib.hid (fun W (hW:Below w.heap.size w W)=>zstr_any P am wn cm n W (XA.frame h (Alk.of hW)) hn)
  have hV:valuesB op n ys=if op=1 then decide (0≤n) && decide ((intF n).length≤60) && !ys else decide (n=0) && (decide (op=2) || !ys):=rfl
  rw [hV]
  clear hV h hn
  obtain ⟨TX,hTX,eT⟩:=bytes_of (intF n)
  rw [← hTX,size_list]
  rw [show intF n=TX.data.toList from hTX.symm] at HT
  have HT:Hid (∀ W,Below w.heap.size w W→Calls Tryz.prog 86 #[.agg #[.bool (decide (n<0)),.slice am wn cm]] W fun r w'=>r=.returned (.string TX)∧Below W.heap.size W w'):=Lib.hid fun W hW=>(HT.out W hW).mono fun r w' q=>⟨by rw [q.1],q.2⟩
  have h0:decide (0≤n)=decide (0≤n.sign):=by
    rcases Int.lt_trichotomy n 0 with q|q|q
    · rw [Int.sign_eq_neg_one_of_neg q,decide_eq_false (by omega),decide_eq_false (by omega)]
    · subst q;rfl
    · rw [Int.sign_eq_one_of_pos q,decide_eq_true (by omega),decide_eq_true (by omega)]
  have h1:decide (n=0)=(n.sign == 0):=by
    rcases Int.lt_trichotomy n 0 with q|q|q
    · rw [Int.sign_eq_neg_one_of_neg q,decide_eq_false (by omega)];rfl
    · subst q;rfl
    · rw [Int.sign_eq_one_of_pos q,decide_eq_false (by omega)];rfl
  rw [h0,h1]
  clear h0 h1 hTX eT
  generalize decide (n<0)=ng at *
  generalize n.sign=sg at *
  obtain ⟨res,hres⟩:∃ res,res=if op=1 then decide (0≤sg) && decide (TX.size≤60) && !ys else sg == 0 && (decide (op=2) || !ys):=⟨_,rfl⟩
  rw [← hres]
  have HR:=Lib.hid hres
  clear hres
  have hb0:=below_new w (.cells (boxZ op NM MD ng (.slice am wn cm) ys (.slice ae wk ce) a_) 40)
  have hB:=heap_alloc_new w (.cells (boxZ op NM MD ng (.slice am wn cm) ys (.slice ae wk ce) a_) 40)
  have hs0:w.heap.size<(w.alloc (.cells (boxZ op NM MD ng (.slice am wn cm) ys (.slice ae wk ce) a_) 40)).heap.size:=by simp
  go_enter Tryz.func135,Tryz.ntmps135
  go_upto_region 1 with fail
  change Code.wp _ _ _ _ (w.alloc (.cells (boxZ op NM MD ng (.slice am wn cm) ys (.slice ae wk ce) a_) 40))
  generalize w.alloc _=w0 at hb0 hB hs0 ⊢
  obtain ⟨y0,y1,y2,y3,y4,y5,-⟩:=boxZ_cells hB
  by_cases h1:op=1
  · subst h1
    have HR2:Hid (res=(decide (0≤sg) && decide (TX.size≤60) && !ys)):=Lib.hid (by rw [HR.out,if_pos rfl])
    clear HR
    generalize hg:decide (0≤sg)=g0 at HR2
    have hl2:decide (TX.size≤60)=decide ((TX.size:Int)≤60):=by by_cases q:TX.size≤60 <;> simp <;> omega
    rw [hl2] at HR2
    clear hl2
    generalize hl:decide ((TX.size:Int)≤60)=l0 at HR2
    cases g0 <;> cases l0 <;> cases ys <;>
      (go_wp2_with (first|(go_at_call 171;refine (HS.out _ hb0).mono ?_;rintro r w1 ⟨rfl,hb1⟩;have hbw:=hb0.trans (hb1.mono hb0.size);have hs1:=hb1.size;have z3:=(hb1.cell (p:=⟨w.heap.size,3,none⟩) hs0).trans y3;have z4:=(hb1.cell (p:=⟨w.heap.size,4,none⟩) hs0).trans y4;have z5:=(hb1.cell (p:=⟨w.heap.size,5,none⟩) hs0).trans y5)|(go_at_call 86;refine (HT.out _ hbw).mono ?_;rintro r w2 ⟨rfl,hb2⟩;have x5:=(hb2.cell (p:=⟨w.heap.size,5,none⟩) (by show w.heap.size<_;omega)).trans z5))
       go_ret;first|exact ⟨ret_bool (by rw [HR2.out];rfl),hbw⟩|exact ⟨ret_bool (by rw [HR2.out];rfl),hbw.trans (hb2.mono (by omega))⟩)
  · have HR2:Hid (res=(sg == 0 && (decide (op=2) || !ys))):=Lib.hid (by rw [HR.out,if_neg h1])
    clear HR
    have t1:(op == 1)=false:=beq_eq_false_iff_ne.2 h1
    have t2:(op == 2)=decide (op=2):=by
      by_cases q:op=2
      · subst q;rfl
      · rw [decide_eq_false q];exact beq_eq_false_iff_ne.2 q
    generalize decide (op=2)=d2 at *
    generalize hg:(sg == 0)=g0 at *
    clear h1
    cases g0 <;> cases d2 <;> cases ys <;>
      (go_wp2_with (go_at_call 171;refine (HS.out _ hb0).mono ?_;rintro r w1 ⟨rfl,hb1⟩;have hbw:=hb0.trans (hb1.mono hb0.size);have z0:=(hb1.cell (p:=⟨w.heap.size,0,none⟩) hs0).trans y0;have z5:=(hb1.cell (p:=⟨w.heap.size,5,none⟩) hs0).trans y5)
       go_ret;exact ⟨ret_bool (by rw [HR2.out];rfl),hbw⟩)
end Go.Proofs.YtdednahplodojaaGreatDoor

namespace Go.Proofs.YtdednahplodojaaGreatDoor
structure Pc where
  lead:List UInt8
  kind:Nat
  text:List UInt8
def bytesP:List Pc→List UInt8
  | []=>[]
  | p :: l=>p.lead++p.text++bytesP l
theorem bytesP_append:∀ a b:List Pc,bytesP (a++b)=bytesP a++bytesP b
  | [],b=>rfl
  | p :: a,b=>by rw [List.cons_append,bytesP,bytesP,bytesP_append a b];simp
def endB (k:Nat)(t:List UInt8)(c:Option UInt8):Bool :=
  match c with
  | none=>true
  | some c=>if k=4 then decide (signF (t++[c])=some t) && !(decide (t=[45]) && decide (c=45)) else if k=3 then !digitB c else !insideB c
def pieceB (p:Pc):Bool :=
  p.lead.all blankB &&
  (if p.kind=4 then decide (p.text∈signL)
   else if p.kind=3 then p.text.all digitB && decide (0<p.text.length) && decide (p.text.length≤60) && (decide (p.text.length=1) || !decide (p.text[0]?=some 48))
   else p.text.all insideB && (p.text.headD 0 |> letterB) && decide (0<p.text.length) && decide (p.text.length≤40) && decide (p.kind=if p.text∈keyL then 2 else 1))
def okP:List Pc→List UInt8→Prop
  | [],_=>True
  | p :: l,e=>pieceB p=true∧endB p.kind p.text (bytesP l++e).head?=true∧okP l e
def toksP (p:Nat):List Pc→List Tok
  | []=>[]
  | x :: l=>⟨x.kind,x.lead,x.text,p+x.lead.length⟩ :: toksP (p+x.lead.length+x.text.length) l
theorem okP_append:∀ {a b:List Pc} {e:List UInt8},okP (a++b) e↔okP a (bytesP b++e)∧okP b e
  | [],b,e=>by simp [okP]
  | p :: a,b,e=>by
    rw [List.cons_append,okP,okP,okP_append (a:=a),bytesP_append,List.append_assoc]
    constructor
    · rintro ⟨h1,h2,h3,h4⟩;exact ⟨⟨h1,h2,h3⟩,h4⟩
    · rintro ⟨⟨h1,h2,h3⟩,h4⟩;exact ⟨h1,h2,h3,h4⟩
theorem tw_all {p:UInt8→Bool}:∀ {t r:List UInt8},t.all p=true→(∀ c,r.head?=some c→p c=false)→(t++r).takeWhile p=t
  | [],[],_,_=>rfl
  | [],c :: r,_,h=>by rw [List.nil_append,List.takeWhile_cons_of_neg (by rw [h c rfl];decide)]
  | x :: t,r,h,h2=>by
    rw [List.all_cons,Bool.and_eq_true] at h
    rw [List.cons_append,List.takeWhile_cons_of_pos h.1,tw_all h.2 h2]
theorem signF_two (a b:UInt8)(r:List UInt8):signF (a :: b :: r)=signF [a,b]:=by
  simp [signF,signL,twoL,oneL,List.find?,List.isPrefixOf]
theorem sign_two:∀ t∈signL,(∃ a,t=[a])∨∃ a b,t=[a,b]:=by
  have:∀ t∈signL,t.length=1∨t.length=2:=by decide
  intro t ht
  rcases this t ht with h|h
  · exact .inl (List.length_eq_one_iff.1 h)
  · match t,h with
    | [a,b],_=>exact .inr ⟨a,b,rfl⟩
theorem sign_whole:∀ t∈signL,signF t=some t:=by decide
theorem sign_head:∀ t∈signL,∀ c,t.head?=some c→letterB c=false∧digitB c=false∧blankB c=false:=by
  have:∀ t∈signL,letterB (t.headD 0)=false∧digitB (t.headD 0)=false∧blankB (t.headD 0)=false:=by decide
  intro t ht c hc
  cases t with
  | nil=>cases hc
  | cons x r=>cases hc;exact this _ ht
theorem signF_at {t r:List UInt8}(ht:t∈signL)(h:∀ c,r.head?=some c→signF (t++[c])=some t):signF (t++r)=some t:=by
  cases r with
  | nil=>rw [List.append_nil];exact sign_whole t ht
  | cons c r =>
    have hc:=h c rfl
    rcases sign_two t ht with ⟨a,rfl⟩|⟨a,b,rfl⟩
    · rw [List.cons_append,List.nil_append,signF_two];exact hc
    · rw [List.cons_append,List.cons_append,List.nil_append,signF_two];exact sign_whole _ ht
theorem letter_no (c:UInt8)(h:letterB c=true):digitB c=false∧blankB c=false∧c≠45:=by
  have:∀ n:Fin 256,letterB (UInt8.ofNat n.val)=true→digitB (UInt8.ofNat n.val)=false∧blankB (UInt8.ofNat n.val)=false∧UInt8.ofNat n.val≠45:=by decide +kernel
  have h1:=this ⟨c.toNat,c.toNat_lt⟩
  rw [UInt8.ofNat_toNat] at h1
  exact h1 h
theorem digit_no (c:UInt8)(h:digitB c=true):letterB c=false∧blankB c=false∧c≠45:=by
  have:∀ n:Fin 256,digitB (UInt8.ofNat n.val)=true→letterB (UInt8.ofNat n.val)=false∧blankB (UInt8.ofNat n.val)=false∧UInt8.ofNat n.val≠45:=by decide +kernel
  have h1:=this ⟨c.toNat,c.toNat_lt⟩
  rw [UInt8.ofNat_toNat] at h1
  exact h1 h
theorem piece_tok {p:Pc}{r:List UInt8}(h:pieceB p=true)(he:endB p.kind p.text r.head?=true):tokF (p.text++r)=(p.kind,p.text.length,0)∧p.kind≠5∧0<p.text.length∧leadF false (p.text++r)=0:=by
  obtain ⟨ld,k,t⟩:=p
  simp only [pieceB,Bool.and_eq_true] at h he ⊢
  obtain ⟨_,h⟩:=h
  by_cases h4:k=4
  · subst h4
    rw [if_pos rfl,decide_eq_true_eq] at h
    have hs:signF (t++r)=some t:=signF_at h fun c hc=>by
      rw [hc,endB,if_pos rfl,Bool.and_eq_true,decide_eq_true_eq] at he
      exact he.1
    have h45:¬ (t=[45]∧r.head?=some 45):=by
      rintro ⟨rfl,q⟩
      rw [q,endB,if_pos rfl,Bool.and_eq_true] at he
      exact absurd he.2 (by decide)
    cases t with
    | nil=>exact absurd h (by decide)
    | cons c t =>
      obtain ⟨h1,h2,h3⟩:=sign_head _ h c rfl
      refine ⟨?_,by decide,by simp,?_⟩
      · rw [List.cons_append,tokF,h1,h2,if_neg (by decide),if_neg (by decide),symF]
        rw [List.cons_append] at hs
        rw [hs]
      · rw [List.cons_append,leadF,h3,if_neg (by decide),if_neg]
        rintro ⟨rfl,q⟩
        have:∀ x∈signL,x.head?=some 45→x=[45]:=by decide
        have h5:=this _ h rfl
        simp only [List.cons.injEq,true_and] at h5
        subst h5
        exact h45 ⟨rfl,q⟩
  rw [if_neg h4] at h
  by_cases h3:k=3
  · subst h3
    rw [if_pos rfl] at h
    simp only [Bool.and_eq_true,decide_eq_true_eq] at h
    obtain ⟨⟨⟨hd,h0⟩,h60⟩,hz⟩:=h
    rw [Bool.or_eq_true,decide_eq_true_eq] at hz
    have htw:(t++r).takeWhile digitB=t:=tw_all hd fun c hc=>by
      rw [hc,endB,if_neg (by decide),if_pos rfl] at he
      simpa using he
    cases t with
    | nil=>simp at h0
    | cons c t =>
      have hc:digitB c=true:=by rw [List.all_cons,Bool.and_eq_true] at hd;exact hd.1
      obtain ⟨h1,h2,h45⟩:=digit_no c hc
      refine ⟨?_,by decide,h0,?_⟩
      · rw [List.cons_append,tokF,h1,if_neg (by decide),if_pos hc]
        rw [List.cons_append] at htw
        rw [numF,htw,if_neg]
        rintro (q|⟨q,q2⟩)
        · omega
        · rcases hz with hz|hz
          · omega
          · rw [q2] at hz;exact absurd hz (by decide)
      · rw [List.cons_append,leadF,h2,if_neg (by decide),if_neg (fun q=>h45 q.1)]
  · rw [if_neg h3] at h
    simp only [Bool.and_eq_true,decide_eq_true_eq] at h
    obtain ⟨⟨⟨⟨hd,hl⟩,h0⟩,h40⟩,hk⟩:=h
    have htw:(t++r).takeWhile insideB=t:=tw_all hd fun c hc=>by
      rw [hc,endB,if_neg h4,if_neg h3] at he
      simpa using he
    cases t with
    | nil=>simp at h0
    | cons c t =>
      have hc:letterB c=true:=hl
      obtain ⟨h1,h2,h45⟩:=letter_no c hc
      refine ⟨?_,by rw [hk];split <;> decide,h0,?_⟩
      · rw [List.cons_append,tokF,if_pos hc]
        rw [List.cons_append] at htw
        rw [wordF,htw,if_neg (by omega),hk]
        split <;> rfl
      · rw [List.cons_append,leadF,h2,if_neg (by decide),if_neg (fun q=>h45 q.1)]
theorem leadF_ahead:∀ {ld t:List UInt8},ld.all blankB=true→leadF false (ld++t)=ld.length+leadF false t
  | [],t,_=>by simp
  | c :: ld,t,h=>by
    rw [List.all_cons,Bool.and_eq_true] at h
    rw [List.cons_append,leadF,if_pos h.1,leadF_ahead h.2,List.length_cons]
    omega
theorem lexF_pieces:∀ (l:List Pc) (e:List UInt8) (n p:Nat),okP l e→e.all blankB=true→(bytesP l++e).length<n→lexF n (bytesP l++e) p=.ok (toksP p l++[⟨5,e,[],p+(bytesP l++e).length⟩])
  | [],e,0,p,_,_,hn=>absurd hn (by omega)
  | [],e,n+1,p,_,he,_=>by
    have h1:leadF false e=e.length:=by have:=leadF_ahead (t:=[]) he;simpa [leadF] using this
    rw [bytesP,List.nil_append,lexF,h1]
    simp [tokF,toksP]
  | x :: l,e,0,p,_,_,hn=>absurd hn (by omega)
  | x :: l,e,n+1,p,h,he,hn=>by
    obtain ⟨h1,h2,h3⟩:=h
    obtain ⟨t1,t2,t3,t4⟩:=piece_tok h1 h2
    have hld:x.lead.all blankB=true:=by rw [pieceB,Bool.and_eq_true] at h1;exact h1.1
    have hB:bytesP (x :: l)++e=x.lead++(x.text++(bytesP l++e)):=by rw [bytesP];simp
    rw [hB] at hn ⊢
    simp only [List.length_append] at hn
    have e1:leadF false (x.lead++(x.text++(bytesP l++e)))=x.lead.length:=by rw [leadF_ahead hld,t4];rfl
    have ih:=lexF_pieces l e n (p+x.lead.length+x.text.length) h3 he (by rw [List.length_append];omega)
    rw [lexF,e1]
    simp only [List.drop_left,t1,ne_eq,not_true,if_false]
    rw [if_neg t2,ih]
    have hp:p+x.lead.length+x.text.length+(bytesP l++e).length=p+(x.lead++(x.text++(bytesP l++e))).length:=by simp only [List.length_append];omega
    simp only [List.take_left,toksP,List.cons_append,hp]
theorem lexAll_pieces {l:List Pc}{e:List UInt8}(h:okP l e)(he:e.all blankB=true)(hn:(bytesP l++e).length≤65536):lexAll (bytesP l++e)=.ok (toksP 0 l++[⟨5,e,[],(bytesP l++e).length⟩]):=by
  rw [lexAll,if_neg (by omega),lexF_pieces l e _ 0 h he (by omega),Nat.zero_add]
theorem toksP_len:∀ (l:List Pc) (p:Nat),(toksP p l).length=l.length
  | [],_=>rfl
  | x :: l,p=>by rw [toksP,List.length_cons,toksP_len l,List.length_cons]
theorem toksP_get:∀ (l:List Pc) (p i:Nat) (h:i<l.length),∃ q ld,(toksP p l)[i]?=some ⟨l[i].kind,ld,l[i].text,q⟩
  | x :: l,p,0,_=>⟨_,_,rfl⟩
  | x :: l,p,i+1,h=>by
    obtain ⟨q,ld,e⟩:=toksP_get l (p+x.lead.length+x.text.length) i (by simpa using h)
    exact ⟨q,ld,by rw [toksP,List.getElem?_cons_succ,e];rfl⟩
end Go.Proofs.YtdednahplodojaaGreatDoor
