/- Walks and plain laws: ZedW2, RDefL, SetAt. -/
import Derived.Test.YtemkhbmkaalgdaaGreatDoorQ21
import Derived.Test.YtemkhbmkaalgdaaGreatDoorQ18
set_option maxHeartbeats 16000000
set_option maxRecDepth 100000
namespace Go.Proofs.YtemkhbmkaalgdaaGreatDoor
open Go.RowKit Go
theorem zmade_any (P:Nat→Prop)(ao:Option Addr)(cap:Nat)(ws:List Nat)(w:World)(h:Wd P w (.slice ao ws.length cap) ws)(hn:ws.length≤1099511627776) :
  Calls Tryz.prog 77 #[.bool false,.slice ao ws.length cap] w fun e w'=>e=.returned (.agg #[.bool false,.slice ao (trimW ws).length cap])∧Below w.heap.size w w':=by
 have h1:Wd P (w.alloc (.cells #[.bool false,.slice none 0 0] 37)) (.slice ao ws.length cap) ws:=h.frame (Alk.of (below_new w _))
 have HT:=Lib.hid (ztrim_any P ao cap ws _ h1 hn)
 clear h h1
 go_enter Tryz.func77,Tryz.ntmps77
 go_wp2_with (go_at_call 75;refine HT.out.mono ?_;rintro e w1 ⟨rfl,rfl⟩)
 refine bodyPost_ret (v:=.agg #[.bool false,.slice ao (trimW ws).length cap]) (by simp [results,Tryz.results77,go_sem]) rfl ⟨rfl,?_⟩
 exact below_new w _
theorem Tryz.infoSet:(Tryz.prog.info? 170).map (fun i=>(i.zero,i.size))=some (some (.agg (Array.replicate 256 (.bool false))),256):=by kernel_rfl
def tenL:List UInt8:=[48,49,50,51,52,53,54,55,56,57]
theorem ten_mem {c:UInt8}(h:(decide (48≤c.toNat) && decide (c.toNat≤57))=true):tenL.contains c=true:=by
 have:∀ n:Fin 256,(decide (48≤(UInt8.ofNat n.val).toNat) && decide ((UInt8.ofNat n.val).toNat≤57))=true→tenL.contains (UInt8.ofNat n.val)=true:=by decide
 have h1:=this ⟨c.toNat,c.toNat_lt⟩
 rw [UInt8.ofNat_toNat] at h1
 exact h1 h
theorem dw_nil {α:Type}(p:α→Bool):∀ (l:List α),(∀ x∈l,p x=true)→l.dropWhile p=[]
 | [],_=>rfl
 | x :: l,h=>by rw [List.dropWhile_cons_of_pos (h x List.mem_cons_self),dw_nil p l fun y hy=>h y (List.mem_cons_of_mem _ hy)]
theorem trim_digits {l:List UInt8}(h:digitsB l=true):Lib.trimS l tenL=[]:=by
 have h1:Lib.trimRightS l tenL=[]:=by
  unfold Lib.trimRightS
  have:l.reverse.dropWhile (tenL.contains ·)=[]:=dw_nil _ _ fun x hx=>ten_mem ((List.all_eq_true.1 h) x (List.mem_reverse.1 hx))
  rw [this,List.reverse_nil]
 unfold Lib.trimS
 rw [h1]
 rfl
theorem cut_digits {l:List UInt8}(h:digitsB l=true):Lib.hasPrefix l [45]=false:=by
 cases l with
 | nil=>rfl
 | cons c l =>
  rw [digitsB,List.all_cons,Bool.and_eq_true] at h
  have hc:=h.1
  simp only [Bool.and_eq_true,decide_eq_true_eq] at hc
  have:(45 == c)=false:=by
   rw [← Bool.not_eq_true,beq_iff_eq]
   rintro rfl
   simp at hc
  simp [Lib.hasPrefix,List.isPrefixOf,this]
theorem val_int {k:IntKind}{a b:Int}(h:a=b):Value.int k a=Value.int k b:=by rw [h]
theorem digits_step {R T:List UInt8}{n:Nat}{ws:List Nat}(_hn:n≤9)(hR:n≤R.length)(hT:T=R.take n)(hd:digitsB R=true)(hw:∀ x∈ws,x<4294967296)(hp:10 ^ n≤1000000000) :
  digitsB (R.drop n)=true∧magV (trimW (scaleF (10 ^ n) ws (decV T))) * 10 ^ (R.drop n).length+decV (R.drop n)=magV ws * 10 ^ R.length+decV R:=by
 have e1:R=R.take n++R.drop n:=(List.take_append_drop n R).symm
 have ed:digitsB (R.take n)=true∧digitsB (R.drop n)=true:=by
  rw [e1,digitsB,List.all_append,Bool.and_eq_true] at hd;exact hd
 have hl:(R.take n).length=n:=by rw [List.length_take];omega
 have hv:=decV_lt _ ed.1
 rw [hl] at hv
 refine ⟨ed.2,?_⟩
 rw [hT,magV_trim,magV_scale _ hp _ _ hw (by omega)]
 have e2:decV R=decV (R.take n) * 10 ^ (R.drop n).length+decV (R.drop n):=by
  conv=>lhs;rw [e1]
  exact decV_append _ _
 rw [e2,Nat.add_mul,Nat.mul_assoc,← Nat.pow_add,List.length_drop,show n+(R.length - n)=R.length by omega]
 omega
theorem zparse_any (s:ByteArray)(w:World)(h0:0<s.size)(h60:s.size≤60)(hd:digitsB s.data.toList=true)(hz:s.data.toList.head?=some 48→s.size=1) :
  Calls Tryz.prog 52 #[.string s] w (ZPost (decV s.data.toList) w):=by
 have hcut:=Tryz.strings_CutPrefix s ⟨#[45]⟩ (w.alloc (.cells #[.bool false,.slice none 0 0] 37))
 have e1:Lib.hasPrefix s.data.toList (ByteArray.mk #[45]).data.toList=false:=cut_digits hd
 have e2:Lib.trimPrefix s.data.toList (ByteArray.mk #[45]).data.toList=s.data.toList:=by rw [Lib.trimPrefix,e1];rfl
 rw [e1,e2,show ByteArray.mk s.data.toList.toArray=s by cases s;simp] at hcut
 have HC:=Lib.hid hcut
 have htr:∀ W:World,Calls Tryz.prog 74 #[.string s,.string ⟨#[48,49,50,51,52,53,54,55,56,57]⟩] W fun e w'=>e=.returned (.string ⟨#[]⟩)∧Below W.heap.size W w':=fun W=>by
  have:=Any.strings_Trim_laid Tryz.lays160 Tryz.infoSet s ⟨#[48,49,50,51,52,53,54,55,56,57]⟩ W (by omega) (by decide) (ascii_of_all (by decide))
  rw [show (ByteArray.mk #[48,49,50,51,52,53,54,55,56,57]).data.toList=tenL from rfl,trim_digits hd] at this
  exact this
 have HTr:=Lib.hid htr
 have hne:s.toList.isEmpty=false:=by rw [isEmpty_size];exact decide_eq_false (by omega)
 have hne2:(s.toList == [])=false:=by
  rw [← Bool.not_eq_true,beq_iff_eq]
  intro q
  rw [q] at hne
  cases hne
 have HD:=Lib.hid hd
 have hlast:((((s[0]'h0).toNat:Int) == 48)=false∨((((s[0]'h0).toNat:Int) == 48)=true∧decide ((1:Int)<(s.size:Int))=false)):=by
  by_cases q:((s[0]'h0).toNat:Int)=48
  ·right
   refine ⟨by simpa using q,decide_eq_false ?_⟩
   have:s.size=1:=by
    apply hz
    obtain ⟨r,hr⟩:=head_cons h0
    rw [hr,List.head?_cons]
    congr 1
    exact UInt8.toNat_inj.1 (show (s[0]'h0).toNat=48 by omega)
   omega
  ·left;simpa using q
 clear hcut e1 e2 htr hz hd
 have h0I:(0:Int)<(s.size:Int):=by omega
 have h60I:(s.size:Int)≤60:=by omega
 have hg:=heap_alloc_new w (.cells #[.bool false,.slice none 0 0] 37)
 have hbw:=below_new w (.cells #[.bool false,.slice none 0 0] 37)
 go_enter Tryz.func52,Tryz.ntmps52
 go_upto_region 4 with (go_at_call 73;refine HC.out.mono ?_;rintro e w1 ⟨rfl,rfl⟩)
 generalize w.alloc _=w2 at hg hbw ⊢
 go_cut [4,5,22] (fun r ng t wx=>r=.string s∧ng=.bool false∧t=.bool false∧wx.heap[w.heap.size]?=some (.cells #[.bool false,.slice none 0 0] 37 (0,0))∧Below w.heap.size w wx)
 case first =>
  rcases hlast with hl|⟨hl,hl2⟩
  ·go_wp2_with (go_at_call 74;refine (HTr.out _).mono ?_;rintro e w1 ⟨rfl,hb1⟩)
   go_meet
   exact ⟨rfl,rfl,rfl,(hb1.block _ (Array.getElem?_eq_some_iff.1 hg).1).trans hg,hbw.trans (hb1.mono hbw.size)⟩
  ·go_wp2_with (go_at_call 74;refine (HTr.out _).mono ?_;rintro e w1 ⟨rfl,hb1⟩)
   go_meet
   exact ⟨rfl,rfl,rfl,(hb1.block _ (Array.getElem?_eq_some_iff.1 hg).1).trans hg,hbw.trans (hb1.mono hbw.size)⟩
 case rest =>
  obtain ⟨rfl,rfl,rfl,hg2,hbc⟩:=hcut
  clear hne hne2 hlast hg hbw HTr HC
  obtain ⟨wo,rfl⟩:∃ wo:World,wo=wc:=⟨_,rfl⟩
  go_wp2
  go_loopw [4,6] (fun rv mv wr=>∃ (R:ByteArray) (ws:List Nat) (ao:Option Addr) (cap:Nat),rv=.string R∧mv=.slice ao ws.length cap∧Wd (fun b=>w.heap.size<b) wr (.slice ao ws.length cap) ws∧trimW ws=ws∧(∀ x∈ws,x<4294967296)∧ws.length+R.size≤60∧digitsB R.data.toList=true∧magV ws * 10 ^ R.size+decV R.data.toList=decV s.data.toList∧wr.heap[w.heap.size]?=some (.cells #[.bool false,.slice none 0 0] 37 (0,0))∧Below w.heap.size w wr) (fun rv _ _=>strLen rv)
  case atStart=>exact ⟨s,[],none,0,rfl,rfl,SlP.nil _ _ _,rfl,fun x hx=>(by cases hx),by simpa using h60,HD.out,by simp [magV],hg2,hbc⟩
  case round =>
   obtain ⟨R,ws,ao,cap,rfl,rfl,hW,htr,hlt,hsz,hdg,hval,hg3,hbl⟩:=hrel
   by_cases hR:0<R.size
   ·obtain ⟨n,hn⟩:∃ n,n=min 9 R.size:=⟨_,rfl⟩
    have hn9:n≤9:=by omega
    have hnR:n≤R.size:=by omega
    have hn0:0<n:=by omega
    have hmin:min (9:Int) (R.size:Int)=(n:Int):=by omega
    have hRI:(0:Int)<(R.size:Int):=by omega
    have hR60:(R.size:Int)≤60:=by omega
    have HN:=Lib.hid hn
    have hcv:=fun (W:World)=>run_bytes_of_string (P:=Tryz.prog) W 9 100 5 (R.extract 0 n) Tryz.underlying9 Tryz.underlying100 Tryz.underlying5
    have hTs:(R.extract 0 n).size=n:=by rw [ByteArray.size_extract];omega
    rw [hTs] at hcv
    have HTs:=Lib.hid hTs
    have HV:=Lib.hid hval
    have HDG:=Lib.hid hdg
    have HLT:=Lib.hid hlt
    have HTR:=Lib.hid htr
    clear hTs hn hval hdg hlt htr
    have hz:=hbl.size
    have hlw:=(Array.getElem?_eq_some_iff.1 hg3).1
    have hTl:(R.extract 0 n).data.toList=R.data.toList.take n:=by rw [extract_list,List.drop_zero]
    have hcel:∀ (cap':Nat) (fr:Nat × Nat) (j:Nat) (hj:j<n),(wr.alloc (.cells (bytesRow (R.extract 0 n) cap') 5 fr)).drew.cell? ⟨wr.heap.size,j,none⟩=some (.int .u8 (((R.extract 0 n).data[j]'(by have:=HTs.out;show j<(R.extract 0 n).size;omega)).toNat:Nat)):=fun cap' fr j hj=>by
     have hs:j<(R.extract 0 n).data.size:=by have:=HTs.out;show j<(R.extract 0 n).size;omega
     rw [Lib.cell_of_heap (show (wr.alloc (.cells (bytesRow (R.extract 0 n) cap') 5 fr)).drew.heap[wr.heap.size]?=some (.cells (bytesRow (R.extract 0 n) cap') 5 fr) from heap_alloc_new wr _)]
     exact bytesRow_at _ _ _ hs
    have HCL:=Lib.hid hcel
    clear hcel
    go_wp2
    clear hcv
    have hcl:=HCL.out (grownCap wr n 0 5) ((bytesRow (R.extract 0 n) (grownCap wr n 0 5)).size,(bytesRow (R.extract 0 n) (grownCap wr n 0 5)).size+1)
    have hbx:Below wr.heap.size wr (wr.alloc (.cells (bytesRow (R.extract 0 n) (grownCap wr n 0 5)) 5 ((bytesRow (R.extract 0 n) (grownCap wr n 0 5)).size,(bytesRow (R.extract 0 n) (grownCap wr n 0 5)).size+1))).drew:=((Below.refl _ _).alloc (Nat.le_refl _) _).drew
    have hsx:wr.heap.size<(wr.alloc (.cells (bytesRow (R.extract 0 n) (grownCap wr n 0 5)) 5 ((bytesRow (R.extract 0 n) (grownCap wr n 0 5)).size,(bytesRow (R.extract 0 n) (grownCap wr n 0 5)).size+1))).drew.heap.size:=by simp
    generalize (wr.alloc (.cells (bytesRow (R.extract 0 n) (grownCap wr n 0 5)) 5 _)).drew=wx at hcl hbx hsx ⊢
    have HC2:=Lib.hid hcl
    clear hcl HCL
    have hTd:digitsB (R.extract 0 n).data.toList=true:=by
     have:=HDG.out
     rw [hTl,digitsB,List.all_eq_true]
     rw [digitsB,List.all_eq_true] at this
     exact fun x hx=>this x (List.mem_of_mem_take hx)
    have HTd:=Lib.hid hTd
    have HTl:=Lib.hid hTl
    clear hTd hTl
    go_loop [8,9,55] (fun bv pv q=>∃ k:Nat,k≤n∧q=.int .i64 k∧bv=.int .u64 ((10 ^ k:Nat):Nat)∧pv=.int .u64 (decV ((R.extract 0 n).data.toList.take k):Nat)) (fun _ _ q=>n - (intOf q).toNat)
    case atStart=>exact ⟨0,Nat.zero_le _,rfl,rfl,by rw [List.take_zero];rfl⟩
    case round =>
     obtain ⟨k,hk,rfl,rfl,rfl⟩:=hrel
     have hT1:=HTs.out
     have hT2:(R.extract 0 n).data.toList.length=n:=by rw [size_list];exact hT1
     by_cases hkn:k<n
     ·have hx:=HC2.out k hkn
      have hkd:k<(R.extract 0 n).data.toList.length:=by omega
      have hgk:(R.extract 0 n).data[k]'(by have:=HTs.out;show k<(R.extract 0 n).size;omega)=(R.extract 0 n).data.toList[k]'hkd:=by simp
      have hcb:=(List.all_eq_true.1 HTd.out) _ (List.getElem_mem hkd)
      simp only [Bool.and_eq_true,decide_eq_true_eq] at hcb
      have hsn:decV ((R.extract 0 n).data.toList.take (k+1))=decV ((R.extract 0 n).data.toList.take k) * 10+(((R.extract 0 n).data.toList[k]'hkd).toNat - 48):=by
       rw [List.take_succ_eq_append_getElem hkd,decV_snoc]
      have hpw:(10:Nat) ^ (k+1)=10 ^ k * 10:=Nat.pow_succ ..
      have hp8:(10:Nat) ^ k≤100000000:=Nat.pow_le_pow_right (by omega) (by omega:k≤8)
      have hdl:decV ((R.extract 0 n).data.toList.take k)<10 ^ ((R.extract 0 n).data.toList.take k).length:=decV_lt _ (by
       rw [digitsB,List.all_eq_true]
       exact fun x hx=>(List.all_eq_true.1 HTd.out) x (List.mem_of_mem_take hx))
      rw [List.length_take,Nat.min_eq_left (by omega)] at hdl
      rw [hgk] at hx
      generalize (R.extract 0 n).data.toList[k]'hkd=ch at hx hcb hsn
      obtain ⟨cn,hcn⟩:∃ cn,ch.toNat=cn:=⟨_,rfl⟩
      rw [hcn] at hx hcb hsn
      have HS:=Lib.hid hsn
      have HP:=Lib.hid hpw
      clear hsn hpw hgk hcn hT1 hT2 hkd
      generalize decV ((R.extract 0 n).data.toList.take k)=p at hdl HS
      generalize (10:Nat) ^ k=a at hp8 hdl HP
      have hkI:(k:Int)<(n:Int):=by omega
      go_wp2
      exact ⟨⟨k+1,by omega,by go_num,by rw [HP.out];exact val_int (by omega),by rw [HS.out];exact val_int (by omega)⟩,by simp [intOf];omega⟩
     ·obtain rfl:k=n:=by omega
      have hTk:(R.extract 0 k).data.toList.take k=(R.extract 0 k).data.toList:=List.take_of_length_le (by omega)
      have hdl:=decV_lt _ HTd.out
      rw [hT2] at hdl
      have hp9:=pow_le9 hn9
      have hWx:Wd (fun b=>w.heap.size<b) wx (.slice ao ws.length cap) ws:=SlP.frame hW (Alk.of hbx)
      have HSC:=Lib.hid (scale_any (fun b=>w.heap.size<b) (.slice ao ws.length cap) ws (10 ^ k) (decV (R.extract 0 k).data.toList) wx hWx HLT.out hp9 (by omega) (by omega))
      have hnR':k≤R.data.toList.length:=by rw [size_list];exact hnR
      have hstep:=digits_step (ws:=ws) hn9 hnR' HTl.out HDG.out HLT.out hp9
      have HST:=Lib.hid hstep
      rw [hTk]
      clear hstep hTk hdl hWx hT1 hT2
      generalize (10:Nat) ^ k=a at HSC HST hp9 ⊢
      generalize decV (R.extract 0 k).data.toList=p at HSC HST ⊢
      have hkI:decide ((k:Int)<(k:Int))=false:=decide_eq_false (by omega)
      go_wp2_with (go_at_call 76;refine HSC.out.mono ?_)
      rintro e w7 ⟨v,rfl,hown,hb7⟩
      obtain ⟨g,cap2,rfl,_,_⟩:=hown.form (by rw [scaleF_len];omega)
      have hWs:Wd (fun b=>w.heap.size<b) w7 (.slice (some ⟨g,0,none⟩) (scaleF a ws p).length cap2) (scaleF a ws p):=SlP.ofOwns hown fun b hb=>by omega
      have HT:=Lib.hid (ztrim_any _ (some ⟨g,0,none⟩) cap2 (scaleF a ws p) w7 hWs (by rw [scaleF_len];omega))
      have HWs:=Lib.hid hWs
      have G:=(hb7.block w.heap.size (by omega)).trans ((hbx.block w.heap.size hlw).trans hg3)
      have hbl7:=hbl.trans ((hbx.trans (hb7.mono (Nat.le_of_lt hsx))).mono hz)
      clear hown hWs HSC
      go_wp2_with (go_at_call 75;refine HT.out.mono ?_;rintro e w8 ⟨rfl,rfl⟩)
      go_roundw
      case rel =>
       have hex:(R.extract k R.size).size=R.size - k:=by rw [ByteArray.size_extract];omega
       have hel:(R.extract k R.size).data.toList=R.data.toList.drop k:=by rw [extract_list,List.take_of_length_le (by rw [size_list];exact Nat.le_refl _)]
       have htl:=trimW_len (scaleF a ws p)
       rw [scaleF_len] at htl
       obtain ⟨s1,s2⟩:=HST.out
       have e1:(R.data.toList.drop k).length=R.size - k:=by rw [List.length_drop,size_list]
       rw [e1,size_list] at s2
       refine ⟨R.extract k R.size,trimW (scaleF a ws p),some ⟨g,0,none⟩,cap2,rfl,rfl,?_,trimW_idem _,fun x hx=>scaleF_lt _ _ _ _ (trimW_mem _ _ hx),by omega,by rw [hel];exact s1,by rw [hex,hel,s2];exact HV.out,G,hbl7⟩
       obtain ⟨n',n1,n2,_,_⟩:=trimW_take (scaleF a ws p)
       have hl:(trimW (scaleF a ws p)).length=n':=by rw [n2,List.length_take];omega
       rw [hl,n2]
       exact HWs.out.take n1
      case measure =>
       show (R.extract k R.size).size<R.size
       rw [ByteArray.size_extract]
       omega
   ·have hR0:R.size=0:=by omega
    have hRl:R.data.toList=[]:=List.length_eq_zero_iff.1 (by rw [size_list];exact hR0)
    rw [hRl,hR0] at hval
    have hv2:magV ws=decV s.data.toList:=by simpa [decV] using hval
    have HV:=Lib.hid hv2
    have HLT:=Lib.hid hlt
    have HTR:=Lib.hid htr
    have hM:=zmade_any (fun b=>w.heap.size<b) ao cap ws wr hW (by omega)
    rw [htr] at hM
    have HM:=Lib.hid hM
    have hRI:(R.size:Int)≤0:=by omega
    have hz:=hbl.size
    clear hv2 hval hRl hdg hlt htr hM
    go_wp2_with (go_at_call 77;refine HM.out.mono ?_)
    rintro e w6 ⟨rfl,hb6⟩
    have G:=(hb6.block w.heap.size (Array.getElem?_eq_some_iff.1 hg3).1).trans hg3
    have d0:w6.cell? ⟨w.heap.size,0,none⟩=some (.bool false):=by rw [Lib.cell_of_heap G];rfl
    have d1:w6.cell? ⟨w.heap.size,1,none⟩=some (.slice none 0 0):=by rw [Lib.cell_of_heap G];rfl
    have dz:∀ j,w6.frozen? ⟨w.heap.size,j,none⟩=false:=by intro j;simp [World.frozen?,G]
    go_wp2
    have hs2:=hb6.size
    refine bodyPost_ret (v:=.tuple #[.agg #[.bool false,.slice ao ws.length cap],.int .i64 0]) (by simp [results,Tryz.results52,go_sem,d0,d1]) rfl ⟨ao,ws.length,cap,rfl,⟨ws,?_,HTR.out,HLT.out,by rw [HV.out];simp⟩,?_⟩
    ·have h1:=hW.frame (Alk.of hb6)
     have h2:=h1.frame (Alk.set (a:=⟨w.heap.size,0,none⟩) (.bool false) fun b hb=>by show b≠w.heap.size;omega)
     have h3:=h2.frame (Alk.set (a:=⟨w.heap.size,1,none⟩) (.slice ao ws.length cap) fun b hb=>by show b≠w.heap.size;omega)
     exact h3.imp fun b hb _=>Nat.le_of_lt hb
    ·exact ((hbl.trans (hb6.mono hz)).setCell (Nat.le_refl _) _).setCell (Nat.le_refl _) _
theorem posL_append:∀ (a b:List It) (u:Nat),posL u (a++b)=posL u a++posL (u+lvL (a.map It.pt)) b
 | [],b,u=>by simp [posL,lvL]
 | i :: a,b,u=>by rw [List.cons_append,posL,posL_append a b,posL,List.map_cons,lvL,Nat.add_assoc,List.cons_append]
theorem posL_fst:∀ (l:List It) (u:Nat) (p:It × Nat),p∈posL u l→p.1∈l
 | [],u,p,h=>by cases h
 | i :: l,u,p,h=>by
  rw [posL,List.mem_cons] at h
  rcases h with rfl|h
  ·exact List.mem_cons_self
  ·exact List.mem_cons_of_mem _ (posL_fst l _ p h)
def It.parOf (toks:List Tok)(v:Nat):It→List FF
 | .par t=>[t.parFF toks v]
 | _=>[]
theorem parA_one (toks:List Tok)(u:Nat)(i:It):parA toks u [i]=i.parOf toks u:=by
 cases i with
 | par t=>rw [parA,parA];rfl
 | leaf=>rw [parA,parA];rfl;simp
 | base=>rw [parA,parA];rfl;simp
 | expr e=>rw [parA,parA];rfl;simp
 | cl e=>rw [parA,parA];rfl;simp
theorem parA_round (toks:List Tok):∀ (l:List It) (u:Nat) (j:Nat) (h:j<(posL u l).length),parA toks u (l.take (j+1))=parA toks u (l.take j)++(posL u l)[j].1.parOf toks (posL u l)[j].2
 | [],u,j,h=>absurd h (by simp [posL])
 | i :: l,u,0,h=>by
  rw [List.take_zero,List.take_succ_cons,List.take_zero,parA_one]
  simp [parA,posL]
 | i :: l,u,j+1,h=>by
  have:=parA_round toks l (u+i.pt.lv) j (by simpa [posL] using h)
  have h1:∀ k:List It,parA toks u (i :: k)=i.parOf toks u++parA toks (u+i.pt.lv) k:=fun k=>by
   have:=parA_append toks [i] k u
   rw [parA_one] at this
   simpa [lvL] using this
  rw [List.take_succ_cons,List.take_succ_cons,h1,h1,this,List.append_assoc]
  simp only [posL,List.getElem_cons_succ]
theorem parA_len (toks:List Tok):∀ (l:List It) (u:Nat),(parA toks u l).length≤l.length
 | [],u=>by rw [parA];exact Nat.le_refl _
 | i :: l,u=>by
  have h1:=parA_len toks l (u+i.pt.lv)
  have h2:=parA_append toks [i] l u
  have h3:(i.parOf toks u).length≤1:=by cases i <;> simp [It.parOf]
  rw [parA_one] at h2
  rw [show i :: l=[i]++l from rfl,h2,List.length_append,List.length_append]
  simp only [List.map_cons,List.map_nil,lvL,Nat.add_zero,List.length_cons,List.length_nil] at h1 ⊢
  omega
theorem DfS.lead_lv (d:DfS):lvL (d.leadIts.map It.pt)=lvL d.lead:=by unfold DfS.leadIts DfS.lead;split <;> rfl
theorem DfS.its_body (d:DfS)(u:Nat):∃ pre,d.its=pre++[.expr d.body,.leaf]∧u+lvL (pre.map It.pt)=d.at3 u:=by
 refine ⟨d.leadIts++([.leaf,.leaf,.leaf]++(sepIts d.pars++([.leaf]++(d.ty.its++[.leaf])))),by simp [DfS.its],?_⟩
 simp only [List.map_append,lvL_append,d.lead_lv,sepIts_pt,d.ty.its_pt,List.map_cons,List.map_nil,It.pt,lvL,PT.lv,DfS.at3,DfS.at2,DfS.at1]
 omega
theorem DfS.its_ty (d:DfS)(u:Nat):∃ pre post,d.its=pre++(d.ty.its++post)∧u+lvL (pre.map It.pt)=d.at2 u∧(∀ i∈pre++post,(i matches .leaf)∨(i matches .par _)∨(i matches .expr _)):=by
 refine ⟨d.leadIts++([.leaf,.leaf,.leaf]++(sepIts d.pars++[.leaf])),[.leaf,.expr d.body,.leaf],by simp [DfS.its],?_,?_⟩
 ·simp only [List.map_append,lvL_append,d.lead_lv,sepIts_pt,List.map_cons,List.map_nil,It.pt,lvL,PT.lv,DfS.at2,DfS.at1]
  omega
 ·intro i hi
  simp only [List.mem_append,List.mem_cons,List.not_mem_nil,or_false] at hi
  rcases hi with (hi|(hi|hi|hi)|hi|hi)|hi|hi|hi
  ·unfold DfS.leadIts at hi
   split at hi
   ·rw [List.mem_singleton] at hi;subst hi;exact .inl rfl
   ·cases hi
  ·subst hi;exact .inl rfl
  ·subst hi;exact .inl rfl
  ·subst hi;exact .inl rfl
  ·exact sep_none _ _ hi
  ·subst hi;exact .inl rfl
  ·subst hi;exact .inl rfl
  ·subst hi;exact .inr (.inr rfl)
  ·subst hi;exact .inl rfl
theorem DfS.its_in (d:DfS)(u:Nat)(p:It × Nat)(h:p∈posL u d.its)(hp:p.1.plain=false):p∈posL (d.at2 u) d.ty.its:=by
 obtain ⟨pre,post,e,hl,hn⟩:=d.its_ty u
 have hno:∀ q:It × Nat,q.1∈pre++post→q.1.plain=true:=fun q hq=>by
  rcases hn _ hq with h|h|h <;> (generalize q.1=x at h ⊢;cases x <;> simp_all [It.plain])
 rw [e,posL_append,posL_append,hl,List.mem_append,List.mem_append] at h
 rcases h with h|h|h
 ·have:=hno p (List.mem_append_left _ (posL_fst _ _ _ h));rw [hp] at this;cases this
 ·exact h
 ·have:=hno p (List.mem_append_right _ (posL_fst _ _ _ h));rw [hp] at this;cases this
theorem TyS.its_base {toks:List Tok}{t:TyS}{u:Nat}(h:t.ok toks u)(v:Nat)(hv:(It.base,v)∈posL u t.its):textAt toks v∈[tInt,tBool]:=by
 unfold TyS.its at hv
 have h1:=h.1
 cases hc:t.cl with
 | none =>
  rw [hc] at hv
  simp only [List.append_nil,posL,It.pt,PT.lv,List.mem_cons,Prod.mk.injEq,reduceCtorEq,false_and,true_and,List.not_mem_nil,or_false,false_or] at hv
  subst hv;exact h1
 | some e =>
  rw [hc] at hv
  simp only [List.cons_append,List.nil_append,posL,It.pt,PT.lv,List.mem_cons,Prod.mk.injEq,reduceCtorEq,false_and,true_and,List.not_mem_nil,or_false,false_or] at hv
  subst hv;exact h1
theorem TyS.its_cl {toks:List Tok}{t:TyS}{u:Nat}(h:t.ok toks u)(e:CE)(v:Nat)(hv:(It.cl e,v)∈posL u t.its):e.ok toks true (v+1):=by
 unfold TyS.its at hv
 have h1:=h.2
 cases hc:t.cl with
 | none =>
  rw [hc] at hv
  simp [posL,It.pt,PT.lv] at hv
 | some e' =>
  rw [hc] at hv h1
  simp only [List.cons_append,List.nil_append,posL,It.pt,PT.lv,lvL,List.mem_cons,Prod.mk.injEq,reduceCtorEq,false_and,It.cl.injEq,List.not_mem_nil,or_false,false_or] at hv
  obtain ⟨rfl,rfl⟩:=hv
  exact h1
theorem sep_par {toks:List Tok}:∀ (l:List TyS) (u:Nat) (t:TyS) (v:Nat),parsOk toks u l→(It.par t,v)∈posL u (sepIts l)→t.parOk toks v
 | [],u,t,v,_,h=>by rw [sepIts,posL] at h;cases h
 | [s],u,t,v,ho,h=>by
  rw [sepIts,posL,posL,List.mem_singleton] at h
  simp only [Prod.mk.injEq,It.par.injEq] at h
  obtain ⟨rfl,rfl⟩:=h
  exact ho.1
 | s :: s' :: l,u,t,v,ho,h=>by
  rw [show sepIts (s :: s' :: l)=.par s :: .leaf :: sepIts (s' :: l) from by rw [sepIts],posL,posL,List.mem_cons,List.mem_cons] at h
  rcases h with h|h|h
  ·simp only [Prod.mk.injEq,It.par.injEq] at h
   obtain ⟨rfl,rfl⟩:=h
   exact ho.1
  ·simp at h
  ·exact sep_par (s' :: l) _ t v ho.2 h
theorem par_in {toks:List Tok}{d:DfS}{u:Nat}(ho:d.ok toks u){t:TyS}{v:Nat}(h:(It.par t,v)∈posL u d.its):t.parOk toks v:=by
 have hno:∀ l:List It,(∀ i∈l,¬ (i matches .par _))→∀ x,(It.par t,v) ∉ posL x l:=fun l hl x hx=>by
  have:=hl _ (posL_fst _ _ _ hx)
  simp at this
 rw [DfS.its,posL_append,posL_append,posL_append,List.mem_append,List.mem_append,List.mem_append] at h
 rcases h with h|h|h|h
 ·refine absurd h (hno _ (fun i hi=>?_) _)
  unfold DfS.leadIts at hi
  split at hi
  ·rw [List.mem_singleton] at hi;subst hi;simp
  ·cases hi
 ·refine absurd h (hno _ (fun i hi=>?_) _)
  simp only [List.mem_cons,List.not_mem_nil,or_false,or_self] at hi;subst hi;simp
 ·refine sep_par d.pars _ t v ho.2.2.2.2.1 ?_
  have e:u+lvL (d.leadIts.map It.pt)+lvL ([It.leaf,.leaf,.leaf].map It.pt)=d.at1 u+3:=by
   rw [d.lead_lv]
   simp only [List.map_cons,List.map_nil,It.pt,lvL,PT.lv,DfS.at1]
  rw [e] at h
  exact h
 ·refine absurd h (hno _ (fun i hi=>?_) _)
  unfold TyS.its at hi
  cases hc:d.ty.cl with
  | none =>
   rw [hc] at hi
   simp only [List.mem_append,List.mem_cons,List.not_mem_nil,or_false] at hi
   rcases hi with rfl|(rfl|rfl)|rfl|rfl|rfl <;> simp
  | some e =>
   rw [hc] at hi
   simp only [List.mem_append,List.mem_cons,List.not_mem_nil,or_false] at hi
   rcases hi with rfl|((rfl|rfl)|rfl)|rfl|rfl|rfl <;> simp
theorem It.kind_nopar (i:It)(h:∀ t,i≠.par t):i.pt.kd≠4:=by
 cases i with
 | leaf=>exact (by decide:(19:Int)≠4)
 | par t=>exact absurd rfl (h t)
 | base=>exact show ((5:Nat):Int)≠4 by decide
 | cl e=>exact show ((6:Nat):Int)≠4 by decide
 | expr e =>
  obtain ⟨c,la,ea,c1,c2⟩:=e.node
  simp only [It.pt,ea,PT.kd]
  omega
theorem It.par_nopar (i:It)(toks:List Tok)(v:Nat)(h:∀ t,i≠.par t):i.parOf toks v=[]:=by
 cases i with
 | par t=>exact absurd rfl (h t)
 | _=>rfl
structure RdE (B:Nat) (tv nv:Value) (toks:List Tok) (nodes:List Nd):Prop where
 pl:∀ v,placeAt toks v+(textAt toks v).length≤1099511627776
 few:∀ n∈nodes,n.kids.length≤1000000
 exprs:∀ (cl:Bool) (e:CE) (u:Nat),e.ok toks cl u→u+e.pt.lv≤toks.length→∀ (k:Nat) (W:World),Rep nodes k u e.pt→TreeAt B W (.agg #[tv,nv]) toks nodes→B≤W.heap.size→Calls Tryz.prog 31 #[.agg #[tv,nv],.int .i64 k] W (EPost XA (e.pe toks u) W)
theorem rpar_reads {B:Nat}{tv nv:Value}{toks:List Tok}{nodes:List Nd}(E:RdE B tv nv toks nodes)(t:TyS)(v:Nat)(ho:t.parOk toks v)(hl:v+t.par.lv≤toks.length)(i:Nat)(w:World)(hr:Rep nodes i v t.par)(h:TreeAt B w (.agg #[tv,nv]) toks nodes)(hB:B≤w.heap.size) :
  Calls Tryz.prog 48 #[.agg #[tv,nv],.int .i64 i] w (RpPost (t.parFF toks v) w):=by
 rw [t.parIts_pt] at hr hl
 obtain ⟨ks,hn,hk⟩:=rep_node hr
 have hlv:v+lvL (t.parIts.map It.pt)≤toks.length:=by rw [PT.lv] at hl;exact hl
 have hks:=E.few _ (List.mem_of_getElem? hn)
 have hk2:=hk
 rw [TyS.parIts,List.map_cons] at hk2
 obtain ⟨k0,ks',hke,hl0,_⟩:=repL_leaf (show RepL nodes ks v (.leaf :: _) from hk2)
 have hvt:v<toks.length:=by
  rw [TyS.parIts,List.map_cons,lvL] at hlv
  simp only [It.pt,PT.lv] at hlv
  omega
 have:=rparam_any B tv nv toks nodes i 4 ks w h hB hn k0 v (by rw [hke];rfl) hl0 hvt (typA toks v t.parIts ⟨0,[],-1⟩) (fun W hT hW =>
  rtyped_any B tv nv toks nodes i 4 ks v t.parIts W hT hW hn hk hlv hks E.pl (fun x hx=>?_) (fun e x hx k W' hrk hT' hW'=>?_))
 ·rw [TyS.par_typ] at this
  exact this
 ·rw [TyS.parIts,posL,List.mem_cons] at hx
  rcases hx with hx|hx
  ·cases hx
  ·exact TyS.its_base ho.2 x hx
 ·have hend:=posL_end _ _ _ hx
  simp only [It.pt,PT.lv,lvL] at hend
  rw [TyS.parIts,posL,List.mem_cons] at hx
  rcases hx with hx|hx
  ·cases hx
  ·exact E.exprs true e (x+1) (TyS.its_cl ho.2 e x hx) (by omega) k W' hrk hT' hW'
theorem rdtyped {B:Nat}{tv nv:Value}{toks:List Tok}{nodes:List Nd}(E:RdE B tv nv toks nodes)(d:DfS)(u:Nat)(ho:d.ok toks u)(ks:List Int)(hlv:u+lvL (d.its.map It.pt)≤toks.length)(i:Nat)(hn:nodes[i]?=some ⟨(3:Nat),-1,ks⟩)(hk:RepL nodes ks u (d.its.map It.pt))(w:World)(h:TreeAt B w (.agg #[tv,nv]) toks nodes)(hB:B≤w.heap.size) :
  Calls Tryz.prog 47 #[.agg #[tv,nv],.int .i64 i] w (RtPost ⟨(d.dd toks u).res.base,(d.dd toks u).res.clause,(d.dd toks u).res.bare⟩ w):=by
 have hks:=E.few _ (List.mem_of_getElem? hn)
 have hty:=ho.2.2.2.2.2.1
 have:=rtyped_any B tv nv toks nodes i 3 ks u d.its w h hB hn hk hlv hks E.pl (fun x hx=>TyS.its_base hty x (d.its_in u _ hx rfl)) (fun e x hx k W' hrk hT' hW'=>by
  have hend:=posL_end _ _ _ hx
  simp only [It.pt,PT.lv,lvL] at hend
  exact E.exprs true e (x+1) (TyS.its_cl hty e x (d.its_in u _ hx rfl)) (by omega) k W' hrk hT' hW')
 rw [d.typ] at this
 exact this
structure DefKids (toks:List Tok) (nodes:List Nd) (d:DfS) (u:Nat) (ks:List Int):Prop where
 len:ks.length=d.its.length
 many:3≤ks.length
 first:∃ k:Nat,ks[0]?=some (k:Int)∧nodes[k]?=some ⟨19,(u:Nat),[]⟩∧u<toks.length
 name:∃ k:Nat,ks[if d.pub=true then 2 else 1]?=some (k:Int)∧nodes[k]?=some ⟨19,((d.at1 u+1:Nat):Int),[]⟩∧d.at1 u+1<toks.length
 body:∃ k:Nat,ks[ks.length - 2]?=some (k:Int)∧Rep nodes k (d.at3 u) d.body.pt∧d.at3 u+d.body.pt.lv≤toks.length
 pub:(textAt toks u=tPub)↔d.pub=true
theorem def_kids {toks:List Tok}{nodes:List Nd}{d:DfS}{u:Nat}{ks:List Int}(ho:d.ok toks u)(hlv:u+lvL (d.its.map It.pt)≤toks.length)(hk:RepL nodes ks u (d.its.map It.pt)):DefKids toks nodes d u ks:=by
 obtain ⟨hlen,hat⟩:=posL_rep _ _ _ hk
 have hat':∀ (j:Nat) (p:It × Nat),(posL u d.its)[j]?=some p→∃ k:Nat,ks[j]?=some (k:Int)∧Rep nodes k p.2 p.1.pt∧p.2+p.1.pt.lv≤toks.length:=fun j p hp=>by
  obtain ⟨h2,e⟩:=List.getElem?_eq_some_iff.1 hp
  have h1:j<ks.length:=by rw [posL_len] at h2;omega
  have hr:=hat j h1 h2
  have hend:=posL_end _ _ _ (List.mem_of_getElem? hp)
  rw [e] at hr
  have hok:=rep_ok hr
  refine ⟨ks[j].toNat,?_,?_,by omega⟩
  ·rw [List.getElem?_eq_getElem h1];congr 1;omega
  ·have:((ks[j].toNat:Nat):Int)=ks[j]:=by omega
   rw [this];exact hr
 have hleaf:∀ (j v:Nat),(posL u d.its)[j]?=some (.leaf,v)→∃ k:Nat,ks[j]?=some (k:Int)∧nodes[k]?=some ⟨19,(v:Nat),[]⟩∧v<toks.length:=fun j v hp=>by
  obtain ⟨k,h1,h2,h3⟩:=hat' j _ hp
  obtain ⟨i,hi,hn⟩:=Rep.leafAt h2
  obtain rfl:k=i:=by omega
  exact ⟨k,h1,hn,by simp only [It.pt,PT.lv] at h3;omega⟩
 obtain ⟨pre,e,hp3⟩:=d.its_body u
 have hne:tFun≠tPub:=by decide
 refine ⟨hlen,?_,hleaf 0 u ?_,hleaf _ _ ?_,?_,?_⟩
 ·rw [hlen,DfS.its];simp;omega
 ·rw [DfS.its]
  unfold DfS.leadIts
  cases d.pub <;> simp [posL]
 ·rw [DfS.its]
  unfold DfS.leadIts DfS.at1 DfS.lead
  cases d.pub <;> simp [posL,It.pt,PT.lv,lvL]
 ·have hl:ks.length - 2=(posL u pre).length:=by rw [hlen,e,posL_len];simp
  rw [hl]
  obtain ⟨k,h1,h2,h3⟩:=hat' (posL u pre).length (.expr d.body,d.at3 u) (by rw [e,posL_append,hp3];simp [posL])
  exact ⟨k,h1,h2,h3⟩
 ·constructor
  ·intro h
   cases hd:d.pub with
   | true=>rfl
   | false =>
    have h1:=ho.2.1
    unfold DfS.at1 DfS.lead at h1
    rw [hd] at h1
    simp only [Bool.false_eq_true,if_false,lvL,Nat.add_zero] at h1
    rw [h1] at h
    exact absurd h hne
  ·exact ho.1
def setAt (b:Nat):Nat→List Value→World→World
 | _,[],w=>w
 | j,v :: l,w=>setAt b (j+1) l (w.setCell ⟨b,j,none⟩ v)
theorem setAt_other {b k:Nat}(hk:k≠b):∀ (l:List Value) (j:Nat) (w:World),(setAt b j l w).heap[k]?=w.heap[k]?
 | [],_,_=>rfl
 | _v :: l,j,_w=>(setAt_other hk l (j+1) _).trans (heap_setCell_other _ _ _ _ hk)
theorem setAt_size {b:Nat}:∀ (l:List Value) (j:Nat) (w:World),(setAt b j l w).heap.size=w.heap.size
 | [],_,_=>rfl
 | v :: l,j,w=>(setAt_size l (j+1) _).trans (by simp)
theorem setAt_below {B b:Nat}{w0:World}(hb:B≤b):∀ (l:List Value) (j:Nat) {w:World},Below B w0 w→Below B w0 (setAt b j l w)
 | [],_,_,h=>h
 | v :: l,j,_,h=>setAt_below hb l (j+1) (h.setCell hb v)
theorem setAt_alk {P:Nat→Prop}{b:Nat}(hP:∀ k,P k→k≠b)(l:List Value)(j:Nat)(w:World):Alk P w (setAt b j l w):=⟨Nat.le_of_eq (setAt_size l j w).symm,fun k hk _=>setAt_other (hP k hk) l j w⟩
theorem setAt_cell {b k i:Nat}(hk:k≠b)(l:List Value)(j:Nat)(w:World):(setAt b j l w).cell? ⟨k,i,none⟩=w.cell? ⟨k,i,none⟩:=World.cell?_of_block (a:=⟨k,i,none⟩) (setAt_other hk l j w)
theorem def_cells2 {w:World}{b:Nat}{c0 c1 c2 c3 c4 c5 c6 c7 c8 c9 c10 c11 c12 c13 c14:Value}(h:w.heap[b]?=some (.cells #[c0,c1,c2,c3,c4,c5,c6,c7,c8,c9,c10,c11,c12,c13,c14] 54 (0,0))):(w.cell? ⟨b,0,none⟩=some c0∧w.cell? ⟨b,1,none⟩=some c1∧w.cell? ⟨b,2,none⟩=some c2∧w.cell? ⟨b,3,none⟩=some c3∧w.cell? ⟨b,4,none⟩=some c4)∧(w.cell? ⟨b,5,none⟩=some c5∧w.cell? ⟨b,6,none⟩=some c6∧w.cell? ⟨b,7,none⟩=some c7∧w.cell? ⟨b,8,none⟩=some c8∧w.cell? ⟨b,9,none⟩=some c9)∧(w.cell? ⟨b,10,none⟩=some c10∧w.cell? ⟨b,11,none⟩=some c11∧w.cell? ⟨b,12,none⟩=some c12∧w.cell? ⟨b,13,none⟩=some c13∧w.cell? ⟨b,14,none⟩=some c14)∧∀ j,w.frozen? ⟨b,j,none⟩=false:=by
 refine ⟨⟨?_,?_,?_,?_,?_⟩,⟨?_,?_,?_,?_,?_⟩,⟨?_,?_,?_,?_,?_⟩,fun j=>by simp [World.frozen?,h]⟩ <;> (rw [Lib.cell_of_heap h];rfl)
theorem set15_cell (w:World)(b:Nat)(v0 v1 v2 v3 v4 v5 v6 v7 v8 v9 v10 v11 v12 v13 v14:Value){k j:Nat}(h:k≠b):(((((((((((((((w.setCell ⟨b,0,none⟩ v0).setCell ⟨b,1,none⟩ v1).setCell ⟨b,2,none⟩ v2).setCell ⟨b,3,none⟩ v3).setCell ⟨b,4,none⟩ v4).setCell ⟨b,5,none⟩ v5).setCell ⟨b,6,none⟩ v6).setCell ⟨b,7,none⟩ v7).setCell ⟨b,8,none⟩ v8).setCell ⟨b,9,none⟩ v9).setCell ⟨b,10,none⟩ v10).setCell ⟨b,11,none⟩ v11).setCell ⟨b,12,none⟩ v12).setCell ⟨b,13,none⟩ v13).setCell ⟨b,14,none⟩ v14).cell? ⟨k,j,none⟩=w.cell? ⟨k,j,none⟩ :=
 setAt_cell h [v0,v1,v2,v3,v4,v5,v6,v7,v8,v9,v10,v11,v12,v13,v14] 0 w
theorem set15_same {w:World}{b:Nat}{T:TypeId}{c0 c1 c2 c3 c4 c5 c6 c7 c8 c9 c10 c11 c12 c13 c14:Value}(h:w.heap[b]?=some (.cells #[c0,c1,c2,c3,c4,c5,c6,c7,c8,c9,c10,c11,c12,c13,c14] T (0,0)))(v0 v1 v2 v3 v4 v5 v6 v7 v8 v9 v10 v11 v12 v13 v14:Value):(((((((((((((((w.setCell ⟨b,0,none⟩ v0).setCell ⟨b,1,none⟩ v1).setCell ⟨b,2,none⟩ v2).setCell ⟨b,3,none⟩ v3).setCell ⟨b,4,none⟩ v4).setCell ⟨b,5,none⟩ v5).setCell ⟨b,6,none⟩ v6).setCell ⟨b,7,none⟩ v7).setCell ⟨b,8,none⟩ v8).setCell ⟨b,9,none⟩ v9).setCell ⟨b,10,none⟩ v10).setCell ⟨b,11,none⟩ v11).setCell ⟨b,12,none⟩ v12).setCell ⟨b,13,none⟩ v13).setCell ⟨b,14,none⟩ v14).heap[b]?=some (.cells #[v0,v1,v2,v3,v4,v5,v6,v7,v8,v9,v10,v11,v12,v13,v14] T (0,0)):=by
 have h1:(w.setCell ⟨b,0,none⟩ v0).heap[b]?=some (.cells #[v0,c1,c2,c3,c4,c5,c6,c7,c8,c9,c10,c11,c12,c13,c14] T (0,0)):=heap_setCell_same _ b 0 _ _ v0 h
 generalize w.setCell ⟨b,0,none⟩ v0=x1 at h1 ⊢
 have h2:(x1.setCell ⟨b,1,none⟩ v1).heap[b]?=some (.cells #[v0,v1,c2,c3,c4,c5,c6,c7,c8,c9,c10,c11,c12,c13,c14] T (0,0)):=heap_setCell_same _ b 1 _ _ v1 h1
 generalize x1.setCell ⟨b,1,none⟩ v1=x2 at h2 ⊢
 have h3:(x2.setCell ⟨b,2,none⟩ v2).heap[b]?=some (.cells #[v0,v1,v2,c3,c4,c5,c6,c7,c8,c9,c10,c11,c12,c13,c14] T (0,0)):=heap_setCell_same _ b 2 _ _ v2 h2
 generalize x2.setCell ⟨b,2,none⟩ v2=x3 at h3 ⊢
 have h4:(x3.setCell ⟨b,3,none⟩ v3).heap[b]?=some (.cells #[v0,v1,v2,v3,c4,c5,c6,c7,c8,c9,c10,c11,c12,c13,c14] T (0,0)):=heap_setCell_same _ b 3 _ _ v3 h3
 generalize x3.setCell ⟨b,3,none⟩ v3=x4 at h4 ⊢
 have h5:(x4.setCell ⟨b,4,none⟩ v4).heap[b]?=some (.cells #[v0,v1,v2,v3,v4,c5,c6,c7,c8,c9,c10,c11,c12,c13,c14] T (0,0)):=heap_setCell_same _ b 4 _ _ v4 h4
 generalize x4.setCell ⟨b,4,none⟩ v4=x5 at h5 ⊢
 have h6:(x5.setCell ⟨b,5,none⟩ v5).heap[b]?=some (.cells #[v0,v1,v2,v3,v4,v5,c6,c7,c8,c9,c10,c11,c12,c13,c14] T (0,0)):=heap_setCell_same _ b 5 _ _ v5 h5
 generalize x5.setCell ⟨b,5,none⟩ v5=x6 at h6 ⊢
 have h7:(x6.setCell ⟨b,6,none⟩ v6).heap[b]?=some (.cells #[v0,v1,v2,v3,v4,v5,v6,c7,c8,c9,c10,c11,c12,c13,c14] T (0,0)):=heap_setCell_same _ b 6 _ _ v6 h6
 generalize x6.setCell ⟨b,6,none⟩ v6=x7 at h7 ⊢
 have h8:(x7.setCell ⟨b,7,none⟩ v7).heap[b]?=some (.cells #[v0,v1,v2,v3,v4,v5,v6,v7,c8,c9,c10,c11,c12,c13,c14] T (0,0)):=heap_setCell_same _ b 7 _ _ v7 h7
 generalize x7.setCell ⟨b,7,none⟩ v7=x8 at h8 ⊢
 have h9:(x8.setCell ⟨b,8,none⟩ v8).heap[b]?=some (.cells #[v0,v1,v2,v3,v4,v5,v6,v7,v8,c9,c10,c11,c12,c13,c14] T (0,0)):=heap_setCell_same _ b 8 _ _ v8 h8
 generalize x8.setCell ⟨b,8,none⟩ v8=x9 at h9 ⊢
 have h10:(x9.setCell ⟨b,9,none⟩ v9).heap[b]?=some (.cells #[v0,v1,v2,v3,v4,v5,v6,v7,v8,v9,c10,c11,c12,c13,c14] T (0,0)):=heap_setCell_same _ b 9 _ _ v9 h9
 generalize x9.setCell ⟨b,9,none⟩ v9=x10 at h10 ⊢
 have h11:(x10.setCell ⟨b,10,none⟩ v10).heap[b]?=some (.cells #[v0,v1,v2,v3,v4,v5,v6,v7,v8,v9,v10,c11,c12,c13,c14] T (0,0)):=heap_setCell_same _ b 10 _ _ v10 h10
 generalize x10.setCell ⟨b,10,none⟩ v10=x11 at h11 ⊢
 have h12:(x11.setCell ⟨b,11,none⟩ v11).heap[b]?=some (.cells #[v0,v1,v2,v3,v4,v5,v6,v7,v8,v9,v10,v11,c12,c13,c14] T (0,0)):=heap_setCell_same _ b 11 _ _ v11 h11
 generalize x11.setCell ⟨b,11,none⟩ v11=x12 at h12 ⊢
 have h13:(x12.setCell ⟨b,12,none⟩ v12).heap[b]?=some (.cells #[v0,v1,v2,v3,v4,v5,v6,v7,v8,v9,v10,v11,v12,c13,c14] T (0,0)):=heap_setCell_same _ b 12 _ _ v12 h12
 generalize x12.setCell ⟨b,12,none⟩ v12=x13 at h13 ⊢
 have h14:(x13.setCell ⟨b,13,none⟩ v13).heap[b]?=some (.cells #[v0,v1,v2,v3,v4,v5,v6,v7,v8,v9,v10,v11,v12,v13,c14] T (0,0)):=heap_setCell_same _ b 13 _ _ v13 h13
 generalize x13.setCell ⟨b,13,none⟩ v13=x14 at h14 ⊢
 have h15:(x14.setCell ⟨b,14,none⟩ v14).heap[b]?=some (.cells #[v0,v1,v2,v3,v4,v5,v6,v7,v8,v9,v10,v11,v12,v13,v14] T (0,0)):=heap_setCell_same _ b 14 _ _ v14 h14
 exact h15
theorem set15_below {B b:Nat}{w0 w:World}(h:Below B w0 w)(hb:B≤b)(v0 v1 v2 v3 v4 v5 v6 v7 v8 v9 v10 v11 v12 v13 v14:Value):Below B w0 (((((((((((((((w.setCell ⟨b,0,none⟩ v0).setCell ⟨b,1,none⟩ v1).setCell ⟨b,2,none⟩ v2).setCell ⟨b,3,none⟩ v3).setCell ⟨b,4,none⟩ v4).setCell ⟨b,5,none⟩ v5).setCell ⟨b,6,none⟩ v6).setCell ⟨b,7,none⟩ v7).setCell ⟨b,8,none⟩ v8).setCell ⟨b,9,none⟩ v9).setCell ⟨b,10,none⟩ v10).setCell ⟨b,11,none⟩ v11).setCell ⟨b,12,none⟩ v12).setCell ⟨b,13,none⟩ v13).setCell ⟨b,14,none⟩ v14) :=
 setAt_below hb [v0,v1,v2,v3,v4,v5,v6,v7,v8,v9,v10,v11,v12,v13,v14] 0 h
theorem set8e_cell (w:World)(b:Nat)(v0 v1 v2 v3 v4 v5 v6 v7:Value){k j:Nat}(h:k≠b):((((((((w.setCell ⟨b,5,none⟩ v0).setCell ⟨b,6,none⟩ v1).setCell ⟨b,7,none⟩ v2).setCell ⟨b,8,none⟩ v3).setCell ⟨b,9,none⟩ v4).setCell ⟨b,10,none⟩ v5).setCell ⟨b,11,none⟩ v6).setCell ⟨b,12,none⟩ v7).cell? ⟨k,j,none⟩=w.cell? ⟨k,j,none⟩ :=
 setAt_cell h [v0,v1,v2,v3,v4,v5,v6,v7] 5 w
theorem set8e_same {w:World}{b:Nat}{T:TypeId}{c0 c1 c2 c3 c4 c5 c6 c7 c8 c9 c10 c11 c12 c13 c14:Value}(h:w.heap[b]?=some (.cells #[c0,c1,c2,c3,c4,c5,c6,c7,c8,c9,c10,c11,c12,c13,c14] T (0,0)))(v0 v1 v2 v3 v4 v5 v6 v7:Value):((((((((w.setCell ⟨b,5,none⟩ v0).setCell ⟨b,6,none⟩ v1).setCell ⟨b,7,none⟩ v2).setCell ⟨b,8,none⟩ v3).setCell ⟨b,9,none⟩ v4).setCell ⟨b,10,none⟩ v5).setCell ⟨b,11,none⟩ v6).setCell ⟨b,12,none⟩ v7).heap[b]?=some (.cells #[c0,c1,c2,c3,c4,v0,v1,v2,v3,v4,v5,v6,v7,c13,c14] T (0,0)):=by
 have h1:(w.setCell ⟨b,5,none⟩ v0).heap[b]?=some (.cells #[c0,c1,c2,c3,c4,v0,c6,c7,c8,c9,c10,c11,c12,c13,c14] T (0,0)):=heap_setCell_same _ b 5 _ _ v0 h
 generalize w.setCell ⟨b,5,none⟩ v0=x1 at h1 ⊢
 have h2:(x1.setCell ⟨b,6,none⟩ v1).heap[b]?=some (.cells #[c0,c1,c2,c3,c4,v0,v1,c7,c8,c9,c10,c11,c12,c13,c14] T (0,0)):=heap_setCell_same _ b 6 _ _ v1 h1
 generalize x1.setCell ⟨b,6,none⟩ v1=x2 at h2 ⊢
 have h3:(x2.setCell ⟨b,7,none⟩ v2).heap[b]?=some (.cells #[c0,c1,c2,c3,c4,v0,v1,v2,c8,c9,c10,c11,c12,c13,c14] T (0,0)):=heap_setCell_same _ b 7 _ _ v2 h2
 generalize x2.setCell ⟨b,7,none⟩ v2=x3 at h3 ⊢
 have h4:(x3.setCell ⟨b,8,none⟩ v3).heap[b]?=some (.cells #[c0,c1,c2,c3,c4,v0,v1,v2,v3,c9,c10,c11,c12,c13,c14] T (0,0)):=heap_setCell_same _ b 8 _ _ v3 h3
 generalize x3.setCell ⟨b,8,none⟩ v3=x4 at h4 ⊢
 have h5:(x4.setCell ⟨b,9,none⟩ v4).heap[b]?=some (.cells #[c0,c1,c2,c3,c4,v0,v1,v2,v3,v4,c10,c11,c12,c13,c14] T (0,0)):=heap_setCell_same _ b 9 _ _ v4 h4
 generalize x4.setCell ⟨b,9,none⟩ v4=x5 at h5 ⊢
 have h6:(x5.setCell ⟨b,10,none⟩ v5).heap[b]?=some (.cells #[c0,c1,c2,c3,c4,v0,v1,v2,v3,v4,v5,c11,c12,c13,c14] T (0,0)):=heap_setCell_same _ b 10 _ _ v5 h5
 generalize x5.setCell ⟨b,10,none⟩ v5=x6 at h6 ⊢
 have h7:(x6.setCell ⟨b,11,none⟩ v6).heap[b]?=some (.cells #[c0,c1,c2,c3,c4,v0,v1,v2,v3,v4,v5,v6,c12,c13,c14] T (0,0)):=heap_setCell_same _ b 11 _ _ v6 h6
 generalize x6.setCell ⟨b,11,none⟩ v6=x7 at h7 ⊢
 have h8:(x7.setCell ⟨b,12,none⟩ v7).heap[b]?=some (.cells #[c0,c1,c2,c3,c4,v0,v1,v2,v3,v4,v5,v6,v7,c13,c14] T (0,0)):=heap_setCell_same _ b 12 _ _ v7 h7
 exact h8
theorem set8e_below {B b:Nat}{w0 w:World}(h:Below B w0 w)(hb:B≤b)(v0 v1 v2 v3 v4 v5 v6 v7:Value):Below B w0 ((((((((w.setCell ⟨b,5,none⟩ v0).setCell ⟨b,6,none⟩ v1).setCell ⟨b,7,none⟩ v2).setCell ⟨b,8,none⟩ v3).setCell ⟨b,9,none⟩ v4).setCell ⟨b,10,none⟩ v5).setCell ⟨b,11,none⟩ v6).setCell ⟨b,12,none⟩ v7) :=
 setAt_below hb [v0,v1,v2,v3,v4,v5,v6,v7] 5 h
theorem set8e_alk (P:Nat→Prop)(w:World)(b:Nat)(v0 v1 v2 v3 v4 v5 v6 v7:Value)(hP:∀ k,P k→k≠b):Alk P w ((((((((w.setCell ⟨b,5,none⟩ v0).setCell ⟨b,6,none⟩ v1).setCell ⟨b,7,none⟩ v2).setCell ⟨b,8,none⟩ v3).setCell ⟨b,9,none⟩ v4).setCell ⟨b,10,none⟩ v5).setCell ⟨b,11,none⟩ v6).setCell ⟨b,12,none⟩ v7) :=
 setAt_alk hP [v0,v1,v2,v3,v4,v5,v6,v7] 5 w
theorem set15_alk (P:Nat→Prop)(w:World)(b:Nat)(v0 v1 v2 v3 v4 v5 v6 v7 v8 v9 v10 v11 v12 v13 v14:Value)(hP:∀ k,P k→k≠b):Alk P w (((((((((((((((w.setCell ⟨b,0,none⟩ v0).setCell ⟨b,1,none⟩ v1).setCell ⟨b,2,none⟩ v2).setCell ⟨b,3,none⟩ v3).setCell ⟨b,4,none⟩ v4).setCell ⟨b,5,none⟩ v5).setCell ⟨b,6,none⟩ v6).setCell ⟨b,7,none⟩ v7).setCell ⟨b,8,none⟩ v8).setCell ⟨b,9,none⟩ v9).setCell ⟨b,10,none⟩ v10).setCell ⟨b,11,none⟩ v11).setCell ⟨b,12,none⟩ v12).setCell ⟨b,13,none⟩ v13).setCell ⟨b,14,none⟩ v14) :=
 setAt_alk hP [v0,v1,v2,v3,v4,v5,v6,v7,v8,v9,v10,v11,v12,v13,v14] 0 w
end Go.Proofs.YtemkhbmkaalgdaaGreatDoor
