/- Walks and plain laws: ZedW2, FofW. -/
import Derived.Test.YtbodlpoomfefcaaGreatDoorA21
set_option maxHeartbeats 16000000
set_option maxRecDepth 100000
set_option linter.unusedVariables false
set_option linter.unusedSimpArgs false
namespace Go.Proofs.YtbodlpoomfefcaaGreatDoor
open Go.RowKit Go
theorem zmade_any (P:Nat→Prop)(ng:Bool)(ao:Option Addr)(cap:Nat)(ws:List Nat)(w:World)(h:Wd P w (.slice ao ws.length cap) ws)(hn:ws.length≤1099511627776) :
  Calls Tryz.prog 133 #[.bool ng,.slice ao ws.length cap] w fun e w'=>e=.returned (.agg #[.bool (ng && decide (0<(trimW ws).length)),.slice ao (trimW ws).length cap])∧Below w.heap.size w w':=by
 have h1:Wd P (w.alloc (.cells #[.bool false,.slice none 0 0] 37)) (.slice ao ws.length cap) ws:=h.frame (Alk.of (below_new w _))
 have HT:=Lib.hid (ztrim_any P ao cap ws _ h1 hn)
 clear h h1
 generalize (trimW ws).length=k at *
 cases ng with
 | false =>
  go_enter Tryz.func133,Tryz.ntmps133
  go_wp2_with (go_at_call 131;refine HT.out.mono ?_;rintro e w1 ⟨rfl,rfl⟩)
  refine bodyPost_ret (v:=.agg #[.bool false,.slice ao k cap]) (by simp [results,Tryz.results133,go_sem]) rfl ⟨rfl,?_⟩
  exact below_new w _
 | true =>
  by_cases hk:0<k
  ·have hkd:decide (0<k)=true:=decide_eq_true hk
   rw [hkd]
   have hkI:(0:Int)<(k:Int):=by omega
   go_enter Tryz.func133,Tryz.ntmps133
   go_wp2_with (go_at_call 131;refine HT.out.mono ?_;rintro e w1 ⟨rfl,rfl⟩)
   refine bodyPost_ret (v:=.agg #[.bool true,.slice ao k cap]) (by simp [results,Tryz.results133,go_sem]) rfl ⟨rfl,?_⟩
   exact below_new w _
  ·obtain rfl:k=0:=by omega
   go_enter Tryz.func133,Tryz.ntmps133
   go_wp2_with (go_at_call 131;refine HT.out.mono ?_;rintro e w1 ⟨rfl,rfl⟩)
   refine bodyPost_ret (v:=.agg #[.bool false,.slice ao 0 cap]) (by simp [results,Tryz.results133,go_sem]) rfl ⟨rfl,?_⟩
   exact below_new w _
theorem Tryz.infoSet:(Tryz.prog.info? 270).map (fun i=>(i.zero,i.size))=some (some (.agg (Array.replicate 256 (.bool false))),256):=by kernel_rfl
def tenL:List UInt8:=[48,49,50,51,52,53,54,55,56,57]
theorem ten_mem {c:UInt8}(h:(decide (48≤c.toNat) && decide (c.toNat≤57))=true):tenL.contains c=true:=by
 have:∀ n:Fin 256,(decide (48≤(UInt8.ofNat n.val).toNat) && decide ((UInt8.ofNat n.val).toNat≤57))=true→tenL.contains (UInt8.ofNat n.val)=true:=by decide
 have h1:=this ⟨c.toNat,c.toNat_lt⟩
 rw [UInt8.ofNat_toNat] at h1
 exact h1 h
theorem dw_nil {α:Type}(p:α→Bool):∀ (l:List α),(∀ x∈l,p x=true)→l.dropWhile p=[]
 | [],_=>rfl
 | x :: l,h=>by rw [List.dropWhile_cons_of_pos (h x List.mem_cons_self),dw_nil p l fun y hy=>h y (List.mem_cons_of_mem _ hy)]
theorem trim_digits {l:List UInt8}(h:digitsB l=true):Lib.trimS l tenL=[]:=by
 have h1:Lib.trimRightS l tenL=[]:=by
  unfold Lib.trimRightS
  have:l.reverse.dropWhile (tenL.contains ·)=[]:=dw_nil _ _ fun x hx=>ten_mem ((List.all_eq_true.1 h) x (List.mem_reverse.1 hx))
  rw [this,List.reverse_nil]
 unfold Lib.trimS
 rw [h1]
 rfl
theorem cut_digits {l:List UInt8}(h:digitsB l=true):Lib.hasPrefix l [45]=false:=by
 cases l with
 | nil=>rfl
 | cons c l =>
  rw [digitsB,List.all_cons,Bool.and_eq_true] at h
  have hc:=h.1
  simp only [Bool.and_eq_true,decide_eq_true_eq] at hc
  have:(45 == c)=false:=by
   rw [← Bool.not_eq_true,beq_iff_eq]
   rintro rfl
   simp at hc
  simp [Lib.hasPrefix,List.isPrefixOf,this]
theorem val_int {k:IntKind}{a b:Int}(h:a=b):Value.int k a=Value.int k b:=by rw [h]
theorem digits_step {R T:List UInt8}{n:Nat}{ws:List Nat}(_hn:n≤9)(hR:n≤R.length)(hT:T=R.take n)(hd:digitsB R=true)(hw:∀ x∈ws,x<4294967296)(hp:10 ^ n≤1000000000) :
  digitsB (R.drop n)=true∧magV (trimW (scaleF (10 ^ n) ws (decV T))) * 10 ^ (R.drop n).length+decV (R.drop n)=magV ws * 10 ^ R.length+decV R:=by
 have e1:R=R.take n++R.drop n:=(List.take_append_drop n R).symm
 have ed:digitsB (R.take n)=true∧digitsB (R.drop n)=true:=by
  rw [e1,digitsB,List.all_append,Bool.and_eq_true] at hd;exact hd
 have hl:(R.take n).length=n:=by rw [List.length_take];omega
 have hv:=decV_lt _ ed.1
 rw [hl] at hv
 refine ⟨ed.2,?_⟩
 rw [hT,magV_trim,magV_scale _ hp _ _ hw (by omega)]
 have e2:decV R=decV (R.take n) * 10 ^ (R.drop n).length+decV (R.drop n):=by
  conv=>lhs;rw [e1]
  exact decV_append _ _
 rw [e2,Nat.add_mul,Nat.mul_assoc,← Nat.pow_add,List.length_drop,show n+(R.length - n)=R.length by omega]
 omega
def ZPostI (n:Int)(w:World)(e:Ending)(w':World):Prop :=
 ∃ am wn cm,e=.returned (.tuple #[.agg #[.bool (decide (n<0)),.slice am wn cm],.int .i64 0])∧NumAt (fun b=>w.heap.size≤b) w' n (.slice am wn cm)∧Below w.heap.size w w'
def sgnF (ng:Bool)(n:Nat):Int:=if ng=true then -(n:Int) else (n:Int)
theorem sgnF_abs (ng:Bool)(n:Nat):(sgnF ng n).natAbs=n:=by unfold sgnF;split <;> omega
theorem sgnF_neg {ws:List Nat}(ng:Bool)(h:trimW ws=ws):decide (sgnF ng (magV ws)<0)=(ng && decide (0<ws.length)):=by
 cases ng with
 | false=>exact decide_eq_false (by simp [sgnF])
 | true =>
  by_cases hw:ws=[]
  ·subst hw;rfl
  ·have h1:=trimW_pos h hw
   have h2:0<ws.length:=List.length_pos_iff.2 hw
   rw [decide_eq_true (by simp [sgnF];omega),decide_eq_true h2];rfl
theorem zparse_good (s0 s:ByteArray)(ng:Bool)(w:World)(e1:Lib.hasPrefix s0.data.toList (ByteArray.mk #[45]).data.toList=ng)(e2:Lib.trimPrefix s0.data.toList (ByteArray.mk #[45]).data.toList=s.data.toList)(h0:0<s.size)(h60:s.size≤60)(hd:digitsB s.data.toList=true)(hz:s.data.toList.head?=some 48→s.size=1∧ng=false) :
  Calls Tryz.prog 80 #[.string s0] w (ZPostI (sgnF ng (decV s.data.toList)) w):=by
 have hcut:=Tryz.strings_CutPrefix s0 ⟨#[45]⟩ (w.alloc (.cells #[.bool false,.slice none 0 0] 37))
 rw [e1,e2,show ByteArray.mk s.data.toList.toArray=s by cases s;simp] at hcut
 have HC:=Lib.hid hcut
 have htr:∀ W:World,Calls Tryz.prog 130 #[.string s,.string ⟨#[48,49,50,51,52,53,54,55,56,57]⟩] W fun e w'=>e=.returned (.string ⟨#[]⟩)∧Below W.heap.size W w':=fun W=>by
  have:=Any.strings_Trim_laid Tryz.lays160 Tryz.infoSet s ⟨#[48,49,50,51,52,53,54,55,56,57]⟩ W (by omega) (by decide) (ascii_of_all (by decide))
  rw [show (ByteArray.mk #[48,49,50,51,52,53,54,55,56,57]).data.toList=tenL from rfl,trim_digits hd] at this
  exact this
 have HTr:=Lib.hid htr
 have hne:s.toList.isEmpty=false:=by rw [isEmpty_size];exact decide_eq_false (by omega)
 have hne2:(s.toList == [])=false:=by
  rw [← Bool.not_eq_true,beq_iff_eq]
  intro q
  rw [q] at hne
  cases hne
 have HD:=Lib.hid hd
 have hlast:((((s[0]'h0).toNat:Int) == 48)=false∨((((s[0]'h0).toNat:Int) == 48)=true∧decide ((1:Int)<(s.size:Int))=false∧ng=false)):=by
  by_cases q:((s[0]'h0).toNat:Int)=48
  ·right
   have:s.size=1∧ng=false:=by
    apply hz
    obtain ⟨r,hr⟩:=head_cons h0
    rw [hr,List.head?_cons]
    congr 1
    exact UInt8.toNat_inj.1 (show (s[0]'h0).toNat=48 by omega)
   exact ⟨by simpa using q,decide_eq_false (by omega),this.2⟩
  ·left;simpa using q
 clear hcut e1 e2 htr hz hd
 have h0I:(0:Int)<(s.size:Int):=by omega
 have h60I:(s.size:Int)≤60:=by omega
 have hg:=heap_alloc_new w (.cells #[.bool false,.slice none 0 0] 37)
 have hbw:=below_new w (.cells #[.bool false,.slice none 0 0] 37)
 go_enter Tryz.func80,Tryz.ntmps80
 go_upto_region 4 with (go_at_call 129;refine HC.out.mono ?_;rintro e w1 ⟨rfl,rfl⟩)
 generalize w.alloc _=w2 at hg hbw ⊢
 go_cut [4,5,22] (fun r n1 t wx=>r=.string s∧n1=.bool ng∧t=.bool false∧wx.heap[w.heap.size]?=some (.cells #[.bool false,.slice none 0 0] 37 (0,0))∧Below w.heap.size w wx)
 case first =>
  rcases hlast with hl|⟨hl,hl2,rfl⟩
  ·go_wp2_with (go_at_call 130;refine (HTr.out _).mono ?_;rintro e w1 ⟨rfl,hb1⟩)
   go_meet
   exact ⟨rfl,rfl,rfl,(hb1.block _ (Array.getElem?_eq_some_iff.1 hg).1).trans hg,hbw.trans (hb1.mono hbw.size)⟩
  ·go_wp2_with (go_at_call 130;refine (HTr.out _).mono ?_;rintro e w1 ⟨rfl,hb1⟩)
   go_meet
   exact ⟨rfl,rfl,rfl,(hb1.block _ (Array.getElem?_eq_some_iff.1 hg).1).trans hg,hbw.trans (hb1.mono hbw.size)⟩
 case rest =>
  obtain ⟨rfl,rfl,rfl,hg2,hbc⟩:=hcut
  clear hne hne2 hlast hg hbw HTr HC
  obtain ⟨wo,rfl⟩:∃ wo:World,wo=wc:=⟨_,rfl⟩
  go_wp2
  go_loopw [4,6] (fun rv mv wr=>∃ (R:ByteArray) (ws:List Nat) (ao:Option Addr) (cap:Nat),rv=.string R∧mv=.slice ao ws.length cap∧Wd (fun b=>w.heap.size<b) wr (.slice ao ws.length cap) ws∧trimW ws=ws∧(∀ x∈ws,x<4294967296)∧ws.length+R.size≤60∧digitsB R.data.toList=true∧magV ws * 10 ^ R.size+decV R.data.toList=decV s.data.toList∧wr.heap[w.heap.size]?=some (.cells #[.bool false,.slice none 0 0] 37 (0,0))∧Below w.heap.size w wr) (fun rv _ _=>strLen rv)
  case atStart=>exact ⟨s,[],none,0,rfl,rfl,SlP.nil _ _ _,rfl,fun x hx=>(by cases hx),by simpa using h60,HD.out,by simp [magV],hg2,hbc⟩
  case round =>
   obtain ⟨R,ws,ao,cap,rfl,rfl,hW,htr,hlt,hsz,hdg,hval,hg3,hbl⟩:=hrel
   by_cases hR:0<R.size
   ·obtain ⟨n,hn⟩:∃ n,n=min 9 R.size:=⟨_,rfl⟩
    have hn9:n≤9:=by omega
    have hnR:n≤R.size:=by omega
    have hn0:0<n:=by omega
    have hmin:min (9:Int) (R.size:Int)=(n:Int):=by omega
    have hRI:(0:Int)<(R.size:Int):=by omega
    have hR60:(R.size:Int)≤60:=by omega
    have HN:=Lib.hid hn
    have hcv:=fun (W:World)=>run_bytes_of_string (P:=Tryz.prog) W 9 98 5 (R.extract 0 n) Tryz.underlying9 Tryz.underlying98 Tryz.underlying5
    have hTs:(R.extract 0 n).size=n:=by rw [ByteArray.size_extract];omega
    rw [hTs] at hcv
    have HTs:=Lib.hid hTs
    have HV:=Lib.hid hval
    have HDG:=Lib.hid hdg
    have HLT:=Lib.hid hlt
    have HTR:=Lib.hid htr
    clear hTs hn hval hdg hlt htr
    have hz:=hbl.size
    have hlw:=(Array.getElem?_eq_some_iff.1 hg3).1
    have hTl:(R.extract 0 n).data.toList=R.data.toList.take n:=by rw [extract_list,List.drop_zero]
    have hcel:∀ (cap':Nat) (fr:Nat × Nat) (j:Nat) (hj:j<n),(wr.alloc (.cells (bytesRow (R.extract 0 n) cap') 5 fr)).drew.cell? ⟨wr.heap.size,j,none⟩=some (.int .u8 (((R.extract 0 n).data[j]'(by have:=HTs.out;show j<(R.extract 0 n).size;omega)).toNat:Nat)):=fun cap' fr j hj=>by
     have hs:j<(R.extract 0 n).data.size:=by have:=HTs.out;show j<(R.extract 0 n).size;omega
     rw [Lib.cell_of_heap (show (wr.alloc (.cells (bytesRow (R.extract 0 n) cap') 5 fr)).drew.heap[wr.heap.size]?=some (.cells (bytesRow (R.extract 0 n) cap') 5 fr) from heap_alloc_new wr _)]
     exact bytesRow_at _ _ _ hs
    have HCL:=Lib.hid hcel
    clear hcel
    go_wp2
    clear hcv
    have hcl:=HCL.out (grownCap wr n 0 5) ((bytesRow (R.extract 0 n) (grownCap wr n 0 5)).size,(bytesRow (R.extract 0 n) (grownCap wr n 0 5)).size+1)
    have hbx:Below wr.heap.size wr (wr.alloc (.cells (bytesRow (R.extract 0 n) (grownCap wr n 0 5)) 5 ((bytesRow (R.extract 0 n) (grownCap wr n 0 5)).size,(bytesRow (R.extract 0 n) (grownCap wr n 0 5)).size+1))).drew:=((Below.refl _ _).alloc (Nat.le_refl _) _).drew
    have hsx:wr.heap.size<(wr.alloc (.cells (bytesRow (R.extract 0 n) (grownCap wr n 0 5)) 5 ((bytesRow (R.extract 0 n) (grownCap wr n 0 5)).size,(bytesRow (R.extract 0 n) (grownCap wr n 0 5)).size+1))).drew.heap.size:=by simp
    generalize (wr.alloc (.cells (bytesRow (R.extract 0 n) (grownCap wr n 0 5)) 5 _)).drew=wx at hcl hbx hsx ⊢
    have HC2:=Lib.hid hcl
    clear hcl HCL
    have hTd:digitsB (R.extract 0 n).data.toList=true:=by
     have:=HDG.out
     rw [hTl,digitsB,List.all_eq_true]
     rw [digitsB,List.all_eq_true] at this
     exact fun x hx=>this x (List.mem_of_mem_take hx)
    have HTd:=Lib.hid hTd
    have HTl:=Lib.hid hTl
    clear hTd hTl
    go_loop [8,9,55] (fun bv pv q=>∃ k:Nat,k≤n∧q=.int .i64 k∧bv=.int .u64 ((10 ^ k:Nat):Nat)∧pv=.int .u64 (decV ((R.extract 0 n).data.toList.take k):Nat)) (fun _ _ q=>n - (intOf q).toNat)
    case atStart=>exact ⟨0,Nat.zero_le _,rfl,rfl,by rw [List.take_zero];rfl⟩
    case round =>
     obtain ⟨k,hk,rfl,rfl,rfl⟩:=hrel
     have hT1:=HTs.out
     have hT2:(R.extract 0 n).data.toList.length=n:=by rw [size_list];exact hT1
     by_cases hkn:k<n
     ·have hx:=HC2.out k hkn
      have hkd:k<(R.extract 0 n).data.toList.length:=by omega
      have hgk:(R.extract 0 n).data[k]'(by have:=HTs.out;show k<(R.extract 0 n).size;omega)=(R.extract 0 n).data.toList[k]'hkd:=by simp
      have hcb:=(List.all_eq_true.1 HTd.out) _ (List.getElem_mem hkd)
      simp only [Bool.and_eq_true,decide_eq_true_eq] at hcb
      have hsn:decV ((R.extract 0 n).data.toList.take (k+1))=decV ((R.extract 0 n).data.toList.take k) * 10+(((R.extract 0 n).data.toList[k]'hkd).toNat - 48):=by
       rw [List.take_succ_eq_append_getElem hkd,decV_snoc]
      have hpw:(10:Nat) ^ (k+1)=10 ^ k * 10:=Nat.pow_succ ..
      have hp8:(10:Nat) ^ k≤100000000:=Nat.pow_le_pow_right (by omega) (by omega:k≤8)
      have hdl:decV ((R.extract 0 n).data.toList.take k)<10 ^ ((R.extract 0 n).data.toList.take k).length:=decV_lt _ (by
       rw [digitsB,List.all_eq_true]
       exact fun x hx=>(List.all_eq_true.1 HTd.out) x (List.mem_of_mem_take hx))
      rw [List.length_take,Nat.min_eq_left (by omega)] at hdl
      rw [hgk] at hx
      generalize (R.extract 0 n).data.toList[k]'hkd=ch at hx hcb hsn
      obtain ⟨cn,hcn⟩:∃ cn,ch.toNat=cn:=⟨_,rfl⟩
      rw [hcn] at hx hcb hsn
      have HS:=Lib.hid hsn
      have HP:=Lib.hid hpw
      clear hsn hpw hgk hcn hT1 hT2 hkd
      generalize decV ((R.extract 0 n).data.toList.take k)=p at hdl HS
      generalize (10:Nat) ^ k=a at hp8 hdl HP
      have hkI:(k:Int)<(n:Int):=by omega
      go_wp2
      exact ⟨⟨k+1,by omega,by go_num,by rw [HP.out];exact val_int (by omega),by rw [HS.out];exact val_int (by omega)⟩,by simp [intOf];omega⟩
     ·obtain rfl:k=n:=by omega
      have hTk:(R.extract 0 k).data.toList.take k=(R.extract 0 k).data.toList:=List.take_of_length_le (by omega)
      have hdl:=decV_lt _ HTd.out
      rw [hT2] at hdl
      have hp9:=pow_le9 hn9
      have hWx:Wd (fun b=>w.heap.size<b) wx (.slice ao ws.length cap) ws:=SlP.frame hW (Alk.of hbx)
      have HSC:=Lib.hid (scale_any (fun b=>w.heap.size<b) (.slice ao ws.length cap) ws (10 ^ k) (decV (R.extract 0 k).data.toList) wx hWx HLT.out hp9 (by omega) (by omega))
      have hnR':k≤R.data.toList.length:=by rw [size_list];exact hnR
      have hstep:=digits_step (ws:=ws) hn9 hnR' HTl.out HDG.out HLT.out hp9
      have HST:=Lib.hid hstep
      rw [hTk]
      clear hstep hTk hdl hWx hT1 hT2
      generalize (10:Nat) ^ k=a at HSC HST hp9 ⊢
      generalize decV (R.extract 0 k).data.toList=p at HSC HST ⊢
      have hkI:decide ((k:Int)<(k:Int))=false:=decide_eq_false (by omega)
      go_wp2_with (go_at_call 132;refine HSC.out.mono ?_)
      rintro e w7 ⟨v,rfl,hown,hb7⟩
      obtain ⟨g,cap2,rfl,_,_⟩:=hown.form (by rw [scaleF_len];omega)
      have hWs:Wd (fun b=>w.heap.size<b) w7 (.slice (some ⟨g,0,none⟩) (scaleF a ws p).length cap2) (scaleF a ws p):=SlP.ofOwns hown fun b hb=>by omega
      have HT:=Lib.hid (ztrim_any _ (some ⟨g,0,none⟩) cap2 (scaleF a ws p) w7 hWs (by rw [scaleF_len];omega))
      have HWs:=Lib.hid hWs
      have G:=(hb7.block w.heap.size (by omega)).trans ((hbx.block w.heap.size hlw).trans hg3)
      have hbl7:=hbl.trans ((hbx.trans (hb7.mono (Nat.le_of_lt hsx))).mono hz)
      clear hown hWs HSC
      go_wp2_with (go_at_call 131;refine HT.out.mono ?_;rintro e w8 ⟨rfl,rfl⟩)
      go_roundw
      case rel =>
       have hex:(R.extract k R.size).size=R.size - k:=by rw [ByteArray.size_extract];omega
       have hel:(R.extract k R.size).data.toList=R.data.toList.drop k:=by rw [extract_list,List.take_of_length_le (by rw [size_list];exact Nat.le_refl _)]
       have htl:=trimW_len (scaleF a ws p)
       rw [scaleF_len] at htl
       obtain ⟨s1,s2⟩:=HST.out
       have e1:(R.data.toList.drop k).length=R.size - k:=by rw [List.length_drop,size_list]
       rw [e1,size_list] at s2
       refine ⟨R.extract k R.size,trimW (scaleF a ws p),some ⟨g,0,none⟩,cap2,rfl,rfl,?_,trimW_idem _,fun x hx=>scaleF_lt _ _ _ _ (trimW_mem _ _ hx),by omega,by rw [hel];exact s1,by rw [hex,hel,s2];exact HV.out,G,hbl7⟩
       obtain ⟨n',n1,n2,_,_⟩:=trimW_take (scaleF a ws p)
       have hl:(trimW (scaleF a ws p)).length=n':=by rw [n2,List.length_take];omega
       rw [hl,n2]
       exact HWs.out.take n1
      case measure =>
       show (R.extract k R.size).size<R.size
       rw [ByteArray.size_extract]
       omega
   ·have hR0:R.size=0:=by omega
    have hRl:R.data.toList=[]:=List.length_eq_zero_iff.1 (by rw [size_list];exact hR0)
    rw [hRl,hR0] at hval
    have hv2:magV ws=decV s.data.toList:=by simpa [decV] using hval
    have HV:=Lib.hid hv2
    have HLT:=Lib.hid hlt
    have HTR:=Lib.hid htr
    have hM:=zmade_any (fun b=>w.heap.size<b) ng ao cap ws wr hW (by omega)
    rw [htr,← sgnF_neg ng htr,hv2] at hM
    generalize hng:decide (sgnF ng (decV s.data.toList)<0)=nb at hM
    have HNG:=Lib.hid hng
    have HM:=Lib.hid hM
    have hRI:(R.size:Int)≤0:=by omega
    have hz:=hbl.size
    clear hv2 hval hRl hdg hlt htr hM hng
    go_wp2_with (go_at_call 133;refine HM.out.mono ?_)
    rintro e w6 ⟨rfl,hb6⟩
    have G:=(hb6.block w.heap.size (Array.getElem?_eq_some_iff.1 hg3).1).trans hg3
    have d0:w6.cell? ⟨w.heap.size,0,none⟩=some (.bool false):=by rw [Lib.cell_of_heap G];rfl
    have d1:w6.cell? ⟨w.heap.size,1,none⟩=some (.slice none 0 0):=by rw [Lib.cell_of_heap G];rfl
    have dz:∀ j,w6.frozen? ⟨w.heap.size,j,none⟩=false:=by intro j;simp [World.frozen?,G]
    go_wp2
    have hs2:=hb6.size
    refine bodyPost_ret (v:=.tuple #[.agg #[.bool nb,.slice ao ws.length cap],.int .i64 0]) (by simp [results,Tryz.results80,go_sem,d0,d1]) rfl ⟨ao,ws.length,cap,by rw [HNG.out],⟨ws,?_,HTR.out,HLT.out,by rw [HV.out,sgnF_abs]⟩,?_⟩
    ·have h1:=hW.frame (Alk.of hb6)
     have h2:=h1.frame (Alk.set (a:=⟨w.heap.size,0,none⟩) (.bool nb) fun b hb=>by show b≠w.heap.size;omega)
     have h3:=h2.frame (Alk.set (a:=⟨w.heap.size,1,none⟩) (.slice ao ws.length cap) fun b hb=>by show b≠w.heap.size;omega)
     exact h3.imp fun b hb _=>Nat.le_of_lt hb
    ·exact ((hbl.trans (hb6.mono hz)).setCell (Nat.le_refl _) _).setCell (Nat.le_refl _) _
theorem zparse_any (s:ByteArray)(w:World)(h0:0<s.size)(h60:s.size≤60)(hd:digitsB s.data.toList=true)(hz:s.data.toList.head?=some 48→s.size=1) :
  Calls Tryz.prog 80 #[.string s] w (ZPost (decV s.data.toList) w):=by
 have e1:Lib.hasPrefix s.data.toList (ByteArray.mk #[45]).data.toList=false:=cut_digits hd
 refine (zparse_good s s false w e1 (by rw [Lib.trimPrefix,e1];rfl) h0 h60 hd fun h=>⟨hz h,rfl⟩).mono fun e w' h=>?_
 obtain ⟨am,wn,cm,he,h1,h2⟩:=h
 exact ⟨am,wn,cm,by rw [he,show decide (sgnF false (decV s.data.toList)<0)=false from decide_eq_false (by simp [sgnF])],h1,h2⟩
def FofPost (x:PE)(w:World)(r:Ending)(w':World):Prop :=
 ∃ am wn cm ae ce,r=.returned (.tuple #[.agg #[.int .i64 x.op,.string ⟨x.name.toArray⟩,.string ⟨x.module.toArray⟩,.bool (decide (x.num<0)),.slice am wn cm,.bool x.yes,.slice ae x.kids.length ce,.int .i64 x.at_],.int .i64 0]) ∧
  EAt XA (fun b=>w.heap.size≤b) w' (.slice am wn cm) (.slice ae x.kids.length ce) x∧Below w.heap.size w w'
def EPostZ (x:PE)(w:World)(e:Ending)(w':World):Prop :=
 ∃ am wn cm ae ce,e=.returned (.agg #[.int .i64 x.op,.string ⟨x.name.toArray⟩,.string ⟨x.module.toArray⟩,.bool (decide (x.num<0)),.slice am wn cm,.bool x.yes,.slice ae x.kids.length ce,.int .i64 x.at_]) ∧
  EAt XA (fun b=>w.heap.size≤b) w' (.slice am wn cm) (.slice ae x.kids.length ce) x∧Below w.heap.size w w'
theorem EPostA.s {x:PE}{w w':World}{e:Ending}(h:EPostA x w e w'):EPostZ x w e w':=h
theorem env_ok {S:List UInt8}{toks:List Tok}{nodes:List Nd}{ce:CE}(F:FGood S toks nodes ce)(B:Nat)(tv nv:Value):REnv.ok ⟨B,tv,nv,toks,nodes,true⟩ where
 len:=F.good.fewt
 nums u hu hk W:=by
  have h:=lexAll_nums F.lexed _ (peek_mem (lexAll_laid F.lexed).some u) hk
  obtain ⟨X,hX,eX⟩:=bytes_of (textAt toks u)
  simp only
  rw [eX,← hX]
  have h':numTok X.data.toList:=by rw [hX];exact h
  refine zparse_any X W ?_ ?_ h'.1 (fun q=>by rw [← size_list];exact h'.2.2.2 q)
  ·rw [← size_list];exact List.length_pos_iff.2 h'.2.1
  ·rw [← size_list];exact h'.2.2.1
theorem root_kid {S:List UInt8}{toks:List Tok}{nodes:List Nd}{ce:CE}(F:FGood S toks nodes ce):∃ (r k:Nat) (ks:List Int),nodes.length=r+1∧nodes[r]?=some ⟨18,-1,(k:Int) :: ks⟩∧Rep nodes k 0 ce.pt:=by
 have hr:=Rep.em (pre:=[]) (aloneT ce) 0 0 rfl
 have hnd:nodes.length=(aloneT ce).nd:=by rw [F.nodes_eq,PT.em_len]
 have hp:=(aloneT ce).nd_pos
 rw [List.nil_append,Nat.zero_add,← F.nodes_eq,← hnd] at hr
 obtain ⟨r,hr1⟩:∃ r,nodes.length=r+1:=⟨nodes.length - 1,by omega⟩
 rw [hr1,show (((r+1:Nat):Int) - 1)=(r:Int) by omega,aloneT] at hr
 obtain ⟨ks,h1,h2⟩:=rep_node hr
 obtain ⟨k,ks',rfl,h3,_⟩:=repL_sub h2
 exact ⟨r,k,ks',hr1,h1,h3⟩
theorem expr_cells {w:World}{b:Nat}{c0 c1 c2 c3 c4 c5 c6 c7:Value}(h:w.heap[b]?=some (.cells #[c0,c1,c2,c3,c4,c5,c6,c7] 40 (0,0))) :
  w.cell? ⟨b,0,none⟩=some c0∧w.cell? ⟨b,1,none⟩=some c1∧w.cell? ⟨b,2,none⟩=some c2∧w.cell? ⟨b,3,none⟩=some c3∧w.cell? ⟨b,4,none⟩=some c4∧w.cell? ⟨b,5,none⟩=some c5∧w.cell? ⟨b,6,none⟩=some c6∧w.cell? ⟨b,7,none⟩=some c7∧∀ j,w.frozen? ⟨b,j,none⟩=false:=by
 refine ⟨?_,?_,?_,?_,?_,?_,?_,?_,fun j=>by simp [World.frozen?,h]⟩ <;> (rw [Lib.cell_of_heap h];rfl)
theorem formulaOf_yes (B:Nat)(at_:Option Addr)(ct:Nat)(an:Option Addr)(cn:Nat)(S:ByteArray)(toks:List Tok)(nodes:List Nd)(ce:CE)(w:World)(h:TreeAt B w (.agg #[.slice at_ toks.length ct,.slice an nodes.length cn]) toks nodes)(hB:B≤w.heap.size)(F:FGood S.data.toList toks nodes ce) :
  Calls Tryz.prog 13 #[.agg #[.slice at_ toks.length ct,.slice an nodes.length cn]] w (FofPost (ce.pe toks 0) w):=by
 have hft:=F.good.fewt
 have hfn:=F.good.few
 obtain ⟨r,k,ks,hr1,hn,hrep⟩:=root_kid F
 have HA:=Lib.hid (fun W (hW:Below w.heap.size w W)=>as_yes B at_ ct an cn S toks nodes _ W (h.below (hW.mono hB)) (Nat.le_trans hB hW.size) F.good (by have:=F.small;rw [size_list] at this;exact this) F.whole F.deep)
 have HX:Hid (∀ W,Below w.heap.size w W→Calls Tryz.prog 42 #[.agg #[.slice at_ toks.length ct,.slice an nodes.length cn],.int .i64 k] W (EPostZ (ce.pe toks 0) W)):=Lib.hid (fun W hW=>by
  have hx:=rexpr_reads ⟨B,.slice at_ toks.length ct,.slice an nodes.length cn,toks,nodes,true⟩ (env_ok F B _ _) (SizeOf.sizeOf ce+1) ce 0 (by omega) F.okk (by have:=F.lv;show 0+ce.pt.lv≤toks.length;omega)
  have hy:=hx k W hrep ⟨h.below (hW.mono hB),Nat.le_trans hB hW.size⟩
  exact hy.mono fun _ _ h=>h.a.s)
 have HT:=Lib.hid h
 have HN:=Lib.hid hn
 have HR1:=Lib.hid hr1
 clear hr1
 generalize ce.pe toks 0=x at HX ⊢
 have hal:=(below_new w (.cells #[.slice at_ toks.length ct,.slice an nodes.length cn] 25)).alloc (by simp) (.cells #[.int .i64 0,.string ⟨#[]⟩,.string ⟨#[]⟩,.bool false,.slice none 0 0,.bool false,.slice none 0 0,.int .i64 0] 40)
 have e1:=(Lib.alloc_old (w.alloc (.cells #[.slice at_ toks.length ct,.slice an nodes.length cn] 25)) (.cells #[.int .i64 0,.string ⟨#[]⟩,.string ⟨#[]⟩,.bool false,.slice none 0 0,.bool false,.slice none 0 0,.int .i64 0] 40) w.heap.size (by simp)).trans (heap_alloc_new w (.cells #[.slice at_ toks.length ct,.slice an nodes.length cn] 25))
 have e2:=heap_alloc_new (w.alloc (.cells #[.slice at_ toks.length ct,.slice an nodes.length cn] 25)) (.cells #[.int .i64 0,.string ⟨#[]⟩,.string ⟨#[]⟩,.bool false,.slice none 0 0,.bool false,.slice none 0 0,.int .i64 0] 40)
 rw [World.size_alloc] at e2
 clear h F hrep hn
 go_enter Tryz.func13,Tryz.ntmps13
 go_upto_region 3 with (go_at_call 39;refine (HA.out _ hal).mono ?_;rintro e w3 ⟨rfl,hb3⟩)
 have E1:=(hb3.block w.heap.size (by simp;omega)).trans e1
 have E2:=(hb3.block (w.heap.size+1) (by simp)).trans e2
 have hb4:=hal.trans (hb3.mono (by simp;omega))
 obtain ⟨hi,hni⟩:=List.getElem?_eq_some_iff.1 HN.out
 obtain ⟨b,off,cap,kv,hnv,hbB,x0,x1,x2,hkv⟩:=(HT.out.below (hb4.mono hB)).node hi
 simp only [Value.slice.injEq] at hnv
 obtain ⟨rfl,-,rfl⟩:=hnv
 rw [hni] at hkv
 obtain ⟨ak,ck,rfl,_,hkf⟩:=hkv.form
 simp only at x2 hkf
 obtain ⟨bk,ok,rfl,hbk,hkc⟩:=hkf (by simp)
 have k0:=hkc 0 (by simp)
 simp only [List.getElem_cons_zero,Nat.add_zero] at k0
 obtain ⟨c0,c1⟩:=tree_cells E1
 have hz4:=hb4.size
 have hl1:=(Array.getElem?_eq_some_iff.1 E1).1
 have hl2:=(Array.getElem?_eq_some_iff.1 E2).1
 have hr1:=HR1.out
 have HNI:Hid (((nodes.length:Int) - 1)=(r:Int)):=Lib.hid (by omega)
 have hrI:(r:Int)<(nodes.length:Int):=by omega
 clear hb3 e1 e2 hal HA x0 x1 hkc hkf hkv hni HT HN E1 hr1 HR1
 go_region_with (first|(go_at_call 17;refine (root_tree at_ toks.length ct (some ⟨b,off,none⟩) nodes.length cn _ (by omega)).mono ?_;rintro e w5 ⟨rfl,hb5⟩;rw [HNI.out];have d0:=(hb5.cell (p:=⟨w.heap.size,0,none⟩) hl1).trans c0;have d1:=(hb5.cell (p:=⟨w.heap.size,1,none⟩) hl1).trans c1;have dx:=(hb5.cell (p:=⟨b,off+r * 3+2,none⟩) (by show b<w3.heap.size;omega)).trans x2;have dk:=(hb5.cell (p:=⟨bk,ok,none⟩) (by show bk<w3.heap.size;omega)).trans k0)|(go_at_call 42;refine (HX.out _ (hb4.drew.trans (hb5.mono hz4))).mono ?_;rintro e w6 ⟨am,wn,cm,ae,c6,rfl,hx6,hb6⟩;have E6:=(hb6.block (w.heap.size+1) (Nat.lt_of_lt_of_le hl2 hb5.size)).trans ((hb5.block (w.heap.size+1) hl2).trans E2);obtain ⟨r0,r1,r2,r3,r4,r5,r6,r7,rz⟩:=expr_cells E6;have HX6:=Lib.hid hx6;have HB6:=Lib.hid hb6;have HB5:=Lib.hid hb5;clear hx6 hb6 hb5 E6 d0 d1 dx dk))
 all_goals
  have hb56:=hb4.drew.trans (HB5.out.mono hz4)
  have hb66:=hb56.trans (HB6.out.mono hb56.size)
  have hz5:=hb56.size
  have hl5:w.heap.size+1<w5.heap.size:=Nat.lt_of_lt_of_le hl2 HB5.out.size
  have hx6':EAt XA (fun b=>w.heap.size+1<b) w6 (.slice am wn cm) (.slice ae x.kids.length c6) x:=HX6.out.imp (fun b hb _=>by omega)
  clear HX6 HB6 HB5 hb56 hb4 c0 c1 x2 k0 E2 HX HNI
  go_wp2
  refine bodyPost_ret (v:=.tuple #[.agg #[.int .i64 x.op,.string ⟨x.name.toArray⟩,.string ⟨x.module.toArray⟩,.bool (decide (x.num<0)),.slice am wn cm,.bool x.yes,.slice ae x.kids.length c6,.int .i64 x.at_],.int .i64 0]) (by simp [results,Tryz.results13,go_sem,r0,r1,r2,r3,r4,r5,r6,r7]) rfl ⟨am,wn,cm,ae,c6,rfl,?_,?_⟩
  ·exact (hx6'.frame (((((((Alk.set _ (fun b hb=>by show b≠w.heap.size+1;omega)).trans (Alk.set _ (fun b hb=>by show b≠w.heap.size+1;omega))).trans (Alk.set _ (fun b hb=>by show b≠w.heap.size+1;omega))).trans (Alk.set _ (fun b hb=>by show b≠w.heap.size+1;omega))).trans (Alk.set _ (fun b hb=>by show b≠w.heap.size+1;omega))).trans (Alk.set _ (fun b hb=>by show b≠w.heap.size+1;omega))).trans ((Alk.set _ (fun b hb=>by show b≠w.heap.size+1;omega)).trans (Alk.set _ (fun b hb=>by show b≠w.heap.size+1;omega))))).imp (fun b hb _=>by omega)
  ·exact ((((((((hb66.setCell (by simp) _).setCell (by simp) _).setCell (by simp) _).setCell (by simp) _).setCell (by simp) _).setCell (by simp) _).setCell (by simp) _).setCell (by simp) _)
end Go.Proofs.YtbodlpoomfefcaaGreatDoor
