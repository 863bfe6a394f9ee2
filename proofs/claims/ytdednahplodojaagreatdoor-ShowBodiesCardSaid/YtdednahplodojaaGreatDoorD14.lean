/- Walks and plain laws: ZedW2, ZedA, ParseLaws4. -/
import Derived.Test.YtdednahplodojaaGreatDoorD13
set_option maxHeartbeats 16000000
set_option maxRecDepth 100000
set_option linter.unusedVariables false
set_option linter.unusedSimpArgs false
namespace Go.Proofs.YtdednahplodojaaGreatDoor
open Go.RowKit Go
theorem zmade_any (P:Nat→Prop)(ng:Bool)(ao:Option Addr)(cap:Nat)(ws:List Nat)(w:World)(h:Wd P w (.slice ao ws.length cap) ws)(hn:ws.length≤1099511627776) :
  Calls Tryz.prog 85 #[.bool ng,.slice ao ws.length cap] w fun e w'=>e=.returned (.agg #[.bool (ng && decide (0<(trimW ws).length)),.slice ao (trimW ws).length cap])∧Below w.heap.size w w':=by
 have h1:Wd P (w.alloc (.cells #[.bool false,.slice none 0 0] 37)) (.slice ao ws.length cap) ws:=h.frame (Alk.of (below_new w _))
 have HT:=Lib.hid (ztrim_any P ao cap ws _ h1 hn)
 clear h h1
 generalize (trimW ws).length=k at *
 cases ng with
 | false =>
  go_enter Tryz.func85,Tryz.ntmps85
  go_wp2_with (go_at_call 83;refine HT.out.mono ?_;rintro e w1 ⟨rfl,rfl⟩)
  refine bodyPost_ret (v:=.agg #[.bool false,.slice ao k cap]) (by simp [results,Tryz.results85,go_sem]) rfl ⟨rfl,?_⟩
  exact below_new w _
 | true =>
  by_cases hk:0<k
  ·have hkd:decide (0<k)=true:=decide_eq_true hk
   rw [hkd]
   have hkI:(0:Int)<(k:Int):=by omega
   go_enter Tryz.func85,Tryz.ntmps85
   go_wp2_with (go_at_call 83;refine HT.out.mono ?_;rintro e w1 ⟨rfl,rfl⟩)
   refine bodyPost_ret (v:=.agg #[.bool true,.slice ao k cap]) (by simp [results,Tryz.results85,go_sem]) rfl ⟨rfl,?_⟩
   exact below_new w _
  ·obtain rfl:k=0:=by omega
   go_enter Tryz.func85,Tryz.ntmps85
   go_wp2_with (go_at_call 83;refine HT.out.mono ?_;rintro e w1 ⟨rfl,rfl⟩)
   refine bodyPost_ret (v:=.agg #[.bool false,.slice ao 0 cap]) (by simp [results,Tryz.results85,go_sem]) rfl ⟨rfl,?_⟩
   exact below_new w _
theorem Tryz.infoSet:(Tryz.prog.info? 195).map (fun i=>(i.zero,i.size))=some (some (.agg (Array.replicate 256 (.bool false))),256):=by kernel_rfl
def tenL:List UInt8:=[48,49,50,51,52,53,54,55,56,57]
theorem ten_mem {c:UInt8}(h:(decide (48≤c.toNat) && decide (c.toNat≤57))=true):tenL.contains c=true:=by
 have:∀ n:Fin 256,(decide (48≤(UInt8.ofNat n.val).toNat) && decide ((UInt8.ofNat n.val).toNat≤57))=true→tenL.contains (UInt8.ofNat n.val)=true:=by decide
 have h1:=this ⟨c.toNat,c.toNat_lt⟩
 rw [UInt8.ofNat_toNat] at h1
 exact h1 h
theorem dw_nil {α:Type}(p:α→Bool):∀ (l:List α),(∀ x∈l,p x=true)→l.dropWhile p=[]
 | [],_=>rfl
 | x :: l,h=>by rw [List.dropWhile_cons_of_pos (h x List.mem_cons_self),dw_nil p l fun y hy=>h y (List.mem_cons_of_mem _ hy)]
theorem trim_digits {l:List UInt8}(h:digitsB l=true):Lib.trimS l tenL=[]:=by
 have h1:Lib.trimRightS l tenL=[]:=by
  unfold Lib.trimRightS
  have:l.reverse.dropWhile (tenL.contains ·)=[]:=dw_nil _ _ fun x hx=>ten_mem ((List.all_eq_true.1 h) x (List.mem_reverse.1 hx))
  rw [this,List.reverse_nil]
 unfold Lib.trimS
 rw [h1]
 rfl
theorem cut_digits {l:List UInt8}(h:digitsB l=true):Lib.hasPrefix l [45]=false:=by
 cases l with
 | nil=>rfl
 | cons c l =>
  rw [digitsB,List.all_cons,Bool.and_eq_true] at h
  have hc:=h.1
  simp only [Bool.and_eq_true,decide_eq_true_eq] at hc
  have:(45 == c)=false:=by
   rw [← Bool.not_eq_true,beq_iff_eq]
   rintro rfl
   simp at hc
  simp [Lib.hasPrefix,List.isPrefixOf,this]
theorem val_int {k:IntKind}{a b:Int}(h:a=b):Value.int k a=Value.int k b:=by rw [h]
theorem digits_step {R T:List UInt8}{n:Nat}{ws:List Nat}(_hn:n≤9)(hR:n≤R.length)(hT:T=R.take n)(hd:digitsB R=true)(hw:∀ x∈ws,x<4294967296)(hp:10 ^ n≤1000000000) :
  digitsB (R.drop n)=true∧magV (trimW (scaleF (10 ^ n) ws (decV T))) * 10 ^ (R.drop n).length+decV (R.drop n)=magV ws * 10 ^ R.length+decV R:=by
 have e1:R=R.take n++R.drop n:=(List.take_append_drop n R).symm
 have ed:digitsB (R.take n)=true∧digitsB (R.drop n)=true:=by
  rw [e1,digitsB,List.all_append,Bool.and_eq_true] at hd;exact hd
 have hl:(R.take n).length=n:=by rw [List.length_take];omega
 have hv:=decV_lt _ ed.1
 rw [hl] at hv
 refine ⟨ed.2,?_⟩
 rw [hT,magV_trim,magV_scale _ hp _ _ hw (by omega)]
 have e2:decV R=decV (R.take n) * 10 ^ (R.drop n).length+decV (R.drop n):=by
  conv=>lhs;rw [e1]
  exact decV_append _ _
 rw [e2,Nat.add_mul,Nat.mul_assoc,← Nat.pow_add,List.length_drop,show n+(R.length - n)=R.length by omega]
 omega
def ZPostI (n:Int)(w:World)(e:Ending)(w':World):Prop :=
 ∃ am wn cm,e=.returned (.tuple #[.agg #[.bool (decide (n<0)),.slice am wn cm],.int .i64 0])∧NumAt (fun b=>w.heap.size≤b) w' n (.slice am wn cm)∧Below w.heap.size w w'
def sgnF (ng:Bool)(n:Nat):Int:=if ng=true then -(n:Int) else (n:Int)
theorem sgnF_abs (ng:Bool)(n:Nat):(sgnF ng n).natAbs=n:=by unfold sgnF;split <;> omega
theorem sgnF_neg {ws:List Nat}(ng:Bool)(h:trimW ws=ws):decide (sgnF ng (magV ws)<0)=(ng && decide (0<ws.length)):=by
 cases ng with
 | false=>exact decide_eq_false (by simp [sgnF])
 | true =>
  by_cases hw:ws=[]
  ·subst hw;rfl
  ·have h1:=trimW_pos h hw
   have h2:0<ws.length:=List.length_pos_iff.2 hw
   rw [decide_eq_true (by simp [sgnF];omega),decide_eq_true h2];rfl
theorem zparse_good (s0 s:ByteArray)(ng:Bool)(w:World)(e1:Lib.hasPrefix s0.data.toList (ByteArray.mk #[45]).data.toList=ng)(e2:Lib.trimPrefix s0.data.toList (ByteArray.mk #[45]).data.toList=s.data.toList)(h0:0<s.size)(h60:s.size≤60)(hd:digitsB s.data.toList=true)(hz:s.data.toList.head?=some 48→s.size=1∧ng=false) :
  Calls Tryz.prog 42 #[.string s0] w (ZPostI (sgnF ng (decV s.data.toList)) w):=by
 have hcut:=Tryz.strings_CutPrefix s0 ⟨#[45]⟩ (w.alloc (.cells #[.bool false,.slice none 0 0] 37))
 rw [e1,e2,show ByteArray.mk s.data.toList.toArray=s by cases s;simp] at hcut
 have HC:=Lib.hid hcut
 have htr:∀ W:World,Calls Tryz.prog 82 #[.string s,.string ⟨#[48,49,50,51,52,53,54,55,56,57]⟩] W fun e w'=>e=.returned (.string ⟨#[]⟩)∧Below W.heap.size W w':=fun W=>by
  have:=Any.strings_Trim_laid Tryz.lays160 Tryz.infoSet s ⟨#[48,49,50,51,52,53,54,55,56,57]⟩ W (by omega) (by decide) (ascii_of_all (by decide))
  rw [show (ByteArray.mk #[48,49,50,51,52,53,54,55,56,57]).data.toList=tenL from rfl,trim_digits hd] at this
  exact this
 have HTr:=Lib.hid htr
 have hne:s.toList.isEmpty=false:=by rw [isEmpty_size];exact decide_eq_false (by omega)
 have hne2:(s.toList == [])=false:=by
  rw [← Bool.not_eq_true,beq_iff_eq]
  intro q
  rw [q] at hne
  cases hne
 have HD:=Lib.hid hd
 have hlast:((((s[0]'h0).toNat:Int) == 48)=false∨((((s[0]'h0).toNat:Int) == 48)=true∧decide ((1:Int)<(s.size:Int))=false∧ng=false)):=by
  by_cases q:((s[0]'h0).toNat:Int)=48
  ·right
   have:s.size=1∧ng=false:=by
    apply hz
    obtain ⟨r,hr⟩:=head_cons h0
    rw [hr,List.head?_cons]
    congr 1
    exact UInt8.toNat_inj.1 (show (s[0]'h0).toNat=48 by omega)
   exact ⟨by simpa using q,decide_eq_false (by omega),this.2⟩
  ·left;simpa using q
 clear hcut e1 e2 htr hz hd
 have h0I:(0:Int)<(s.size:Int):=by omega
 have h60I:(s.size:Int)≤60:=by omega
 have hg:=heap_alloc_new w (.cells #[.bool false,.slice none 0 0] 37)
 have hbw:=below_new w (.cells #[.bool false,.slice none 0 0] 37)
 go_enter Tryz.func42,Tryz.ntmps42
 go_upto_region 4 with (go_at_call 81;refine HC.out.mono ?_;rintro e w1 ⟨rfl,rfl⟩)
 generalize w.alloc _=w2 at hg hbw ⊢
 go_cut [4,5,22] (fun r n1 t wx=>r=.string s∧n1=.bool ng∧t=.bool false∧wx.heap[w.heap.size]?=some (.cells #[.bool false,.slice none 0 0] 37 (0,0))∧Below w.heap.size w wx)
 case first =>
  rcases hlast with hl|⟨hl,hl2,rfl⟩
  ·go_wp2_with (go_at_call 82;refine (HTr.out _).mono ?_;rintro e w1 ⟨rfl,hb1⟩)
   go_meet
   exact ⟨rfl,rfl,rfl,(hb1.block _ (Array.getElem?_eq_some_iff.1 hg).1).trans hg,hbw.trans (hb1.mono hbw.size)⟩
  ·go_wp2_with (go_at_call 82;refine (HTr.out _).mono ?_;rintro e w1 ⟨rfl,hb1⟩)
   go_meet
   exact ⟨rfl,rfl,rfl,(hb1.block _ (Array.getElem?_eq_some_iff.1 hg).1).trans hg,hbw.trans (hb1.mono hbw.size)⟩
 case rest =>
  obtain ⟨rfl,rfl,rfl,hg2,hbc⟩:=hcut
  clear hne hne2 hlast hg hbw HTr HC
  obtain ⟨wo,rfl⟩:∃ wo:World,wo=wc:=⟨_,rfl⟩
  go_wp2
  go_loopw [4,6] (fun rv mv wr=>∃ (R:ByteArray) (ws:List Nat) (ao:Option Addr) (cap:Nat),rv=.string R∧mv=.slice ao ws.length cap∧Wd (fun b=>w.heap.size<b) wr (.slice ao ws.length cap) ws∧trimW ws=ws∧(∀ x∈ws,x<4294967296)∧ws.length+R.size≤60∧digitsB R.data.toList=true∧magV ws * 10 ^ R.size+decV R.data.toList=decV s.data.toList∧wr.heap[w.heap.size]?=some (.cells #[.bool false,.slice none 0 0] 37 (0,0))∧Below w.heap.size w wr) (fun rv _ _=>strLen rv)
  case atStart=>exact ⟨s,[],none,0,rfl,rfl,SlP.nil _ _ _,rfl,fun x hx=>(by cases hx),by simpa using h60,HD.out,by simp [magV],hg2,hbc⟩
  case round =>
   obtain ⟨R,ws,ao,cap,rfl,rfl,hW,htr,hlt,hsz,hdg,hval,hg3,hbl⟩:=hrel
   by_cases hR:0<R.size
   ·obtain ⟨n,hn⟩:∃ n,n=min 9 R.size:=⟨_,rfl⟩
    have hn9:n≤9:=by omega
    have hnR:n≤R.size:=by omega
    have hn0:0<n:=by omega
    have hmin:min (9:Int) (R.size:Int)=(n:Int):=by omega
    have hRI:(0:Int)<(R.size:Int):=by omega
    have hR60:(R.size:Int)≤60:=by omega
    have HN:=Lib.hid hn
    have hcv:=fun (W:World)=>run_bytes_of_string (P:=Tryz.prog) W 9 97 5 (R.extract 0 n) Tryz.underlying9 Tryz.underlying97 Tryz.underlying5
    have hTs:(R.extract 0 n).size=n:=by rw [ByteArray.size_extract];omega
    rw [hTs] at hcv
    have HTs:=Lib.hid hTs
    have HV:=Lib.hid hval
    have HDG:=Lib.hid hdg
    have HLT:=Lib.hid hlt
    have HTR:=Lib.hid htr
    clear hTs hn hval hdg hlt htr
    have hz:=hbl.size
    have hlw:=(Array.getElem?_eq_some_iff.1 hg3).1
    have hTl:(R.extract 0 n).data.toList=R.data.toList.take n:=by rw [extract_list,List.drop_zero]
    have hcel:∀ (cap':Nat) (fr:Nat × Nat) (j:Nat) (hj:j<n),(wr.alloc (.cells (bytesRow (R.extract 0 n) cap') 5 fr)).drew.cell? ⟨wr.heap.size,j,none⟩=some (.int .u8 (((R.extract 0 n).data[j]'(by have:=HTs.out;show j<(R.extract 0 n).size;omega)).toNat:Nat)):=fun cap' fr j hj=>by
     have hs:j<(R.extract 0 n).data.size:=by have:=HTs.out;show j<(R.extract 0 n).size;omega
     rw [Lib.cell_of_heap (show (wr.alloc (.cells (bytesRow (R.extract 0 n) cap') 5 fr)).drew.heap[wr.heap.size]?=some (.cells (bytesRow (R.extract 0 n) cap') 5 fr) from heap_alloc_new wr _)]
     exact bytesRow_at _ _ _ hs
    have HCL:=Lib.hid hcel
    clear hcel
    go_wp2
    clear hcv
    have hcl:=HCL.out (grownCap wr n 0 5) ((bytesRow (R.extract 0 n) (grownCap wr n 0 5)).size,(bytesRow (R.extract 0 n) (grownCap wr n 0 5)).size+1)
    have hbx:Below wr.heap.size wr (wr.alloc (.cells (bytesRow (R.extract 0 n) (grownCap wr n 0 5)) 5 ((bytesRow (R.extract 0 n) (grownCap wr n 0 5)).size,(bytesRow (R.extract 0 n) (grownCap wr n 0 5)).size+1))).drew:=((Below.refl _ _).alloc (Nat.le_refl _) _).drew
    have hsx:wr.heap.size<(wr.alloc (.cells (bytesRow (R.extract 0 n) (grownCap wr n 0 5)) 5 ((bytesRow (R.extract 0 n) (grownCap wr n 0 5)).size,(bytesRow (R.extract 0 n) (grownCap wr n 0 5)).size+1))).drew.heap.size:=by simp
    generalize (wr.alloc (.cells (bytesRow (R.extract 0 n) (grownCap wr n 0 5)) 5 _)).drew=wx at hcl hbx hsx ⊢
    have HC2:=Lib.hid hcl
    clear hcl HCL
    have hTd:digitsB (R.extract 0 n).data.toList=true:=by
     have:=HDG.out
     rw [hTl,digitsB,List.all_eq_true]
     rw [digitsB,List.all_eq_true] at this
     exact fun x hx=>this x (List.mem_of_mem_take hx)
    have HTd:=Lib.hid hTd
    have HTl:=Lib.hid hTl
    clear hTd hTl
    go_loop [8,9,55] (fun bv pv q=>∃ k:Nat,k≤n∧q=.int .i64 k∧bv=.int .u64 ((10 ^ k:Nat):Nat)∧pv=.int .u64 (decV ((R.extract 0 n).data.toList.take k):Nat)) (fun _ _ q=>n - (intOf q).toNat)
    case atStart=>exact ⟨0,Nat.zero_le _,rfl,rfl,by rw [List.take_zero];rfl⟩
    case round =>
     obtain ⟨k,hk,rfl,rfl,rfl⟩:=hrel
     have hT1:=HTs.out
     have hT2:(R.extract 0 n).data.toList.length=n:=by rw [size_list];exact hT1
     by_cases hkn:k<n
     ·have hx:=HC2.out k hkn
      have hkd:k<(R.extract 0 n).data.toList.length:=by omega
      have hgk:(R.extract 0 n).data[k]'(by have:=HTs.out;show k<(R.extract 0 n).size;omega)=(R.extract 0 n).data.toList[k]'hkd:=by simp
      have hcb:=(List.all_eq_true.1 HTd.out) _ (List.getElem_mem hkd)
      simp only [Bool.and_eq_true,decide_eq_true_eq] at hcb
      have hsn:decV ((R.extract 0 n).data.toList.take (k+1))=decV ((R.extract 0 n).data.toList.take k) * 10+(((R.extract 0 n).data.toList[k]'hkd).toNat - 48):=by
       rw [List.take_succ_eq_append_getElem hkd,decV_snoc]
      have hpw:(10:Nat) ^ (k+1)=10 ^ k * 10:=Nat.pow_succ ..
      have hp8:(10:Nat) ^ k≤100000000:=Nat.pow_le_pow_right (by omega) (by omega:k≤8)
      have hdl:decV ((R.extract 0 n).data.toList.take k)<10 ^ ((R.extract 0 n).data.toList.take k).length:=decV_lt _ (by
       rw [digitsB,List.all_eq_true]
       exact fun x hx=>(List.all_eq_true.1 HTd.out) x (List.mem_of_mem_take hx))
      rw [List.length_take,Nat.min_eq_left (by omega)] at hdl
      rw [hgk] at hx
      generalize (R.extract 0 n).data.toList[k]'hkd=ch at hx hcb hsn
      obtain ⟨cn,hcn⟩:∃ cn,ch.toNat=cn:=⟨_,rfl⟩
      rw [hcn] at hx hcb hsn
      have HS:=Lib.hid hsn
      have HP:=Lib.hid hpw
      clear hsn hpw hgk hcn hT1 hT2 hkd
      generalize decV ((R.extract 0 n).data.toList.take k)=p at hdl HS
      generalize (10:Nat) ^ k=a at hp8 hdl HP
      have hkI:(k:Int)<(n:Int):=by omega
      go_wp2
      exact ⟨⟨k+1,by omega,by go_num,by rw [HP.out];exact val_int (by omega),by rw [HS.out];exact val_int (by omega)⟩,by simp [intOf];omega⟩
     ·obtain rfl:k=n:=by omega
      have hTk:(R.extract 0 k).data.toList.take k=(R.extract 0 k).data.toList:=List.take_of_length_le (by omega)
      have hdl:=decV_lt _ HTd.out
      rw [hT2] at hdl
      have hp9:=pow_le9 hn9
      have hWx:Wd (fun b=>w.heap.size<b) wx (.slice ao ws.length cap) ws:=SlP.frame hW (Alk.of hbx)
      have HSC:=Lib.hid (scale_any (fun b=>w.heap.size<b) (.slice ao ws.length cap) ws (10 ^ k) (decV (R.extract 0 k).data.toList) wx hWx HLT.out hp9 (by omega) (by omega))
      have hnR':k≤R.data.toList.length:=by rw [size_list];exact hnR
      have hstep:=digits_step (ws:=ws) hn9 hnR' HTl.out HDG.out HLT.out hp9
      have HST:=Lib.hid hstep
      rw [hTk]
      clear hstep hTk hdl hWx hT1 hT2
      generalize (10:Nat) ^ k=a at HSC HST hp9 ⊢
      generalize decV (R.extract 0 k).data.toList=p at HSC HST ⊢
      have hkI:decide ((k:Int)<(k:Int))=false:=decide_eq_false (by omega)
      go_wp2_with (go_at_call 84;refine HSC.out.mono ?_)
      rintro e w7 ⟨v,rfl,hown,hb7⟩
      obtain ⟨g,cap2,rfl,_,_⟩:=hown.form (by rw [scaleF_len];omega)
      have hWs:Wd (fun b=>w.heap.size<b) w7 (.slice (some ⟨g,0,none⟩) (scaleF a ws p).length cap2) (scaleF a ws p):=SlP.ofOwns hown fun b hb=>by omega
      have HT:=Lib.hid (ztrim_any _ (some ⟨g,0,none⟩) cap2 (scaleF a ws p) w7 hWs (by rw [scaleF_len];omega))
      have HWs:=Lib.hid hWs
      have G:=(hb7.block w.heap.size (by omega)).trans ((hbx.block w.heap.size hlw).trans hg3)
      have hbl7:=hbl.trans ((hbx.trans (hb7.mono (Nat.le_of_lt hsx))).mono hz)
      clear hown hWs HSC
      go_wp2_with (go_at_call 83;refine HT.out.mono ?_;rintro e w8 ⟨rfl,rfl⟩)
      go_roundw
      case rel =>
       have hex:(R.extract k R.size).size=R.size - k:=by rw [ByteArray.size_extract];omega
       have hel:(R.extract k R.size).data.toList=R.data.toList.drop k:=by rw [extract_list,List.take_of_length_le (by rw [size_list];exact Nat.le_refl _)]
       have htl:=trimW_len (scaleF a ws p)
       rw [scaleF_len] at htl
       obtain ⟨s1,s2⟩:=HST.out
       have e1:(R.data.toList.drop k).length=R.size - k:=by rw [List.length_drop,size_list]
       rw [e1,size_list] at s2
       refine ⟨R.extract k R.size,trimW (scaleF a ws p),some ⟨g,0,none⟩,cap2,rfl,rfl,?_,trimW_idem _,fun x hx=>scaleF_lt _ _ _ _ (trimW_mem _ _ hx),by omega,by rw [hel];exact s1,by rw [hex,hel,s2];exact HV.out,G,hbl7⟩
       obtain ⟨n',n1,n2,_,_⟩:=trimW_take (scaleF a ws p)
       have hl:(trimW (scaleF a ws p)).length=n':=by rw [n2,List.length_take];omega
       rw [hl,n2]
       exact HWs.out.take n1
      case measure =>
       show (R.extract k R.size).size<R.size
       rw [ByteArray.size_extract]
       omega
   ·have hR0:R.size=0:=by omega
    have hRl:R.data.toList=[]:=List.length_eq_zero_iff.1 (by rw [size_list];exact hR0)
    rw [hRl,hR0] at hval
    have hv2:magV ws=decV s.data.toList:=by simpa [decV] using hval
    have HV:=Lib.hid hv2
    have HLT:=Lib.hid hlt
    have HTR:=Lib.hid htr
    have hM:=zmade_any (fun b=>w.heap.size<b) ng ao cap ws wr hW (by omega)
    rw [htr,← sgnF_neg ng htr,hv2] at hM
    generalize hng:decide (sgnF ng (decV s.data.toList)<0)=nb at hM
    have HNG:=Lib.hid hng
    have HM:=Lib.hid hM
    have hRI:(R.size:Int)≤0:=by omega
    have hz:=hbl.size
    clear hv2 hval hRl hdg hlt htr hM hng
    go_wp2_with (go_at_call 85;refine HM.out.mono ?_)
    rintro e w6 ⟨rfl,hb6⟩
    have G:=(hb6.block w.heap.size (Array.getElem?_eq_some_iff.1 hg3).1).trans hg3
    have d0:w6.cell? ⟨w.heap.size,0,none⟩=some (.bool false):=by rw [Lib.cell_of_heap G];rfl
    have d1:w6.cell? ⟨w.heap.size,1,none⟩=some (.slice none 0 0):=by rw [Lib.cell_of_heap G];rfl
    have dz:∀ j,w6.frozen? ⟨w.heap.size,j,none⟩=false:=by intro j;simp [World.frozen?,G]
    go_wp2
    have hs2:=hb6.size
    refine bodyPost_ret (v:=.tuple #[.agg #[.bool nb,.slice ao ws.length cap],.int .i64 0]) (by simp [results,Tryz.results42,go_sem,d0,d1]) rfl ⟨ao,ws.length,cap,by rw [HNG.out],⟨ws,?_,HTR.out,HLT.out,by rw [HV.out,sgnF_abs]⟩,?_⟩
    ·have h1:=hW.frame (Alk.of hb6)
     have h2:=h1.frame (Alk.set (a:=⟨w.heap.size,0,none⟩) (.bool nb) fun b hb=>by show b≠w.heap.size;omega)
     have h3:=h2.frame (Alk.set (a:=⟨w.heap.size,1,none⟩) (.slice ao ws.length cap) fun b hb=>by show b≠w.heap.size;omega)
     exact h3.imp fun b hb _=>Nat.le_of_lt hb
    ·exact ((hbl.trans (hb6.mono hz)).setCell (Nat.le_refl _) _).setCell (Nat.le_refl _) _
theorem zparse_any (s:ByteArray)(w:World)(h0:0<s.size)(h60:s.size≤60)(hd:digitsB s.data.toList=true)(hz:s.data.toList.head?=some 48→s.size=1) :
  Calls Tryz.prog 42 #[.string s] w (ZPost (decV s.data.toList) w):=by
 have e1:Lib.hasPrefix s.data.toList (ByteArray.mk #[45]).data.toList=false:=cut_digits hd
 refine (zparse_good s s false w e1 (by rw [Lib.trimPrefix,e1];rfl) h0 h60 hd fun h=>⟨hz h,rfl⟩).mono fun e w' h=>?_
 obtain ⟨am,wn,cm,he,h1,h2⟩:=h
 exact ⟨am,wn,cm,by rw [he,show decide (sgnF false (decV s.data.toList)<0)=false from decide_eq_false (by simp [sgnF])],h1,h2⟩
theorem trim_some {l:List UInt8}(h:digitsB l=false):Lib.trimS l tenL≠[]:=by
 intro q
 have hd:∀ x∈l,x∈tenL:=by
  unfold Lib.trimS Lib.trimRightS at q
  have h1:∀ (m:List UInt8),m.dropWhile (tenL.contains ·)=[]→∀ x∈m,x∈tenL:=by
   intro m
   induction m with
   | nil=>intro _ x hx;cases hx
   | cons c m ih =>
    intro hm x hx
    by_cases hc:tenL.contains c=true
    ·rw [List.dropWhile_cons_of_pos hc] at hm
     rcases List.mem_cons.1 hx with rfl|hx
     ·exact List.contains_iff_mem.1 hc
     ·exact ih hm x hx
    ·rw [List.dropWhile_cons_of_neg hc] at hm;cases hm
  intro x hx
  have h2:=h1 _ q
  by_cases hl:(l.reverse.dropWhile (tenL.contains ·))=[]
  ·exact h1 _ hl x (List.mem_reverse.2 hx)
  ·exfalso
   have h3:=List.head_dropWhile_not (tenL.contains ·) hl
   have h4:=h2 _ (List.mem_reverse.2 (List.head_mem hl))
   rw [List.contains_iff_mem.2 h4] at h3
   cases h3
 have:digitsB l=true:=by
  rw [digitsB,List.all_eq_true]
  intro x hx
  have h1:=hd x hx
  have:∀ y∈tenL,(decide (48≤y.toNat) && decide (y.toNat≤57))=true:=by decide
  exact this x h1
 rw [this] at h;cases h
def ZBad (w:World)(e:Ending)(w':World):Prop:=∃ k:Int,e=.returned (.tuple #[.agg #[.bool false,.slice none 0 0],.int .i64 k])∧Below w.heap.size w w'
theorem zparse_bad (s0 s:ByteArray)(ng:Bool)(w:World)(e1:Lib.hasPrefix s0.data.toList (ByteArray.mk #[45]).data.toList=ng)(e2:Lib.trimPrefix s0.data.toList (ByteArray.mk #[45]).data.toList=s.data.toList)(hs:s.size≤1099511627776)
  (h:60<s.size∨s.size=0∨digitsB s.data.toList=false∨(s.data.toList.head?=some 48∧(1<s.size∨ng=true))) :
  Calls Tryz.prog 42 #[.string s0] w (ZBad w):=by
 have hcut:=Tryz.strings_CutPrefix s0 ⟨#[45]⟩ (w.alloc (.cells #[.bool false,.slice none 0 0] 37))
 rw [e1,e2,show ByteArray.mk s.data.toList.toArray=s by cases s;simp] at hcut
 have HC:=Lib.hid hcut
 have hb0:=below_new w (.cells #[.bool false,.slice none 0 0] 37)
 by_cases h60:60<s.size
 ·have hI:(60:Int)<(s.size:Int):=by omega
  clear h hcut e1 e2
  go_enter Tryz.func42,Tryz.ntmps42
  go_wp2_with (go_at_call 81;refine HC.out.mono ?_;rintro e w1 ⟨rfl,rfl⟩)
  exact bodyPost_ret (v:=.tuple #[.agg #[.bool false,.slice none 0 0],.int .i64 11]) (by simp [results,Tryz.results42,go_sem]) rfl ⟨_,rfl,hb0⟩
 by_cases h0:s.size=0
 ·have hne:s.toList.isEmpty=true:=by rw [isEmpty_size];exact decide_eq_true h0
  have hI:(s.size:Int)≤60:=by omega
  clear h hcut e1 e2
  go_enter Tryz.func42,Tryz.ntmps42
  go_wp2_with (go_at_call 81;refine HC.out.mono ?_;rintro e w1 ⟨rfl,rfl⟩)
  exact bodyPost_ret (v:=.tuple #[.agg #[.bool false,.slice none 0 0],.int .i64 10]) (by simp [results,Tryz.results42,go_sem]) rfl ⟨_,rfl,hb0⟩
 have hne:s.toList.isEmpty=false:=by rw [isEmpty_size];exact decide_eq_false h0
 have hne2:(s.toList == [])=false:=by
  rw [← Bool.not_eq_true,beq_iff_eq]
  intro q
  rw [q] at hne
  cases hne
 have h60I:(s.size:Int)≤60:=by omega
 have h0n:0<s.size:=by omega
 have h0I:(0:Int)<(s.size:Int):=by omega
 have htr:∀ W:World,Calls Tryz.prog 82 #[.string s,.string ⟨#[48,49,50,51,52,53,54,55,56,57]⟩] W fun e w'=>e=.returned (.string ⟨(Lib.trimS s.data.toList tenL).toArray⟩)∧Below W.heap.size W w':=fun W:World=>Any.strings_Trim_laid Tryz.lays160 Tryz.infoSet s ⟨#[48,49,50,51,52,53,54,55,56,57]⟩ W (by omega) (by decide) (ascii_of_all (by decide))
 by_cases hd:digitsB s.data.toList=true
 ·have h48:(((s[0]'h0n).toNat:Int) == 48)=true:=by
   obtain ⟨r,hr⟩:=head_cons h0n
   have h2:s.data.toList.head?=some 48:=by
    rcases h with h|h|h|h
    ·omega
    ·omega
    ·rw [hd] at h;cases h
    ·exact h.1
   rw [hr,List.head?_cons] at h2
   rw [Option.some.inj h2];rfl
  have hr:1<s.size∨ng=true:=by
   rcases h with h|h|h|h
   ·omega
   ·omega
   ·rw [hd] at h;cases h
   ·exact h.2
  rw [trim_digits hd] at htr
  have HTr:=Lib.hid htr
  clear h hcut e1 e2 htr hd
  by_cases h1:1<s.size
  ·have h1I:decide ((1:Int)<(s.size:Int))=true:=decide_eq_true (by omega)
   clear hr
   go_enter Tryz.func42,Tryz.ntmps42
   go_wp2_with (first|(go_at_call 81;refine HC.out.mono ?_;rintro e w1 ⟨rfl,rfl⟩)|(go_at_call 82;refine (HTr.out _).mono ?_;rintro e w1 ⟨rfl,hb1⟩;have hg1:=(hb1.block w.heap.size (by simp)).trans (heap_alloc_new w _);have d0:w1.cell? ⟨w.heap.size,0,none⟩=some (.bool false):=(by rw [Lib.cell_of_heap hg1];rfl);have d1:w1.cell? ⟨w.heap.size,1,none⟩=some (.slice none 0 0):=(by rw [Lib.cell_of_heap hg1];rfl);have dz:∀ j,w1.frozen? ⟨w.heap.size,j,none⟩=false:=(by intro j;simp [World.frozen?,hg1])))
   exact bodyPost_ret (v:=.tuple #[.agg #[.bool false,.slice none 0 0],.int .i64 10]) (by simp [results,Tryz.results42,go_sem,d0,d1]) rfl ⟨_,rfl,((hb0.trans (hb1.mono (by simp))).setCell (Nat.le_refl _) _).setCell (Nat.le_refl _) _⟩
  ·obtain rfl:ng=true:=by rcases hr with h|h;(exact absurd h h1);exact h
   have h1I:decide ((1:Int)<(s.size:Int))=false:=decide_eq_false (by omega)
   clear hr
   go_enter Tryz.func42,Tryz.ntmps42
   go_wp2_with (first|(go_at_call 81;refine HC.out.mono ?_;rintro e w1 ⟨rfl,rfl⟩)|(go_at_call 82;refine (HTr.out _).mono ?_;rintro e w1 ⟨rfl,hb1⟩;have hg1:=(hb1.block w.heap.size (by simp)).trans (heap_alloc_new w _);have d0:w1.cell? ⟨w.heap.size,0,none⟩=some (.bool false):=(by rw [Lib.cell_of_heap hg1];rfl);have d1:w1.cell? ⟨w.heap.size,1,none⟩=some (.slice none 0 0):=(by rw [Lib.cell_of_heap hg1];rfl);have dz:∀ j,w1.frozen? ⟨w.heap.size,j,none⟩=false:=(by intro j;simp [World.frozen?,hg1])))
   exact bodyPost_ret (v:=.tuple #[.agg #[.bool false,.slice none 0 0],.int .i64 10]) (by simp [results,Tryz.results42,go_sem,d0,d1]) rfl ⟨_,rfl,((hb0.trans (hb1.mono (by simp))).setCell (Nat.le_refl _) _).setCell (Nat.le_refl _) _⟩
 ·have hR:=trim_some (Bool.not_eq_true _ ▸ hd)
  generalize Lib.trimS s.data.toList tenL=r at hR htr
  obtain ⟨R,rfl,eR⟩:=bytes_of r
  rw [eR] at htr
  have hnR:R.toList.isEmpty=false:=by rw [isEmpty_size];exact decide_eq_false fun q=>hR (List.length_eq_zero_iff.1 (by rw [size_list];exact q))
  have hnR2:(R.toList == [])=false:=by
   rw [← Bool.not_eq_true,beq_iff_eq]
   intro q
   rw [q] at hnR
   cases hnR
  have HTr:=Lib.hid htr
  clear h hcut e1 e2 htr hd hR eR
  go_enter Tryz.func42,Tryz.ntmps42
  go_wp2_with (first|(go_at_call 81;refine HC.out.mono ?_;rintro e w1 ⟨rfl,rfl⟩)|(go_at_call 82;refine (HTr.out _).mono ?_;rintro e w1 ⟨rfl,hb1⟩;have hg1:=(hb1.block w.heap.size (by simp)).trans (heap_alloc_new w _);have d0:w1.cell? ⟨w.heap.size,0,none⟩=some (.bool false):=(by rw [Lib.cell_of_heap hg1];rfl);have d1:w1.cell? ⟨w.heap.size,1,none⟩=some (.slice none 0 0):=(by rw [Lib.cell_of_heap hg1];rfl);have dz:∀ j,w1.frozen? ⟨w.heap.size,j,none⟩=false:=(by intro j;simp [World.frozen?,hg1])))
  exact bodyPost_ret (v:=.tuple #[.agg #[.bool false,.slice none 0 0],.int .i64 10]) (by simp [results,Tryz.results42,go_sem,d0,d1]) rfl ⟨_,rfl,((hb0.trans (hb1.mono (by simp))).setCell (Nat.le_refl _) _).setCell (Nat.le_refl _) _⟩
def ZAny (n:Int)(w:World)(e:Ending)(w':World):Prop :=
 ∃ am wn cm k,e=.returned (.tuple #[.agg #[.bool (decide (n<0)),.slice am wn cm],.int .i64 k])∧NumAt (fun b=>w.heap.size≤b) w' n (.slice am wn cm)∧Below w.heap.size w w'
theorem zparse_all (s:ByteArray)(w:World)(hs:s.size≤1099511627776):Calls Tryz.prog 42 #[.string s] w (ZAny (zedF s.data.toList) w):=by
 obtain ⟨T,hT,eT⟩:=bytes_of (Lib.trimPrefix s.data.toList (ByteArray.mk #[45]).data.toList)
 have hp:Lib.hasPrefix s.data.toList (ByteArray.mk #[45]).data.toList=decide (s.data.toList.head?=some 45):=by
  show Lib.hasPrefix s.data.toList [45]=_
  cases s.data.toList with
  | nil=>rfl
  | cons c r =>
   simp only [Lib.hasPrefix,List.isPrefixOf,List.head?_cons,Bool.and_true,Option.some.injEq]
   by_cases h:c=45
   ·subst h;rfl
   ·rw [decide_eq_false h];exact beq_eq_false_iff_ne.2 (Ne.symm h)
 have hrest:T.data.toList=if s.data.toList.head?=some 45 then s.data.toList.drop 1 else s.data.toList:=by
  rw [hT,Lib.trimPrefix,hp]
  by_cases h:s.data.toList.head?=some 45
  ·rw [if_pos h,if_pos (decide_eq_true h)];rfl
  ·rw [if_neg h,if_neg (by simpa using h)]
 have hz:zedF s.data.toList=if 60<T.size then 0 else if T.data.toList=[]∨digitsB T.data.toList=false∨(T.data.toList.head?=some 48∧(1<T.size∨s.data.toList.head?=some 45)) then 0 else sgnF (decide (s.data.toList.head?=some 45)) (decV T.data.toList):=by
  rw [zedF,← hrest,← size_list]
  simp only [sgnF,decide_eq_true_eq]
 have hTs:T.size≤s.size:=by
  rw [← size_list,← size_list,hrest]
  split
  ·rw [List.length_drop];omega
  ·exact Nat.le_refl _
 rw [hz]
 by_cases hb:60<T.size∨T.size=0∨digitsB T.data.toList=false∨(T.data.toList.head?=some 48∧(1<T.size∨decide (s.data.toList.head?=some 45)=true))
 ·have h0:(if 60<T.size then (0:Int) else if T.data.toList=[]∨digitsB T.data.toList=false∨(T.data.toList.head?=some 48∧(1<T.size∨s.data.toList.head?=some 45)) then 0 else sgnF (decide (s.data.toList.head?=some 45)) (decV T.data.toList))=0:=by
   by_cases h1:60<T.size
   ·rw [if_pos h1]
   ·rw [if_neg h1,if_pos]
    rcases hb with h|h|h|h
    ·omega
    ·exact .inl (List.length_eq_zero_iff.1 (by rw [size_list];exact h))
    ·exact .inr (.inl h)
    ·exact .inr (.inr ⟨h.1,h.2.imp id fun q=>by simpa using q⟩)
  rw [h0]
  refine (zparse_bad s T _ w hp hT.symm (by omega) hb).mono fun e w' ⟨k,he,h1⟩=>⟨none,0,0,k,he,NumAt.zero _ _,h1⟩
 ·have h1:¬ 60<T.size:=fun q=>hb (.inl q)
  have h2:¬ T.size=0:=fun q=>hb (.inr (.inl q))
  have h3:digitsB T.data.toList=true:=by
   rw [← Bool.not_eq_false];exact fun q=>hb (.inr (.inr (.inl q)))
  have h4:T.data.toList.head?=some 48→T.size=1∧decide (s.data.toList.head?=some 45)=false:=fun q=>⟨by
   have:¬ 1<T.size:=fun r=>hb (.inr (.inr (.inr ⟨q,.inl r⟩)))
   omega,by
   rw [← Bool.not_eq_true];exact fun r=>hb (.inr (.inr (.inr ⟨q,.inr r⟩)))⟩
  rw [if_neg h1,if_neg (by
   rintro (h|h|h)
   ·exact h2 (by rw [← size_list,h];rfl)
   ·rw [h3] at h;cases h
   ·have:=h4 h.1
    rcases h.2 with q|q
    ·omega
    ·rw [decide_eq_true q] at this;cases this.2)]
  exact (zparse_good s T _ w hp hT.symm (by omega) (by omega) h3 h4).mono fun e w' ⟨am,wn,cm,he,q⟩=>⟨am,wn,cm,0,he,q⟩
theorem zsign_any (P:Nat→Prop)(am:Option Addr)(wn cm:Nat)(n:Int)(w:World)(h:NumAt P w n (.slice am wn cm)) :
  Calls Tryz.prog 171 #[.agg #[.bool (decide (n<0)),.slice am wn cm]] w fun e w'=>e=.returned (.int .i64 n.sign)∧Below w.heap.size w w':=by
 obtain ⟨ws,hws,htr,_,hv⟩:=h
 obtain ⟨am',cm',hq⟩:=hws.form
 simp only [Value.slice.injEq] at hq
 obtain ⟨-,rfl,-⟩:=hq
 have hb0:∀ b,Below w.heap.size w (w.alloc (.cells #[.bool b,.slice am ws.length cm] 37)):=fun b=>below_new w _
 rcases Int.lt_trichotomy n 0 with hn|hn|hn
 ·have h0:0<ws.length:=List.length_pos_iff.2 fun q=>by subst q;simp [magV] at hv;omega
  rw [decide_eq_true hn,Int.sign_eq_neg_one_of_neg hn]
  have h0I:((ws.length:Int) == 0)=false:=beq_eq_false_iff_ne.2 (by omega)
  clear hws htr hv
  go_enter Tryz.func171,Tryz.ntmps171
  go_wp2
  go_ret
  exact ⟨rfl,hb0 _⟩
 ·subst hn
  obtain rfl:ws=[]:=by
   rw [← htr];exact trimW_zero _ (by rw [hv];rfl)
  clear hws htr hv
  go_enter Tryz.func171,Tryz.ntmps171
  go_wp2
  go_ret
  exact ⟨rfl,hb0 _⟩
 ·have h0:0<ws.length:=List.length_pos_iff.2 fun q=>by subst q;simp [magV] at hv;omega
  rw [decide_eq_false (by omega:¬ n<0),Int.sign_eq_one_of_pos hn]
  have h0I:((ws.length:Int) == 0)=false:=beq_eq_false_iff_ne.2 (by omega)
  clear hws htr hv
  go_enter Tryz.func171,Tryz.ntmps171
  go_wp2
  go_ret
  exact ⟨rfl,hb0 _⟩
end Go.Proofs.YtdednahplodojaaGreatDoor

namespace Go.Proofs.YtdednahplodojaaGreatDoor
def Slk (a b:PSt):Prop:=b.nodes.length+2 * a.used≤a.nodes.length+2 * b.used
theorem Slk.refl (a:PSt):Slk a a:=Nat.le_refl _
theorem Slk.trans {a b c:PSt}(h:Slk a b)(k:Slk b c):Slk a c:=by unfold Slk at *;omega
theorem failM_slk (toks:List Tok)(e:Nat)(st:PSt):Slk st (failM toks e st):=by
 unfold failM
 split <;> exact Nat.le_refl _
theorem deepM_slk (toks:List Tok)(d n:Nat)(st:PSt):Slk st (deepM toks d n st):=by
 unfold deepM
 split
 ·exact failM_slk _ _ _
 ·exact Slk.refl _
theorem leafM_two (toks:List Tok)(st:PSt):(leafM toks st=(-1,st))∨((leafM toks st).2.nodes.length=st.nodes.length+1∧(leafM toks st).2.used=st.used+1):=by
 unfold leafM
 split
 ·exact .inl rfl
 ·exact .inr ⟨by simp,rfl⟩
theorem leafM_slk (toks:List Tok)(st:PSt):Slk st (leafM toks st).2:=by
 rcases leafM_two toks st with h|⟨h1,h2⟩
 ·rw [h];exact Slk.refl _
 ·unfold Slk;omega
theorem mustM_slk (toks:List Tok)(l:List (List UInt8))(st:PSt):Slk st (mustM toks l st).2:=by
 unfold mustM
 split
 ·exact leafM_slk _ _
 ·exact failM_slk _ _ _
theorem kindM_slk (toks:List Tok)(k:Nat)(st:PSt):Slk st (kindM toks k st).2:=by
 unfold kindM
 split
 ·exact leafM_slk _ _
 ·exact failM_slk _ _ _
theorem nodeM_two (k:Int)(l:List Int)(st:PSt):(nodeM k l st).2.used=st.used∧(nodeM k l st).2.nodes.length≤st.nodes.length+1∧((-1:Int)∈l→(nodeM k l st).2.nodes.length=st.nodes.length):=by
 unfold nodeM rawM
 split
 ·split
  ·exact ⟨rfl,by simp,fun _=>rfl⟩
  ·rename_i hb
   refine ⟨rfl,by simp,fun h=>?_⟩
   exact (hb (List.any_eq_true.2 ⟨-1,h,by simp⟩)).elim
 ·exact ⟨rfl,by simp,fun _=>rfl⟩
theorem node_slk (toks:List Tok)(k:Int)(l:List Int)(st s3:PSt)(h:Slk (leafM toks st).2 s3)(hm:(leafM toks st).1∈l):Slk st (nodeM k l s3).2:=by
 obtain ⟨h1,h2,h3⟩:=nodeM_two k l s3
 rcases leafM_two toks st with hl|⟨l1,l2⟩
 ·rw [hl] at h hm
  have:=h3 hm
  unfold Slk at *
  simp only at h
  omega
 ·unfold Slk at *
  omega
theorem qualM_slk (toks:List Tok)(a:Int × PSt):Slk a.2 (qualM toks a).2:=by
 unfold qualM
 split
 ·exact (leafM_slk _ _).trans (kindM_slk _ _ _)
 ·exact Slk.refl _
theorem listLoop_slk (toks:List Tok)(one:PSt→Option (Int × PSt))(h1:∀ s k,one s=some k→Slk s k.2):∀ (r:Nat) (kids:List Int) (st:PSt) (l:List Int × PSt),listLoop toks one r kids st=some l→Slk st l.2
 | 0,kids,st,l,h=>by
  rw [listLoop] at h
  injection h with h
  subst h
  show Slk st (if st.fE=0 then failM toks 15 st else st)
  split
  ·exact failM_slk _ _ _
  ·exact Slk.refl _
 | r+1,kids,st,l,h=>by
  rw [listLoop] at h
  split at h
  ·injection h with h;subst h;exact Slk.refl _
  ·obtain ⟨k,hk,h⟩:=Option.bind_eq_some_iff.1 h
   have:=h1 _ _ hk
   split at h
   ·exact (this.trans (leafM_slk _ _)).trans (listLoop_slk toks one h1 r _ _ _ h)
   ·injection h with h;subst h;exact this
theorem listM_slk (toks:List Tok)(one:PSt→Option (Int × PSt))(h1:∀ s k,one s=some k→Slk s k.2)(st:PSt)(l:List Int × PSt)(h:listM toks one st=some l):Slk st l.2:=by
 unfold listM at h
 split at h
 ·injection h with h;subst h;exact Slk.refl _
 ·exact listLoop_slk toks one h1 _ _ _ _ h
theorem run_slk (toks:List Tok)(depth:Nat):∀ (g:Nat) (t:Task) (st:PSt) (r:Int × PSt),run toks depth g t st=some r→Slk st r.2
 | 0,_,_,_,h=>by rw [run] at h;cases h
 | g+1,.expr nest,st,r,h=>by
  have ih:=run_slk toks depth g
  rw [run] at h
  have hd:=deepM_slk toks depth nest st
  generalize deepM toks depth nest st=s at h hd
  split at h
  ·injection h with h;subst h;exact hd
  split at h
  ·exact hd.trans (ih _ _ _ h)
  split at h
  ·obtain ⟨d,h1,h⟩:=Option.bind_eq_some_iff.1 h
   obtain ⟨f,h2,h⟩:=Option.bind_eq_some_iff.1 h
   injection h with h;subst h
   exact hd.trans (node_slk toks _ _ _ _ ((((kindM_slk _ _ _).trans (mustM_slk _ _ _)).trans (ih _ _ _ h1)).trans ((mustM_slk _ _ _).trans (ih _ _ _ h2))) (by simp))
  split at h
  ·obtain ⟨b,h1,h⟩:=Option.bind_eq_some_iff.1 h
   obtain ⟨d,h2,h⟩:=Option.bind_eq_some_iff.1 h
   obtain ⟨f,h3,h⟩:=Option.bind_eq_some_iff.1 h
   injection h with h;subst h
   exact hd.trans (node_slk toks _ _ _ _ ((((ih _ _ _ h1).trans (mustM_slk _ _ _)).trans (ih _ _ _ h2)).trans ((mustM_slk _ _ _).trans (ih _ _ _ h3))) (by simp))
  split at h
  ·obtain ⟨b,h1,h⟩:=Option.bind_eq_some_iff.1 h
   obtain ⟨d,h2,h⟩:=Option.bind_eq_some_iff.1 h
   injection h with h;subst h
   exact hd.trans (node_slk toks _ _ _ _ (((ih _ _ _ h1).trans (mustM_slk _ _ _)).trans (ih _ _ _ h2)) (by simp))
  ·exact hd.trans (ih _ _ _ h)
 | g+1,.formula nest,st,r,h=>by
  have ih:=run_slk toks depth g
  rw [run] at h
  obtain ⟨a,h1,h⟩:=Option.bind_eq_some_iff.1 h
  have ha:=ih _ _ _ h1
  split at h
  ·have hd:=(ha.trans (leafM_slk toks a.2)).trans (deepM_slk toks depth (nest+1) _)
   split at h
   ·injection h with h;subst h;exact hd
   ·obtain ⟨b,h2,h⟩:=Option.bind_eq_some_iff.1 h
    injection h with h;subst h
    exact ha.trans (node_slk toks _ _ _ _ ((deepM_slk _ _ _ _).trans (ih _ _ _ h2)) (by simp))
  ·injection h with h;subst h;exact ha
 | g+1,.part l nest,st,r,h=>by
  have ih:=run_slk toks depth g
  rw [run] at h
  split at h
  ·exact ih _ _ _ h
  ·split at h
   ·exact ih _ _ _ h
   ·exact ih _ _ _ h
 | g+1,.row l nest,st,r,h=>by
  have ih:=run_slk toks depth g
  rw [run] at h
  obtain ⟨a,h1,h⟩:=Option.bind_eq_some_iff.1 h
  exact (ih _ _ _ h1).trans (ih _ _ _ h)
 | g+1,.loop l nest a,st,r,h=>by
  have ih:=run_slk toks depth g
  rw [run] at h
  split at h
  ·obtain ⟨b,h1,h⟩:=Option.bind_eq_some_iff.1 h
   have hb:=node_slk toks 10 [a,(leafM toks st).1,b.1] st _ (ih _ _ _ h1) (by simp)
   split at h
   ·injection h with h;subst h;exact hb
   ·exact hb.trans (ih _ _ _ h)
  ·injection h with h;subst h;exact Slk.refl _
 | g+1,.neg nest,st,r,h=>by
  have ih:=run_slk toks depth g
  rw [run] at h
  split at h
  ·have hd:=(leafM_slk toks st).trans (deepM_slk toks depth (nest+1) _)
   split at h
   ·injection h with h;subst h;exact hd
   ·obtain ⟨b,h2,h⟩:=Option.bind_eq_some_iff.1 h
    injection h with h;subst h
    exact node_slk toks _ _ _ _ ((deepM_slk _ _ _ _).trans (ih _ _ _ h2)) (by simp)
  ·exact ih _ _ _ h
 | g+1,.factor nest,st,r,h=>by
  have ih:=run_slk toks depth g
  rw [run] at h
  split at h
  ·have hd:=(leafM_slk toks st).trans (deepM_slk toks depth (nest+1) _)
   split at h
   ·injection h with h;subst h;exact hd
   ·obtain ⟨b,h2,h⟩:=Option.bind_eq_some_iff.1 h
    injection h with h;subst h
    exact node_slk toks _ _ _ _ ((deepM_slk _ _ _ _).trans (ih _ _ _ h2)) (by simp)
  ·exact ih _ _ _ h
 | g+1,.atom nest,st,r,h=>by
  have ih:=run_slk toks depth g
  rw [run] at h
  split at h
  ·injection h with h;subst h;exact Slk.refl _
  split at h
  ·injection h with h;subst h;exact node_slk toks _ _ _ _ (Slk.refl _) (by simp)
  split at h
  ·injection h with h;subst h;exact node_slk toks _ _ _ _ (Slk.refl _) (by simp)
  split at h
  ·injection h with h;subst h;exact node_slk toks _ _ _ _ (Slk.refl _) (by simp)
  split at h
  ·obtain ⟨b,h1,h⟩:=Option.bind_eq_some_iff.1 h
   injection h with h;subst h
   exact node_slk toks _ _ _ _ ((ih _ _ _ h1).trans (mustM_slk _ _ _)) (by simp)
  split at h
  ·exact ih _ _ _ h
  ·injection h with h;subst h;exact failM_slk _ _ _
 | g+1,.name nest,st,r,h=>by
  have ih:=run_slk toks depth g
  rw [run] at h
  split at h
  ·injection h with h;subst h;exact node_slk toks _ _ _ _ (Slk.refl _) (by simp)
  ·obtain ⟨l,h1,h⟩:=Option.bind_eq_some_iff.1 h
   injection h with h;subst h
   exact node_slk toks _ _ _ _ (((qualM_slk _ _).trans (mustM_slk _ _ _)).trans ((listM_slk toks _ (fun s k hk=>ih _ _ _ hk) _ _ h1).trans (mustM_slk _ _ _))) (by unfold qualM;split <;> simp)
end Go.Proofs.YtdednahplodojaaGreatDoor
