/- Walks and plain laws: ZedW2, BothPlain, ZedA, ParseLaws4, ParseLaws5, FormPlain. -/
import Derived.Test.YtknicmmigbhpcaaGreatDoorF12
set_option maxHeartbeats 16000000
set_option maxRecDepth 100000
set_option linter.unusedVariables false
set_option linter.unusedSimpArgs false
namespace Go.Proofs.YtknicmmigbhpcaaGreatDoor
open Go.RowKit Go
theorem QT (P:Nat→Prop)(ng:Bool)(ao:Option Addr)(cap:Nat)(ws:List Nat)(w:World)(h:Wd P w (.slice ao ws.length cap) ws)(hn:ws.length≤1099511627776) :
  Calls Tryz.prog 244 #[.bool ng,.slice ao ws.length cap] w fun e w'=>e=.returned (.agg #[.bool (ng && decide (0<(bN ws).length)),.slice ao (bN ws).length cap])∧Below w.heap.size w w':=by
 have h1:Wd P (w.alloc (.cells #[.bool false,.slice none 0 0] 44)) (.slice ao ws.length cap) ws:=h.frame (aQ.of (aj w _));have HT:=ah (yR P ao cap ws _ h1 hn);clear h h1;generalize (bN ws).length=k at *
 cases ng with
 | false =>
  go_enter Tryz.func244,Tryz.ntmps244;go_wp2_with (go_at_call 183;refine HT.out.mono ?_;rintro e w1 ⟨rfl,rfl⟩);refine bodyPost_ret (v:=.agg #[.bool false,.slice ao k cap]) (by simp[results,Tryz.results244,go_sem]) rfl ⟨rfl,?_⟩;exact aj w _
 | true =>
  by_cases hk:0<k
  ·have hkd:decide (0<k)=true:=decide_eq_true hk
   rw[hkd]
   have nJ:(0:Int)<(k:Int):=by omega
   go_enter Tryz.func244,Tryz.ntmps244;go_wp2_with (go_at_call 183;refine HT.out.mono ?_;rintro e w1 ⟨rfl,rfl⟩);refine bodyPost_ret (v:=.agg #[.bool true,.slice ao k cap]) (by simp[results,Tryz.results244,go_sem]) rfl ⟨rfl,?_⟩;exact aj w _
  ·obtain rfl:k=0:=by omega
   go_enter Tryz.func244,Tryz.ntmps244;go_wp2_with (go_at_call 183;refine HT.out.mono ?_;rintro e w1 ⟨rfl,rfl⟩);refine bodyPost_ret (v:=.agg #[.bool false,.slice ao 0 cap]) (by simp[results,Tryz.results244,go_sem]) rfl ⟨rfl,?_⟩;exact aj w _
theorem Tryz.Yx:(Tryz.prog.info? 263).map (fun i=>(i.zero,i.size))=some (some (.agg (Array.replicate 256 (.bool false))),256):=by kernel_rfl
def QU:List UInt8:=[48,49,50,51,52,53,54,55,56,57]
theorem Yy {c:UInt8}(h:(decide (48≤c.toNat) && decide (c.toNat≤57))=true):QU.contains c=true:=by
 have:∀ n:Fin 256,(decide (48≤(UInt8.ofNat n.val).toNat) && decide ((UInt8.ofNat n.val).toNat≤57))=true→QU.contains (UInt8.ofNat n.val)=true:=by decide
 have h1:=this ⟨c.toNat,c.toNat_lt⟩;rw[UInt8.ofNat_toNat] at h1;exact h1 h
theorem Ux {α:Type}(p:α→Bool):∀ (l:List α),(∀ x∈l,p x=true)→l.dropWhile p=[]
 | [],_=>rfl
 | x :: l,h=>by rw[List.dropWhile_cons_of_pos (h x List.mem_cons_self),Ux p l fun y hy=>h y (List.mem_cons_of_mem _ hy)]
theorem JJ {l:List UInt8}(h:eH l=true):Lib.trimS l QU=[]:=by
 have h1:Lib.trimRightS l QU=[]:=by
  unfold Lib.trimRightS
  have:l.reverse.dropWhile (QU.contains ·)=[]:=Ux _ _ fun x hx=>Yy ((List.all_eq_true.1 h) x (List.mem_reverse.1 hx))
  rw[this,List.reverse_nil]
 unfold Lib.trimS;rw[h1]
 rfl
theorem MQ {l:List UInt8}(h:eH l=true):Lib.hasPrefix l [45]=false:=by
 cases l with
 | nil=>rfl
 | cons c l =>
  rw[eH,List.all_cons,Bool.and_eq_true] at h;have hc:=h.1;simp only[Bool.and_eq_true,decide_eq_true_eq] at hc
  have:(45 == c)=false:=by
   rw[← Bool.not_eq_true,beq_iff_eq];rintro rfl;simp at hc
  simp[Lib.hasPrefix,List.isPrefixOf,this]
theorem AB {k:IntKind}{a b:Int}(h:a=b):Value.int k a=Value.int k b:=by rw[h]
theorem JK {R T:List UInt8}{n:Nat}{ws:List Nat}(_hn:n≤9)(hR:n≤R.length)(hT:T=R.take n)(hd:eH R=true)(hw:∀ x∈ws,x<4294967296)(hp:10 ^ n≤1000000000) :
  eH (R.drop n)=true∧gM (bN (eu (10 ^ n) ws (iG T))) * 10 ^ (R.drop n).length+iG (R.drop n)=gM ws * 10 ^ R.length+iG R:=by
 have e1:R=R.take n++R.drop n:=(List.take_append_drop n R).symm
 have ed:eH (R.take n)=true∧eH (R.drop n)=true:=by
  rw[e1,eH,List.all_append,Bool.and_eq_true] at hd;exact hd
 have hl:(R.take n).length=n:=by rw[List.length_take];omega
 have hv:=Ay _ ed.1;rw[hl] at hv;refine⟨ed.2,?_⟩;rw[hT,um,Bj _ hp _ _ hw (by omega)]
 have e2:iG R=iG (R.take n) * 10 ^ (R.drop n).length+iG (R.drop n):=by
  conv=>lhs;rw[e1]
  exact Jp _ _
 rw[e2,Nat.add_mul,Nat.mul_assoc,← Nat.pow_add,List.length_drop,show n+(R.length - n)=R.length by omega];omega
def aaQ (n:Int)(w:World)(e:Ending)(w':World):Prop :=
 ∃ am wn cm,e=.returned (.tuple #[.agg #[.bool (decide (n<0)),.slice am wn cm],.int .i64 0])∧kN (fun b=>w.heap.size≤b) w' n (.slice am wn cm)∧Below w.heap.size w w'
def GY (ng:Bool)(n:Nat):Int:=if ng=true then -(n:Int) else (n:Int)
theorem Uy (ng:Bool)(n:Nat):(GY ng n).natAbs=n:=by unfold GY;split<;>omega
theorem Uz {ws:List Nat}(ng:Bool)(h:bN ws=ws):decide (GY ng (gM ws)<0)=(ng && decide (0<ws.length)):=by
 cases ng with
 | false=>exact decide_eq_false (by simp[GY])
 | true =>
  by_cases hw:ws=[]
  ·subst hw;rfl
  ·have h1:=uo h hw
   have h2:0<ws.length:=List.length_pos_iff.2 hw;rw[decide_eq_true (by simp[GY];omega),decide_eq_true h2];rfl
theorem JL (s0 s:ByteArray)(ng:Bool)(w:World)(e1:Lib.hasPrefix s0.data.toList (ByteArray.mk #[45]).data.toList=ng)(e2:Lib.trimPrefix s0.data.toList (ByteArray.mk #[45]).data.toList=s.data.toList)(h0:0<s.size)(Gy:s.size≤60)(hd:eH s.data.toList=true)(hz:s.data.toList.head?=some 48→s.size=1∧ng=false) :
  Calls Tryz.prog 181 #[.string s0] w (aaQ (GY ng (iG s.data.toList)) w):=by
 have hcut:=Tryz.strings_CutPrefix s0 ⟨#[45]⟩ (w.alloc (.cells #[.bool false,.slice none 0 0] 44));rw[e1,e2,show ByteArray.mk s.data.toList.toArray=s by cases s;simp] at hcut;have HC:=ah hcut
 have htr:∀ W:World,Calls Tryz.prog 242 #[.string s,.string ⟨#[48,49,50,51,52,53,54,55,56,57]⟩] W fun e w'=>e=.returned (.string ⟨#[]⟩)∧Below W.heap.size W w':=fun W=>by
  have:=Any.strings_Trim_laid Tryz.X3 Tryz.Yx s ⟨#[48,49,50,51,52,53,54,55,56,57]⟩ W (by omega) (by decide) (ascii_of_all (by decide));rw[show (ByteArray.mk #[48,49,50,51,52,53,54,55,56,57]).data.toList=QU from rfl,JJ hd] at this;exact this
 have HTr:=ah htr
 have hne:s.toList.isEmpty=false:=by rw[qN];exact decide_eq_false (by omega)
 have hne2:(s.toList == [])=false:=by
  rw[← Bool.not_eq_true,beq_iff_eq];intro q;rw[q] at hne;cases hne
 have HD:=ah hd
 have hlast:((((s[0]'h0).toNat:Int) == 48)=false∨((((s[0]'h0).toNat:Int) == 48)=true∧decide ((1:Int)<(s.size:Int))=false∧ng=false)):=by
  by_cases q:((s[0]'h0).toNat:Int)=48
  ·right
   have:s.size=1∧ng=false:=by
    apply hz
    obtain⟨r,hr⟩:=head_cons h0;rw[hr,List.head?_cons]
    congr 1
    exact UInt8.toNat_inj.1 (show (s[0]'h0).toNat=48 by omega)
   exact⟨by simpa using q,decide_eq_false (by omega),this.2⟩
  ·left;simpa using q
 clear hcut e1 e2 htr hz hd
 have h0I:(0:Int)<(s.size:Int):=by omega
 have afd:(s.size:Int)≤60:=by omega
 have hg:=heap_alloc_new w (.cells #[.bool false,.slice none 0 0] 44);have hbw:=aj w (.cells #[.bool false,.slice none 0 0] 44);go_enter Tryz.func181,Tryz.ntmps181
 go_upto_region 4 with (go_at_call 241;refine HC.out.mono ?_;rintro e w1 ⟨rfl,rfl⟩)
 generalize w.alloc _=w2 at hg hbw ⊢
 go_cut [4,5,22] (fun r n1 t wx=>r=.string s∧n1=.bool ng∧t=.bool false∧wx.heap[w.heap.size]?=some (.cells #[.bool false,.slice none 0 0] 44 (0,0))∧Below w.heap.size w wx)
 case first =>
  rcases hlast with hl|⟨hl,hl2,rfl⟩
  ·go_wp2_with (go_at_call 242;refine(HTr.out _).mono ?_;rintro e w1 ⟨rfl,hb1⟩)
   go_meet
   exact⟨rfl,rfl,rfl,(hb1.block _ (bG hg).1).trans hg,hbw.trans (hb1.mono hbw.size)⟩
  ·go_wp2_with (go_at_call 242;refine(HTr.out _).mono ?_;rintro e w1 ⟨rfl,hb1⟩)
   go_meet
   exact⟨rfl,rfl,rfl,(hb1.block _ (bG hg).1).trans hg,hbw.trans (hb1.mono hbw.size)⟩
 case rest =>
  obtain⟨rfl,rfl,rfl,hg2,hbc⟩:=hcut;clear hne hne2 hlast hg hbw HTr HC
  obtain⟨wo,rfl⟩:∃ wo:World,wo=wc:=⟨_,rfl⟩
  go_wp2
  go_loopw [4,6] (fun rv mv wr=>∃ (R:ByteArray) (ws:List Nat) (ao:Option Addr) (cap:Nat),rv=.string R∧mv=.slice ao ws.length cap∧Wd (fun b=>w.heap.size<b) wr (.slice ao ws.length cap) ws∧bN ws=ws∧(∀ x∈ws,x<4294967296)∧ws.length+R.size≤60∧eH R.data.toList=true∧gM ws * 10 ^ R.size+iG R.data.toList=iG s.data.toList∧wr.heap[w.heap.size]?=some (.cells #[.bool false,.slice none 0 0] 44 (0,0))∧Below w.heap.size w wr) (fun rv _ _=>LW rv)
  case atStart=>exact⟨s,[],none,0,rfl,rfl,lS.nil _ _ _,rfl,fun x hx=>(by cases hx),by simpa using Gy,HD.out,by simp[gM],hg2,hbc⟩
  case round =>
   obtain⟨R,ws,ao,cap,rfl,rfl,hW,htr,hlt,hsz,hdg,hval,hg3,hbl⟩:=hrel
   by_cases hR:0<R.size
   ·obtain⟨n,hn⟩:∃ n,n=min 9 R.size:=⟨_,rfl⟩
    have hn9:n≤9:=by omega
    have hnR:n≤R.size:=by omega
    have hn0:0<n:=by omega
    have hmin:min (9:Int) (R.size:Int)=(n:Int):=by omega
    have hRI:(0:Int)<(R.size:Int):=by omega
    have afe:(R.size:Int)≤60:=by omega
    have HN:=ah hn
    have hcv:=fun (W:World)=>run_bytes_of_string (P:=Tryz.prog) W 9 151 5 (R.extract 0 n) Tryz.underlying9 Tryz.underlying151 Tryz.underlying5
    have hTs:(R.extract 0 n).size=n:=by rw[ByteArray.size_extract];omega
    rw[hTs] at hcv;have HTs:=ah hTs;have HV:=ah hval;have HDG:=ah hdg;have HLT:=ah hlt;have Ti:=ah htr;clear hTs hn hval hdg hlt htr;have hz:=hbl.size;have hlw:=(bG hg3).1
    have hTl:(R.extract 0 n).data.toList=R.data.toList.take n:=by rw[gL,List.drop_zero]
    have ab8:∀ (cap':Nat) (fr:Nat × Nat) (j:Nat) (hj:j<n),(wr.alloc (.cells (bytesRow (R.extract 0 n) cap') 5 fr)).drew.cell? ⟨wr.heap.size,j,none⟩=some (.int .u8 (((R.extract 0 n).data[j]'(by have:=HTs.out;show j<(R.extract 0 n).size;omega)).toNat:Nat)):=fun cap' fr j hj=>by
     have hs:j<(R.extract 0 n).data.size:=by have:=HTs.out;show j<(R.extract 0 n).size;omega
     rw[Lib.cell_of_heap (show (wr.alloc (.cells (bytesRow (R.extract 0 n) cap') 5 fr)).drew.heap[wr.heap.size]?=some (.cells (bytesRow (R.extract 0 n) cap') 5 fr) from heap_alloc_new wr _)];exact bytesRow_at _ _ _ hs
    have Tj:=ah ab8;clear ab8;go_wp2;clear hcv;have hcl:=Tj.out (grownCap wr n 0 5) ((bytesRow (R.extract 0 n) (grownCap wr n 0 5)).size,(bytesRow (R.extract 0 n) (grownCap wr n 0 5)).size+1);have hbx:Below wr.heap.size wr (wr.alloc (.cells (bytesRow (R.extract 0 n) (grownCap wr n 0 5)) 5 ((bytesRow (R.extract 0 n) (grownCap wr n 0 5)).size,(bytesRow (R.extract 0 n) (grownCap wr n 0 5)).size+1))).drew:=((Below.refl _ _).alloc (Nat.le_refl _) _).drew
    have hsx:wr.heap.size<(wr.alloc (.cells (bytesRow (R.extract 0 n) (grownCap wr n 0 5)) 5 ((bytesRow (R.extract 0 n) (grownCap wr n 0 5)).size,(bytesRow (R.extract 0 n) (grownCap wr n 0 5)).size+1))).drew.heap.size:=by simp
    generalize (wr.alloc (.cells (bytesRow (R.extract 0 n) (grownCap wr n 0 5)) 5 _)).drew=wx at hcl hbx hsx ⊢;have Ee:=ah hcl;clear hcl Tj
    have hTd:eH (R.extract 0 n).data.toList=true:=by
     have:=HDG.out;rw[hTl,eH,List.all_eq_true];rw[eH,List.all_eq_true] at this
     exact fun x hx=>this x (List.mem_of_mem_take hx)
    have HTd:=ah hTd;have HTl:=ah hTl;clear hTd hTl
    go_loop [8,9,55] (fun bv pv q=>∃ k:Nat,k≤n∧q=.int .i64 k∧bv=.int .u64 ((10 ^ k:Nat):Nat)∧pv=.int .u64 (iG ((R.extract 0 n).data.toList.take k):Nat)) (fun _ _ q=>n - (intOf q).toNat)
    case atStart=>exact⟨0,Nat.zero_le _,rfl,rfl,by rw[List.take_zero];rfl⟩
    case round =>
     obtain⟨k,hk,rfl,rfl,rfl⟩:=hrel;have hT1:=HTs.out
     have O1:(R.extract 0 n).data.toList.length=n:=by rw[aK];exact hT1
     by_cases hkn:k<n
     ·have hx:=Ee.out k hkn
      have hkd:k<(R.extract 0 n).data.toList.length:=by omega
      have hgk:(R.extract 0 n).data[k]'(by have:=HTs.out;show k<(R.extract 0 n).size;omega)=(R.extract 0 n).data.toList[k]'hkd:=by simp
      have hcb:=(List.all_eq_true.1 HTd.out) _ (List.getElem_mem hkd);simp only[Bool.and_eq_true,decide_eq_true_eq] at hcb
      have hsn:iG ((R.extract 0 n).data.toList.take (k+1))=iG ((R.extract 0 n).data.toList.take k) * 10+(((R.extract 0 n).data.toList[k]'hkd).toNat - 48):=by
       rw[List.take_succ_eq_append_getElem hkd,qd]
      have hpw:(10:Nat) ^ (k+1)=10 ^ k * 10:=Nat.pow_succ ..;have QE:(10:Nat) ^ k≤100000000:=Nat.pow_le_pow_right (by omega) (by omega:k≤8)
      have hdl:iG ((R.extract 0 n).data.toList.take k)<10 ^ ((R.extract 0 n).data.toList.take k).length:=Ay _ (by
       rw[eH,List.all_eq_true]
       exact fun x hx=>(List.all_eq_true.1 HTd.out) x (List.mem_of_mem_take hx))
      rw[List.length_take,Nat.min_eq_left (by omega)] at hdl;rw[hgk] at hx;generalize (R.extract 0 n).data.toList[k]'hkd=ch at hx hcb hsn
      obtain⟨cn,hcn⟩:∃ cn,ch.toNat=cn:=⟨_,rfl⟩
      rw[hcn] at hx hcb hsn;have HS:=ah hsn;have HP:=ah hpw;clear hsn hpw hgk hcn hT1 O1 hkd;generalize iG ((R.extract 0 n).data.toList.take k)=p at hdl HS;generalize (10:Nat) ^ k=a at QE hdl HP
      have nJ:(k:Int)<(n:Int):=by omega
      go_wp2;exact⟨⟨k+1,by omega,by go_num,by rw[HP.out];exact AB (by omega),by rw[HS.out];exact AB (by omega)⟩,by simp[intOf];omega⟩
     ·obtain rfl:k=n:=by omega
      have ZV:(R.extract 0 k).data.toList.take k=(R.extract 0 k).data.toList:=List.take_of_length_le (by omega);have hdl:=Ay _ HTd.out;rw[O1] at hdl;have Yn:=Yf hn9;have hWx:Wd (fun b=>w.heap.size<b) wx (.slice ao ws.length cap) ws:=lS.frame hW (aQ.of hbx);have HSC:=ah (QO (fun b=>w.heap.size<b) (.slice ao ws.length cap) ws (10 ^ k) (iG (R.extract 0 k).data.toList) wx hWx HLT.out Yn (by omega) (by omega))
      have adH:k≤R.data.toList.length:=by rw[aK];exact hnR
      have hstep:=JK (ws:=ws) hn9 adH HTl.out HDG.out HLT.out Yn;have HST:=ah hstep;rw[ZV];clear hstep ZV hdl hWx hT1 O1;generalize (10:Nat) ^ k=a at HSC HST Yn ⊢;generalize iG (R.extract 0 k).data.toList=p at HSC HST ⊢;have nJ:decide ((k:Int)<(k:Int))=false:=decide_eq_false (by omega);go_wp2_with (go_at_call 243;refine HSC.out.mono ?_);rintro e w7 ⟨v,rfl,hown,pI⟩;obtain⟨g,cap2,rfl,_,_⟩:=hown.form (by rw[jA];omega)
      have hWs:Wd (fun b=>w.heap.size<b) w7 (.slice (some ⟨g,0,none⟩) (eu a ws p).length cap2) (eu a ws p):=lS.fF hown fun b hb=>by omega
      have HT:=ah (yR _ (some ⟨g,0,none⟩) cap2 (eu a ws p) w7 hWs (by rw[jA];omega));have HWs:=ah hWs;have G:=(pI.block w.heap.size (by omega)).trans ((hbx.block w.heap.size hlw).trans hg3);have aaR:=hbl.trans ((hbx.trans (pI.mono (Nat.le_of_lt hsx))).mono hz);clear hown hWs HSC;go_wp2_with (go_at_call 183;refine HT.out.mono ?_;rintro e w8 ⟨rfl,rfl⟩)
      go_roundw
      case rel =>
       have hex:(R.extract k R.size).size=R.size - k:=by rw[ByteArray.size_extract];omega
       have hel:(R.extract k R.size).data.toList=R.data.toList.drop k:=by rw[gL,List.take_of_length_le (by rw[aK];exact Nat.le_refl _)]
       have htl:=EN (eu a ws p);rw[jA] at htl;obtain⟨s1,s2⟩:=HST.out
       have e1:(R.data.toList.drop k).length=R.size - k:=by rw[List.length_drop,aK]
       rw[e1,aK] at s2;refine⟨R.extract k R.size,bN (eu a ws p),some ⟨g,0,none⟩,cap2,rfl,rfl,?_,vB _,fun x hx=>EO _ _ _ _ (yK _ _ hx),by omega,by rw[hel];exact s1,by rw[hex,hel,s2];exact HV.out,G,aaR⟩;obtain⟨n',n1,n2,_,_⟩:=qR (eu a ws p)
       have hl:(bN (eu a ws p)).length=n':=by rw[n2,List.length_take];omega
       rw[hl,n2];exact HWs.out.take n1
      case measure =>
       show (R.extract k R.size).size<R.size;rw[ByteArray.size_extract];omega
   ·have hR0:R.size=0:=by omega
    have hRl:R.data.toList=[]:=List.length_eq_zero_iff.1 (by rw[aK];exact hR0);rw[hRl,hR0] at hval
    have hv2:gM ws=iG s.data.toList:=by simpa [iG] using hval
    have HV:=ah hv2;have HLT:=ah hlt;have Ti:=ah htr;have hM:=QT (fun b=>w.heap.size<b) ng ao cap ws wr hW (by omega);rw[htr,← Uz ng htr,hv2] at hM;generalize hng:decide (GY ng (iG s.data.toList)<0)=nb at hM;have HNG:=ah hng;have HM:=ah hM
    have hRI:(R.size:Int)≤0:=by omega
    have hz:=hbl.size;clear hv2 hval hRl hdg hlt htr hM hng;go_wp2_with (go_at_call 244;refine HM.out.mono ?_);rintro e w6 ⟨rfl,hb6⟩;have G:=(hb6.block w.heap.size (bG hg3).1).trans hg3
    have d0:w6.cell? ⟨w.heap.size,0,none⟩=some (.bool false):=by rw[Lib.cell_of_heap G];rfl
    have d1:w6.cell? ⟨w.heap.size,1,none⟩=some (.slice none 0 0):=by rw[Lib.cell_of_heap G];rfl
    have dz:∀ j,w6.frozen? ⟨w.heap.size,j,none⟩=false:=by intro j;simp[World.frozen?,G]
    go_wp2;have hs2:=hb6.size;refine bodyPost_ret (v:=.tuple #[.agg #[.bool nb,.slice ao ws.length cap],.int .i64 0]) (by simp[results,Tryz.results181,go_sem,d0,d1]) rfl ⟨ao,ws.length,cap,by rw[HNG.out],⟨ws,?_,Ti.out,HLT.out,by rw[HV.out,Uy]⟩,?_⟩
    ·have h1:=hW.frame (aQ.of hb6)
     have h2:=h1.frame (aQ.set (a:=⟨w.heap.size,0,none⟩) (.bool nb) fun b hb=>by show b≠w.heap.size;omega);have h3:=h2.frame (aQ.set (a:=⟨w.heap.size,1,none⟩) (.slice ao ws.length cap) fun b hb=>by show b≠w.heap.size;omega)
     exact h3.imp fun b hb _=>Nat.le_of_lt hb
    ·exact((hbl.trans (hb6.mono hz)).setCell (Nat.le_refl _) _).setCell (Nat.le_refl _) _
theorem MR (s:ByteArray)(w:World)(h0:0<s.size)(Gy:s.size≤60)(hd:eH s.data.toList=true)(hz:s.data.toList.head?=some 48→s.size=1) :
  Calls Tryz.prog 181 #[.string s] w (Uw (iG s.data.toList) w):=by
 have e1:Lib.hasPrefix s.data.toList (ByteArray.mk #[45]).data.toList=false:=MQ hd
 refine(JL s s false w e1 (by rw[Lib.trimPrefix,e1];rfl) h0 Gy hd fun h=>⟨hz h,rfl⟩).mono fun e w' h=>?_
 obtain⟨am,wn,cm,he,h1,h2⟩:=h;exact⟨am,wn,cm,by rw[he,show decide (GY false (iG s.data.toList)<0)=false from decide_eq_false (by simp[GY])],h1,h2⟩
end Go.Proofs.YtknicmmigbhpcaaGreatDoor

namespace Go.Proofs.YtknicmmigbhpcaaGreatDoor
structure ZW where
 op:Int
 kids:Int
 name:List UInt8
 module:List UInt8
 num:List UInt8
 yes:Bool
def ZW.fits (c:ZW):Bool:=decide (c.name.length≤60) && decide (c.module.length≤60) && decide (c.num.length≤80)
mutual
def PZ.size:PZ→Nat
 | .mk _ _ _ _ _ kids _=>rM kids+1
def rM:List PZ→Nat
 | []=>0
 | e :: l=>e.size+rM l
end
end Go.Proofs.YtknicmmigbhpcaaGreatDoor

namespace Go.Proofs.YtknicmmigbhpcaaGreatDoor
open Go.RowKit Go
theorem QV (P:Nat→Prop)(am:Option Addr)(wn cm:Nat)(n:Int)(w:World)(h:kN P w n (.slice am wn cm)) :
  Calls Tryz.prog 257 #[.agg #[.bool (decide (n<0)),.slice am wn cm]] w fun e w'=>e=.returned (.int .i64 n.sign)∧Below w.heap.size w w':=by
 obtain⟨ws,hws,htr,_,hv⟩:=h;obtain⟨BU,BX,hq⟩:=hws.form;simp only[Value.slice.injEq] at hq;obtain⟨-,rfl,-⟩:=hq
 have hb0:∀ b,Below w.heap.size w (w.alloc (.cells #[.bool b,.slice am ws.length cm] 44)):=fun b=>aj w _
 rcases Int.lt_trichotomy n 0 with hn|hn|hn
 ·have h0:0<ws.length:=List.length_pos_iff.2 fun q=>by subst q;simp[gM] at hv;omega
  rw[decide_eq_true hn,Int.sign_eq_neg_one_of_neg hn];have h0I:((ws.length:Int) == 0)=false:=beq_eq_false_iff_ne.2 (by omega);clear hws htr hv;go_enter Tryz.func257,Tryz.ntmps257;go_wp2;go_ret;exact⟨rfl,hb0 _⟩
 ·subst hn
  obtain rfl:ws=[]:=by
   rw[← htr];exact vw _ (by rw[hv];rfl)
  clear hws htr hv;go_enter Tryz.func257,Tryz.ntmps257;go_wp2;go_ret;exact⟨rfl,hb0 _⟩
 ·have h0:0<ws.length:=List.length_pos_iff.2 fun q=>by subst q;simp[gM] at hv;omega
  rw[decide_eq_false (by omega:¬ n<0),Int.sign_eq_one_of_pos hn];have h0I:((ws.length:Int) == 0)=false:=beq_eq_false_iff_ne.2 (by omega);clear hws htr hv;go_enter Tryz.func257,Tryz.ntmps257;go_wp2;go_ret;exact⟨rfl,hb0 _⟩
end Go.Proofs.YtknicmmigbhpcaaGreatDoor

namespace Go.Proofs.YtknicmmigbhpcaaGreatDoor
def Slk (a b:aB):Prop:=b.nodes.length+2 * a.used≤a.nodes.length+2 * b.used
theorem Slk.refl (a:aB):Slk a a:=Nat.le_refl _
theorem Slk.trans {a b c:aB}(h:Slk a b)(k:Slk b c):Slk a c:=by unfold Slk at *;omega
theorem ku (toks:List Tok)(e:Nat)(st:aB):Slk st (fQ toks e st):=by
 unfold fQ
 split<;>exact Nat.le_refl _
theorem lV (toks:List Tok)(d n:Nat)(st:aB):Slk st (aM toks d n st):=by
 unfold aM
 split
 ·exact ku _ _ _
 ·exact Slk.refl _
theorem Fj (toks:List Tok)(st:aB):(ay toks st=(-1,st))∨((ay toks st).2.nodes.length=st.nodes.length+1∧(ay toks st).2.used=st.used+1):=by
 unfold ay
 split
 ·exact .inl rfl
 ·exact .inr ⟨by simp,rfl⟩
theorem kC (toks:List Tok)(st:aB):Slk st (ay toks st).2:=by
 rcases Fj toks st with h|⟨h1,h2⟩
 ·rw[h];exact Slk.refl _
 ·unfold Slk;omega
theorem eB (toks:List Tok)(l:List (List UInt8))(st:aB):Slk st (aA toks l st).2:=by
 unfold aA
 split
 ·exact kC _ _
 ·exact ku _ _ _
theorem uE (toks:List Tok)(k:Nat)(st:aB):Slk st (aO toks k st).2:=by
 unfold aO
 split
 ·exact kC _ _
 ·exact ku _ _ _
theorem QW (k:Int)(l:List Int)(st:aB):(aY k l st).2.used=st.used∧(aY k l st).2.nodes.length≤st.nodes.length+1∧((-1:Int)∈l→(aY k l st).2.nodes.length=st.nodes.length):=by
 unfold aY El
 split
 ·split
  ·exact⟨rfl,by simp,fun _=>rfl⟩
  ·rename_i hb
   refine⟨rfl,by simp,fun h=>?_⟩;exact(hb (List.any_eq_true.2 ⟨-1,h,by simp⟩)).elim
 ·exact⟨rfl,by simp,fun _=>rfl⟩
theorem eU (toks:List Tok)(k:Int)(l:List Int)(st s3:aB)(h:Slk (ay toks st).2 s3)(hm:(ay toks st).1∈l):Slk st (aY k l s3).2:=by
 obtain⟨h1,h2,h3⟩:=QW k l s3
 rcases Fj toks st with hl|⟨l1,l2⟩
 ·rw[hl] at h hm
  have:=h3 hm;unfold Slk at *;simp only at h;omega
 ·unfold Slk at *
  omega
theorem QX (toks:List Tok)(a:Int × aB):Slk a.2 (lD toks a).2:=by
 unfold lD
 split
 ·exact(kC _ _).trans (uE _ _ _)
 ·exact Slk.refl _
theorem xu (toks:List Tok)(one:aB→Option (Int × aB))(h1:∀ s k,one s=some k→Slk s k.2):∀ (r:Nat) (kids:List Int) (st:aB) (l:List Int × aB),aR toks one r kids st=some l→Slk st l.2
 | 0,kids,st,l,h=>by
  rw[aR] at h
  injection h with h
  subst h;show Slk st (if st.fE=0 then fQ toks 15 st else st)
  split
  ·exact ku _ _ _
  ·exact Slk.refl _
 | r+1,kids,st,l,h=>by
  rw[aR] at h
  split at h
  ·injection h with h;subst h;exact Slk.refl _
  ·obtain⟨k,hk,h⟩:=bH h
   have:=h1 _ _ hk
   split at h
   ·exact(this.trans (kC _ _)).trans (xu toks one h1 r _ _ _ h)
   ·injection h with h;subst h;exact this
theorem Fp (toks:List Tok)(one:aB→Option (Int × aB))(h1:∀ s k,one s=some k→Slk s k.2)(st:aB)(l:List Int × aB)(h:jf toks one st=some l):Slk st l.2:=by
 unfold jf at h
 split at h
 ·injection h with h;subst h;exact Slk.refl _
 ·exact xu toks one h1 _ _ _ _ h
theorem kS (toks:List Tok)(depth:Nat):∀ (g:Nat) (t:Task) (st:aB) (r:Int × aB),run toks depth g t st=some r→Slk st r.2
 | 0,_,_,_,h=>by rw[run] at h;cases h
 | g+1,.expr nest,st,r,h=>by
  have ih:=kS toks depth g;rw[run] at h;have hd:=lV toks depth nest st;generalize aM toks depth nest st=s at h hd
  split at h
  ·injection h with h;subst h;exact hd
  split at h
  ·exact hd.trans (ih _ _ _ h)
  split at h
  ·obtain⟨d,h1,h⟩:=bH h
   obtain⟨f,h2,h⟩:=bH h
   injection h with h;subst h
   exact hd.trans (eU toks _ _ _ _ ((((uE _ _ _).trans (eB _ _ _)).trans (ih _ _ _ h1)).trans ((eB _ _ _).trans (ih _ _ _ h2))) (by simp))
  split at h
  ·obtain⟨b,h1,h⟩:=bH h
   obtain⟨d,h2,h⟩:=bH h;obtain⟨f,h3,h⟩:=bH h
   injection h with h;subst h
   exact hd.trans (eU toks _ _ _ _ ((((ih _ _ _ h1).trans (eB _ _ _)).trans (ih _ _ _ h2)).trans ((eB _ _ _).trans (ih _ _ _ h3))) (by simp))
  split at h
  ·obtain⟨b,h1,h⟩:=bH h
   obtain⟨d,h2,h⟩:=bH h
   injection h with h;subst h
   exact hd.trans (eU toks _ _ _ _ (((ih _ _ _ h1).trans (eB _ _ _)).trans (ih _ _ _ h2)) (by simp))
  ·exact hd.trans (ih _ _ _ h)
 | g+1,.formula nest,st,r,h=>by
  have ih:=kS toks depth g;rw[run] at h;obtain⟨a,h1,h⟩:=bH h;have ha:=ih _ _ _ h1
  split at h
  ·have hd:=(ha.trans (kC toks a.2)).trans (lV toks depth (nest+1) _)
   split at h
   ·injection h with h;subst h;exact hd
   ·obtain⟨b,h2,h⟩:=bH h
    injection h with h;subst h
    exact ha.trans (eU toks _ _ _ _ ((lV _ _ _ _).trans (ih _ _ _ h2)) (by simp))
  ·injection h with h;subst h;exact ha
 | g+1,.part l nest,st,r,h=>by
  have ih:=kS toks depth g;rw[run] at h
  split at h
  ·exact ih _ _ _ h
  ·split at h
   ·exact ih _ _ _ h
   ·exact ih _ _ _ h
 | g+1,.row l nest,st,r,h=>by
  have ih:=kS toks depth g;rw[run] at h;obtain⟨a,h1,h⟩:=bH h;exact(ih _ _ _ h1).trans (ih _ _ _ h)
 | g+1,.loop l nest a,st,r,h=>by
  have ih:=kS toks depth g;rw[run] at h
  split at h
  ·obtain⟨b,h1,h⟩:=bH h
   have hb:=eU toks 10 [a,(ay toks st).1,b.1] st _ (ih _ _ _ h1) (by simp)
   split at h
   ·injection h with h;subst h;exact hb
   ·exact hb.trans (ih _ _ _ h)
  ·injection h with h;subst h;exact Slk.refl _
 | g+1,.neg nest,st,r,h=>by
  have ih:=kS toks depth g;rw[run] at h
  split at h
  ·have hd:=(kC toks st).trans (lV toks depth (nest+1) _)
   split at h
   ·injection h with h;subst h;exact hd
   ·obtain⟨b,h2,h⟩:=bH h
    injection h with h;subst h
    exact eU toks _ _ _ _ ((lV _ _ _ _).trans (ih _ _ _ h2)) (by simp)
  ·exact ih _ _ _ h
 | g+1,.factor nest,st,r,h=>by
  have ih:=kS toks depth g;rw[run] at h
  split at h
  ·have hd:=(kC toks st).trans (lV toks depth (nest+1) _)
   split at h
   ·injection h with h;subst h;exact hd
   ·obtain⟨b,h2,h⟩:=bH h
    injection h with h;subst h
    exact eU toks _ _ _ _ ((lV _ _ _ _).trans (ih _ _ _ h2)) (by simp)
  ·exact ih _ _ _ h
 | g+1,.atom nest,st,r,h=>by
  have ih:=kS toks depth g;rw[run] at h
  split at h
  ·injection h with h;subst h;exact Slk.refl _
  split at h
  ·injection h with h;subst h;exact eU toks _ _ _ _ (Slk.refl _) (by simp)
  split at h
  ·injection h with h;subst h;exact eU toks _ _ _ _ (Slk.refl _) (by simp)
  split at h
  ·injection h with h;subst h;exact eU toks _ _ _ _ (Slk.refl _) (by simp)
  split at h
  ·obtain⟨b,h1,h⟩:=bH h
   injection h with h;subst h
   exact eU toks _ _ _ _ ((ih _ _ _ h1).trans (eB _ _ _)) (by simp)
  split at h
  ·exact ih _ _ _ h
  ·injection h with h;subst h;exact ku _ _ _
 | g+1,.name nest,st,r,h=>by
  have ih:=kS toks depth g;rw[run] at h
  split at h
  ·injection h with h;subst h;exact eU toks _ _ _ _ (Slk.refl _) (by simp)
  ·obtain⟨l,h1,h⟩:=bH h
   injection h with h;subst h
   exact eU toks _ _ _ _ (((QX _ _).trans (eB _ _ _)).trans ((Fp toks _ (fun s k hk=>ih _ _ _ hk) _ _ h1).trans (eB _ _ _))) (by unfold lD;split<;>simp)
def oK (toks:List Tok)(a b:aB):Prop:=a.used≤toks.length→b.used≤toks.length
theorem oK.refl {toks:List Tok}(a:aB):oK toks a a:=fun h=>h
theorem oK.trans {toks:List Tok}{a b c:aB}(h:oK toks a b)(k:oK toks b c):oK toks a c:=fun q=>k (h q)
theorem nK (toks:List Tok)(e:Nat)(st:aB):oK toks st (fQ toks e st):=by
 unfold fQ
 split
 ·exact fun h=>h
 ·exact oK.refl _
theorem bO (toks:List Tok)(st:aB):oK toks st (ay toks st).2:=by
 intro h;unfold ay
 split
 ·exact h
 ·simp only;omega
theorem bU {toks:List Tok}(k:Int)(l:List Int)(st:aB):oK toks st (aY k l st).2:=by
 unfold aY El
 split
 ·split
  ·exact oK.refl _
  ·exact fun h=>h
 ·exact oK.refl _
theorem dA (toks:List Tok)(l:List (List UInt8))(st:aB):oK toks st (aA toks l st).2:=by
 unfold aA
 split
 ·exact bO _ _
 ·exact nK _ _ _
theorem nL (toks:List Tok)(k:Nat)(st:aB):oK toks st (aO toks k st).2:=by
 unfold aO
 split
 ·exact bO _ _
 ·exact nK _ _ _
theorem uF (toks:List Tok)(d n:Nat)(st:aB):oK toks st (aM toks d n st):=by
 unfold aM
 split
 ·exact nK _ _ _
 ·exact oK.refl _
theorem QY (toks:List Tok)(a:Int × aB):oK toks a.2 (lD toks a).2:=by
 unfold lD
 split
 ·exact(bO _ _).trans (nL _ _ _)
 ·exact oK.refl _
theorem xw (toks:List Tok)(one:aB→Option (Int × aB))(h1:∀ s k,one s=some k→oK toks s k.2):∀ (r:Nat) (kids:List Int) (st:aB) (l:List Int × aB),aR toks one r kids st=some l→oK toks st l.2
 | 0,kids,st,l,h=>by
  rw[aR] at h
  injection h with h
  subst h;show oK toks st (if st.fE=0 then fQ toks 15 st else st)
  split
  ·exact nK _ _ _
  ·exact oK.refl _
 | r+1,kids,st,l,h=>by
  rw[aR] at h
  split at h
  ·injection h with h;subst h;exact oK.refl _
  ·obtain⟨k,hk,h⟩:=bH h
   have:=h1 _ _ hk
   split at h
   ·exact(this.trans (bO _ _)).trans (xw toks one h1 r _ _ _ h)
   ·injection h with h;subst h;exact this
theorem Fq (toks:List Tok)(one:aB→Option (Int × aB))(h1:∀ s k,one s=some k→oK toks s k.2)(st:aB)(l:List Int × aB)(h:jf toks one st=some l):oK toks st l.2:=by
 unfold jf at h
 split at h
 ·injection h with h;subst h;exact oK.refl _
 ·exact xw toks one h1 _ _ _ _ h
theorem kT (toks:List Tok)(depth:Nat):∀ (g:Nat) (t:Task) (st:aB) (r:Int × aB),run toks depth g t st=some r→oK toks st r.2
 | 0,_,_,_,h=>by rw[run] at h;cases h
 | g+1,.expr nest,st,r,h=>by
  have ih:=kT toks depth g;rw[run] at h;have hd:=uF toks depth nest st;generalize aM toks depth nest st=s at h hd
  split at h
  ·injection h with h;subst h;exact hd
  split at h
  ·exact hd.trans (ih _ _ _ h)
  split at h
  ·obtain⟨d,h1,h⟩:=bH h
   obtain⟨f,h2,h⟩:=bH h
   injection h with h;subst h
   exact(((((hd.trans (bO _ _)).trans (nL _ _ _)).trans (dA _ _ _)).trans (ih _ _ _ h1)).trans (dA _ _ _)).trans ((ih _ _ _ h2).trans (bU _ _ _))
  split at h
  ·obtain⟨b,h1,h⟩:=bH h
   obtain⟨d,h2,h⟩:=bH h;obtain⟨f,h3,h⟩:=bH h
   injection h with h;subst h
   exact(((((hd.trans (bO _ _)).trans (ih _ _ _ h1)).trans (dA _ _ _)).trans (ih _ _ _ h2)).trans (dA _ _ _)).trans ((ih _ _ _ h3).trans (bU _ _ _))
  split at h
  ·obtain⟨b,h1,h⟩:=bH h
   obtain⟨d,h2,h⟩:=bH h
   injection h with h;subst h
   exact(((hd.trans (bO _ _)).trans (ih _ _ _ h1)).trans (dA _ _ _)).trans ((ih _ _ _ h2).trans (bU _ _ _))
  ·exact hd.trans (ih _ _ _ h)
 | g+1,.formula nest,st,r,h=>by
  have ih:=kT toks depth g;rw[run] at h;obtain⟨a,h1,h⟩:=bH h;have ha:=ih _ _ _ h1
  split at h
  ·have hd:=(ha.trans (bO toks a.2)).trans (uF toks depth (nest+1) _)
   split at h
   ·injection h with h;subst h;exact hd
   ·obtain⟨b,h2,h⟩:=bH h
    injection h with h;subst h
    exact(hd.trans (ih _ _ _ h2)).trans (bU _ _ _)
  ·injection h with h;subst h;exact ha
 | g+1,.part l nest,st,r,h=>by
  have ih:=kT toks depth g;rw[run] at h
  split at h
  ·exact ih _ _ _ h
  ·split at h
   ·exact ih _ _ _ h
   ·exact ih _ _ _ h
 | g+1,.row l nest,st,r,h=>by
  have ih:=kT toks depth g;rw[run] at h;obtain⟨a,h1,h⟩:=bH h;exact(ih _ _ _ h1).trans (ih _ _ _ h)
 | g+1,.loop l nest a,st,r,h=>by
  have ih:=kT toks depth g;rw[run] at h
  split at h
  ·obtain⟨b,h1,h⟩:=bH h
   have hb:=((bO toks st).trans (ih _ _ _ h1)).trans (bU 10 [a,(ay toks st).1,b.1] _)
   split at h
   ·injection h with h;subst h;exact hb
   ·exact hb.trans (ih _ _ _ h)
  ·injection h with h;subst h;exact oK.refl _
 | g+1,.neg nest,st,r,h=>by
  have ih:=kT toks depth g;rw[run] at h
  split at h
  ·have hd:=(bO toks st).trans (uF toks depth (nest+1) _)
   split at h
   ·injection h with h;subst h;exact hd
   ·obtain⟨b,h2,h⟩:=bH h
    injection h with h;subst h
    exact(hd.trans (ih _ _ _ h2)).trans (bU _ _ _)
  ·exact ih _ _ _ h
 | g+1,.factor nest,st,r,h=>by
  have ih:=kT toks depth g;rw[run] at h
  split at h
  ·have hd:=(bO toks st).trans (uF toks depth (nest+1) _)
   split at h
   ·injection h with h;subst h;exact hd
   ·obtain⟨b,h2,h⟩:=bH h
    injection h with h;subst h
    exact(hd.trans (ih _ _ _ h2)).trans (bU _ _ _)
  ·exact ih _ _ _ h
 | g+1,.atom nest,st,r,h=>by
  have ih:=kT toks depth g;rw[run] at h
  split at h
  ·injection h with h;subst h;exact oK.refl _
  split at h
  ·injection h with h;subst h;exact(bO _ _).trans (bU _ _ _)
  split at h
  ·injection h with h;subst h;exact(bO _ _).trans (bU _ _ _)
  split at h
  ·injection h with h;subst h;exact(bO _ _).trans (bU _ _ _)
  split at h
  ·obtain⟨b,h1,h⟩:=bH h
   injection h with h;subst h
   exact(((bO _ _).trans (ih _ _ _ h1)).trans (dA _ _ _)).trans (bU _ _ _)
  split at h
  ·exact ih _ _ _ h
  ·injection h with h;subst h;exact nK _ _ _
 | g+1,.name nest,st,r,h=>by
  have ih:=kT toks depth g;rw[run] at h
  split at h
  ·injection h with h;subst h;exact(bO _ _).trans (bU _ _ _)
  ·obtain⟨l,h1,h⟩:=bH h
   injection h with h;subst h
   exact((((bO _ _).trans (QY _ _)).trans (dA _ _ _)).trans (Fq toks _ (fun s k hk=>ih _ _ _ hk) _ _ h1)).trans ((dA _ _ _).trans (bU _ _ _))
inductive Yz where
 | bad (e a:Nat)
 | good (toks:List Tok) (nodes:List Nd)
def xA (toks:List Tok):Nat:=20 * toks.length+18
def GZ (toks:List Tok)(st:aB):Yz:=if st.fE=0 then .good toks st.nodes else .bad st.fE st.Ya
def ab9 (S:List UInt8)(d:Nat):Yz :=
 match bW S with
 | .error x=>.bad x.1 x.2
 | .ok toks=>match aax toks d (xA toks) with
  | none=>.bad 99 0
  | some st=>GZ toks st
def UA (e:CE):PT:=.node 18 [e.pt,.leaf]
theorem Laid.acd {T:List UInt8}{p:Nat}{l:List Tok}(h:Laid T p l){u:Nat}(hu:u<l.length)(h5:gu l u=5):u+1=l.length:=by
 unfold gu bL at h5;rw[Nat.min_eq_left (by omega),List.getD_eq_getElem?_getD,List.getElem?_eq_getElem hu] at h5;have:=(h.last u hu).1 h5;omega
theorem Laid.ZX {T:List UInt8}{p:Nat}{l:List Tok}(h:Laid T p l):gH l:=by
 have h0:=h.some;unfold gH bL;rw[Nat.min_eq_right (by omega),List.getD_eq_getElem?_getD,List.getElem?_eq_getElem (by omega)];exact(h.last _ (by omega)).2 rfl
mutual
theorem G5:∀ (t:PT) (b u:Nat),∀ n∈t.em b u,n.kids.length≤t.nd
 | .leaf,b,u,n,h=>by
  rw[PT.em,List.mem_singleton] at h;subst h
  simp
 | .node k l,b,u,n,h=>by
  rw[PT.em,List.mem_append,List.mem_singleton] at h;rw[PT.nd]
  rcases h with h|h
  ·have:=JM l b u n h
   omega
  ·subst h
   have:=Pb l b;simp only;omega
theorem JM:∀ (l:List PT) (b u:Nat),∀ n∈wL b u l,n.kids.length≤dI l
 | [],b,u,n,h=>by rw[wL] at h;cases h
 | t :: l,b,u,n,h=>by
  rw[wL,List.mem_append] at h;rw[dI]
  rcases h with h|h
  ·have:=G5 t _ _ n h
   omega
  ·have:=JM l _ _ n h
   omega
theorem Pb:∀ (l:List PT) (b:Nat),(bM b l).length≤dI l
 | [],b=>by simp[bM]
 | t :: l,b=>by
  have:=Pb l (b+t.nd);have hp:=t.gq;rw[bM,dI,dX];omega
end
end Go.Proofs.YtknicmmigbhpcaaGreatDoor
