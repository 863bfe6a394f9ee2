/- Walks and plain laws: ZedW2, BothPlain, ZedA, ParseLaws4, ParseLaws5, FormPlain, ProgPlain, ProgTree, ProgTree2. -/
import Derived.Test.YtmhdgeekclhbbaaGreatDoorR08
set_option maxHeartbeats 16000000
set_option maxRecDepth 100000
set_option linter.unusedVariables false
set_option linter.unusedSimpArgs false
namespace Go.Proofs.YtmhdgeekclhbbaaGreatDoor
open Go.RowKit Go
theorem U0 (P:Nat→Prop)(ng:Bool)(ao:Option Addr)(cap:Nat)(ws:List Nat)(w:World)(h:Wd P w (.slice ao ws.length cap) ws)(hn:ws.length≤1099511627776) :
  Calls Tryz.prog 240 #[.bool ng,.slice ao ws.length cap] w fun e w'=>e=.returned (.agg #[.bool (ng && decide (0<(dx ws).length)),.slice ao (dx ws).length cap])∧Below w.heap.size w w':=by
 have h1:Wd P (w.alloc (.cells #[.bool false,.slice none 0 0] 62)) (.slice ao ws.length cap) ws:=h.frame (aW.of (aB w _));have HT:=ay (A9 P ao cap ws _ h1 hn);clear h h1;generalize (dx ws).length=k at *
 cases ng with
 | false =>
  go_enter Tryz.func240,Tryz.ntmps240;go_wp2_with (go_at_call 178;refine HT.out.mono ?_;rintro e w1 ⟨rfl,rfl⟩);refine bodyPost_ret (v:=.agg #[.bool false,.slice ao k cap]) (by simp[results,Tryz.results240,go_sem]) rfl ⟨rfl,?_⟩;exact aB w _
 | true =>
  by_cases hk:0<k
  ·have hkd:decide (0<k)=true:=iX hk
   rw[hkd]
   have pR:(0:Int)<(k:Int):=by omega
   go_enter Tryz.func240,Tryz.ntmps240;go_wp2_with (go_at_call 178;refine HT.out.mono ?_;rintro e w1 ⟨rfl,rfl⟩);refine bodyPost_ret (v:=.agg #[.bool true,.slice ao k cap]) (by simp[results,Tryz.results240,go_sem]) rfl ⟨rfl,?_⟩;exact aB w _
  ·obtain rfl:k=0:=by omega
   go_enter Tryz.func240,Tryz.ntmps240;go_wp2_with (go_at_call 178;refine HT.out.mono ?_;rintro e w1 ⟨rfl,rfl⟩);refine bodyPost_ret (v:=.agg #[.bool false,.slice ao 0 cap]) (by simp[results,Tryz.results240,go_sem]) rfl ⟨rfl,?_⟩;exact aB w _
theorem Tryz.abx:(Tryz.prog.info? 259).map (fun i=>(i.zero,i.size))=some (some (.agg (Array.replicate 256 (.bool false))),256):=by kernel_rfl
def U6:List UInt8:=[48,49,50,51,52,53,54,55,56,57]
theorem aby {c:UInt8}(h:(decide (48≤c.toNat) && decide (c.toNat≤57))=true):U6.contains c=true:=by
 have:∀ n:Fin 256,(decide (48≤(UInt8.ofNat n.val).toNat) && decide ((UInt8.ofNat n.val).toNat≤57))=true→U6.contains (UInt8.ofNat n.val)=true:=by decide
 have h1:=this ⟨c.toNat,c.toNat_lt⟩;rw[UInt8.ofNat_toNat] at h1;exact h1 h
theorem Yc {α:Type}(p:α→Bool):∀ (l:List α),(∀ x∈l,p x=true)→l.dropWhile p=[]
 | [],_=>rfl
 | x :: l,h=>by rw[List.dropWhile_cons_of_pos (h x vB),Yc p l fun y hy=>h y (wM _ hy)]
theorem Nl {l:List UInt8}(h:fT l=true):Lib.trimS l U6=[]:=by
 have h1:Lib.trimRightS l U6=[]:=by
  unfold Lib.trimRightS
  have:l.reverse.dropWhile (U6.contains ·)=[]:=Yc _ _ fun x hx=>aby ((List.all_eq_true.1 h) x (List.mem_reverse.1 hx))
  rw[this,List.reverse_nil]
 unfold Lib.trimS;rw[h1]
 rfl
theorem QE {l:List UInt8}(h:fT l=true):Lib.hasPrefix l [45]=false:=by
 cases l with
 | nil=>rfl
 | cons c l =>
  rw[fT,List.all_cons,Bool.and_eq_true] at h;have hc:=h.1;simp only[Bool.and_eq_true,decide_eq_true_eq] at hc
  have:(45 == c)=false:=by
   rw[← Bool.not_eq_true,beq_iff_eq];rintro rfl;simp at hc
  simp[Lib.hasPrefix,List.isPrefixOf,this]
theorem Dl {k:IntKind}{a b:Int}(h:a=b):Value.int k a=Value.int k b:=by rw[h]
theorem Nn {R T:List UInt8}{n:Nat}{ws:List Nat}(_hn:n≤9)(hR:n≤R.length)(hT:T=R.take n)(hd:fT R=true)(hw:∀ x∈ws,x<4294967296)(hp:10 ^ n≤1000000000) :
  fT (R.drop n)=true∧iM (dx (fM (10 ^ n) ws (jo T))) * 10 ^ (R.drop n).length+jo (R.drop n)=iM ws * 10 ^ R.length+jo R:=by
 have e1:R=R.take n++R.drop n:=(List.take_append_drop n R).symm
 have ed:fT (R.take n)=true∧fT (R.drop n)=true:=by
  rw[e1,fT,List.all_append,Bool.and_eq_true] at hd;exact hd
 have hl:(R.take n).length=n:=by rw[qZ];omega
 have hv:=Dh _ ed.1;rw[hl] at hv;refine⟨ed.2,?_⟩;rw[hT,wN,DJ _ hp _ _ hw (by omega)]
 have e2:jo R=jo (R.take n) * 10 ^ (R.drop n).length+jo (R.drop n):=by
  conv=>lhs;rw[e1]
  exact LU _ _
 rw[e2,Nat.add_mul,Nat.mul_assoc,← Nat.pow_add,List.length_drop,show n+(R.length - n)=R.length by omega];omega
def ac9 (n:Int)(w:World)(e:Ending)(w':World):Prop :=
 ∃ am wn cm,e=.returned (.tuple #[.agg #[.bool (decide (n<0)),.slice am wn cm],.int .i64 0])∧nD (fun b=>w.heap.size≤b) w' n (.slice am wn cm)∧Below w.heap.size w w'
def J8 (ng:Bool)(n:Nat):Int:=if ng=true then -(n:Int) else (n:Int)
theorem Yd (ng:Bool)(n:Nat):(J8 ng n).natAbs=n:=by unfold J8;split<;>omega
theorem Ye {ws:List Nat}(ng:Bool)(h:dx ws=ws):decide (J8 ng (iM ws)<0)=(ng && decide (0<ws.length)):=by
 cases ng with
 | false=>exact dA (by simp[J8])
 | true =>
  by_cases hw:ws=[]
  ·subst hw;rfl
  ·have h1:=wO h hw
   have h2:0<ws.length:=List.length_pos_iff.2 hw;rw[iX (by simp[J8];omega),iX h2];rfl
theorem Np (s0 s:ByteArray)(ng:Bool)(w:World)(e1:Lib.hasPrefix s0.data.toList (ByteArray.mk #[45]).data.toList=ng)(e2:Lib.trimPrefix s0.data.toList (ByteArray.mk #[45]).data.toList=s.data.toList)(h0:0<s.size)(Ay:s.size≤60)(hd:fT s.data.toList=true)(hz:s.data.toList.head?=some 48→s.size=1∧ng=false) :
  Calls Tryz.prog 176 #[.string s0] w (ac9 (J8 ng (jo s.data.toList)) w):=by
 have hcut:=Tryz.strings_CutPrefix s0 ⟨#[45]⟩ (w.alloc (.cells #[.bool false,.slice none 0 0] 62));rw[e1,e2,show ByteArray.mk s.data.toList.toArray=s by cases s;simp] at hcut;have HC:=ay hcut
 have htr:∀ W:World,Calls Tryz.prog 238 #[.string s,.string ⟨#[48,49,50,51,52,53,54,55,56,57]⟩] W fun e w'=>e=.returned (.string ⟨#[]⟩)∧Below W.heap.size W w':=fun W=>by
  have:=Any.strings_Trim_laid Tryz.aa5 Tryz.abx s ⟨#[48,49,50,51,52,53,54,55,56,57]⟩ W (by omega) (by decide) (ascii_of_all (by decide));rw[show (ByteArray.mk #[48,49,50,51,52,53,54,55,56,57]).data.toList=U6 from rfl,Nl hd] at this;exact this
 have HTr:=ay htr
 have hne:s.toList.isEmpty=false:=by rw[um];exact dA (by omega)
 have hne2:(s.toList == [])=false:=by
  rw[← Bool.not_eq_true,beq_iff_eq];intro q;rw[q] at hne;cases hne
 have HD:=ay hd
 have hlast:((((s[0]'h0).toNat:Int) == 48)=false∨((((s[0]'h0).toNat:Int) == 48)=true∧decide ((1:Int)<(s.size:Int))=false∧ng=false)):=by
  by_cases q:((s[0]'h0).toNat:Int)=48
  ·right
   have:s.size=1∧ng=false:=by
    apply hz
    obtain⟨r,hr⟩:=head_cons h0;rw[hr,List.head?_cons]
    congr 1
    exact UInt8.toNat_inj.1 (show (s[0]'h0).toNat=48 by omega)
   exact⟨by simpa using q,dA (by omega),this.2⟩
  ·left;simpa using q
 clear hcut e1 e2 htr hz hd
 have h0I:(0:Int)<(s.size:Int):=by omega
 have ahr:(s.size:Int)≤60:=by omega
 have hg:=aY w (.cells #[.bool false,.slice none 0 0] 62);have hbw:=aB w (.cells #[.bool false,.slice none 0 0] 62);go_enter Tryz.func176,Tryz.ntmps176
 go_upto_region 4 with (go_at_call 237;refine HC.out.mono ?_;rintro e w1 ⟨rfl,rfl⟩)
 generalize w.alloc _=w2 at hg hbw ⊢
 go_cut [4,5,22] (fun r n1 t wx=>r=.string s∧n1=.bool ng∧t=.bool false∧wx.heap[w.heap.size]?=some (.cells #[.bool false,.slice none 0 0] 62 (0,0))∧Below w.heap.size w wx)
 case first =>
  rcases hlast with hl|⟨hl,hl2,rfl⟩
  ·go_wp2_with (go_at_call 238;refine(HTr.out _).mono ?_;rintro e w1 ⟨rfl,hb1⟩)
   go_meet
   exact⟨rfl,rfl,rfl,(hb1.block _ (bS hg).1).trans hg,hbw.trans (hb1.mono hbw.size)⟩
  ·go_wp2_with (go_at_call 238;refine(HTr.out _).mono ?_;rintro e w1 ⟨rfl,hb1⟩)
   go_meet
   exact⟨rfl,rfl,rfl,(hb1.block _ (bS hg).1).trans hg,hbw.trans (hb1.mono hbw.size)⟩
 case rest =>
  obtain⟨rfl,rfl,rfl,hg2,hbc⟩:=hcut;clear hne hne2 hlast hg hbw HTr HC
  obtain⟨wo,rfl⟩:∃ wo:World,wo=wc:=⟨_,rfl⟩
  go_wp2
  go_loopw [4,6] (fun rv mv wr=>∃ (R:ByteArray) (ws:List Nat) (ao:Option Addr) (cap:Nat),rv=.string R∧mv=.slice ao ws.length cap∧Wd (fun b=>w.heap.size<b) wr (.slice ao ws.length cap) ws∧dx ws=ws∧(∀ x∈ws,x<4294967296)∧ws.length+R.size≤60∧fT R.data.toList=true∧iM ws * 10 ^ R.size+jo R.data.toList=jo s.data.toList∧wr.heap[w.heap.size]?=some (.cells #[.bool false,.slice none 0 0] 62 (0,0))∧Below w.heap.size w wr) (fun rv _ _=>PI rv)
  case atStart=>exact⟨s,[],none,0,rfl,rfl,nV.nil _ _ _,rfl,fun x hx=>(by cases hx),by simpa using Ay,HD.out,by simp[iM],hg2,hbc⟩
  case round =>
   obtain⟨R,ws,ao,cap,rfl,rfl,hW,htr,hlt,hsz,hdg,hval,hg3,hbl⟩:=hrel
   by_cases hR:0<R.size
   ·obtain⟨n,hn⟩:∃ n,n=min 9 R.size:=⟨_,rfl⟩
    have hn9:n≤9:=by omega
    have hnR:n≤R.size:=by omega
    have hn0:0<n:=by omega
    have hmin:min (9:Int) (R.size:Int)=(n:Int):=by omega
    have hRI:(0:Int)<(R.size:Int):=by omega
    have ahs:(R.size:Int)≤60:=by omega
    have HN:=ay hn
    have hcv:=fun (W:World)=>run_bytes_of_string (P:=Tryz.prog) W 9 147 5 (R.extract 0 n) Tryz.underlying9 Tryz.underlying147 Tryz.underlying5
    have hTs:(R.extract 0 n).size=n:=by rw[ByteArray.size_extract];omega
    rw[hTs] at hcv;have HTs:=ay hTs;have HV:=ay hval;have HDG:=ay hdg;have HLT:=ay hlt;have QF:=ay htr;clear hTs hn hval hdg hlt htr;have hz:=hbl.size;have hlw:=(bS hg3).1
    have hTl:(R.extract 0 n).data.toList=R.data.toList.take n:=by rw[dL,List.drop_zero]
    have aey:∀ (jE:Nat) (fr:Nat × Nat) (j:Nat) (hj:j<n),(wr.alloc (.cells (bytesRow (R.extract 0 n) jE) 5 fr)).drew.cell? ⟨wr.heap.size,j,none⟩=some (.int .u8 (((R.extract 0 n).data[j]'(by have:=HTs.out;show j<(R.extract 0 n).size;omega)).toNat:Nat)):=fun jE fr j hj=>by
     have hs:j<(R.extract 0 n).data.size:=by have:=HTs.out;show j<(R.extract 0 n).size;omega
     rw[aV (show (wr.alloc (.cells (bytesRow (R.extract 0 n) jE) 5 fr)).drew.heap[wr.heap.size]?=some (.cells (bytesRow (R.extract 0 n) jE) 5 fr) from aY wr _)];exact bytesRow_at _ _ _ hs
    have AU:=ay aey;clear aey;go_wp2;clear hcv;have hcl:=AU.out (grownCap wr n 0 5) ((bytesRow (R.extract 0 n) (grownCap wr n 0 5)).size,(bytesRow (R.extract 0 n) (grownCap wr n 0 5)).size+1);have hbx:Below wr.heap.size wr (wr.alloc (.cells (bytesRow (R.extract 0 n) (grownCap wr n 0 5)) 5 ((bytesRow (R.extract 0 n) (grownCap wr n 0 5)).size,(bytesRow (R.extract 0 n) (grownCap wr n 0 5)).size+1))).drew:=((bI _ _).alloc (bD _) _).drew
    have hsx:wr.heap.size<(wr.alloc (.cells (bytesRow (R.extract 0 n) (grownCap wr n 0 5)) 5 ((bytesRow (R.extract 0 n) (grownCap wr n 0 5)).size,(bytesRow (R.extract 0 n) (grownCap wr n 0 5)).size+1))).drew.heap.size:=by simp
    generalize (wr.alloc (.cells (bytesRow (R.extract 0 n) (grownCap wr n 0 5)) 5 _)).drew=wx at hcl hbx hsx ⊢;have zB:=ay hcl;clear hcl AU
    have hTd:fT (R.extract 0 n).data.toList=true:=by
     have:=HDG.out;rw[hTl,fT,List.all_eq_true];rw[fT,List.all_eq_true] at this
     exact fun x hx=>this x (List.mem_of_mem_take hx)
    have HTd:=ay hTd;have HTl:=ay hTl;clear hTd hTl
    go_loop [8,9,55] (fun bv pv q=>∃ k:Nat,k≤n∧q=.int .i64 k∧bv=.int .u64 ((10 ^ k:Nat):Nat)∧pv=.int .u64 (jo ((R.extract 0 n).data.toList.take k):Nat)) (fun _ _ q=>n - (intOf q).toNat)
    case atStart=>exact⟨0,lI _,rfl,rfl,by rw[List.take_zero];rfl⟩
    case round =>
     obtain⟨k,hk,rfl,rfl,rfl⟩:=hrel;have hT1:=HTs.out
     have SN:(R.extract 0 n).data.toList.length=n:=by rw[aR];exact hT1
     by_cases hkn:k<n
     ·have hx:=zB.out k hkn
      have hkd:k<(R.extract 0 n).data.toList.length:=by omega
      have hgk:(R.extract 0 n).data[k]'(by have:=HTs.out;show k<(R.extract 0 n).size;omega)=(R.extract 0 n).data.toList[k]'hkd:=by simp
      have hcb:=(List.all_eq_true.1 HTd.out) _ (mX hkd);simp only[Bool.and_eq_true,decide_eq_true_eq] at hcb
      have hsn:jo ((R.extract 0 n).data.toList.take (k+1))=jo ((R.extract 0 n).data.toList.take k) * 10+(((R.extract 0 n).data.toList[k]'hkd).toNat - 48):=by
       rw[Dg hkd,sQ]
      have hpw:(10:Nat) ^ (k+1)=10 ^ k * 10:=Nat.pow_succ ..;have UL:(10:Nat) ^ k≤100000000:=Nat.pow_le_pow_right (by omega) (by omega:k≤8)
      have hdl:jo ((R.extract 0 n).data.toList.take k)<10 ^ ((R.extract 0 n).data.toList.take k).length:=Dh _ (by
       rw[fT,List.all_eq_true]
       exact fun x hx=>(List.all_eq_true.1 HTd.out) x (List.mem_of_mem_take hx))
      rw[qZ,Nat.min_eq_left (by omega)] at hdl;rw[hgk] at hx;generalize (R.extract 0 n).data.toList[k]'hkd=ch at hx hcb hsn
      obtain⟨cn,hcn⟩:∃ cn,ch.toNat=cn:=⟨_,rfl⟩
      rw[hcn] at hx hcb hsn;have HS:=ay hsn;have HP:=ay hpw;clear hsn hpw hgk hcn hT1 SN hkd;generalize jo ((R.extract 0 n).data.toList.take k)=p at hdl HS;generalize (10:Nat) ^ k=a at UL hdl HP
      have pR:(k:Int)<(n:Int):=by omega
      go_wp2;exact⟨⟨k+1,by omega,by go_num,by rw[HP.out];exact Dl (by omega),by rw[HS.out];exact Dl (by omega)⟩,by simp[intOf];omega⟩
     ·obtain rfl:k=n:=by omega
      have hTk:(R.extract 0 k).data.toList.take k=(R.extract 0 k).data.toList:=Au (by omega);have hdl:=Dh _ HTd.out;rw[SN] at hdl;have hp9:=aaZ hn9;have hWx:Wd (fun b=>w.heap.size<b) wx (.slice ao ws.length cap) ws:=nV.frame hW (aW.of hbx);have HSC:=ay (UY (fun b=>w.heap.size<b) (.slice ao ws.length cap) ws (10 ^ k) (jo (R.extract 0 k).data.toList) wx hWx HLT.out hp9 (by omega) (by omega))
      have af4:k≤R.data.toList.length:=by rw[aR];exact hnR
      have hstep:=Nn (ws:=ws) hn9 af4 HTl.out HDG.out HLT.out hp9;have HST:=ay hstep;rw[hTk];clear hstep hTk hdl hWx hT1 SN;generalize (10:Nat) ^ k=a at HSC HST hp9 ⊢;generalize jo (R.extract 0 k).data.toList=p at HSC HST ⊢;have pR:decide ((k:Int)<(k:Int))=false:=dA (by omega);go_wp2_with (go_at_call 239;refine HSC.out.mono ?_);rintro e w7 ⟨v,rfl,hown,wR⟩;obtain⟨g,cap2,rfl,_,_⟩:=hown.form (by rw[kC];omega)
      have hWs:Wd (fun b=>w.heap.size<b) w7 (.slice (some ⟨g,0,none⟩) (fM a ws p).length cap2) (fM a ws p):=nV.fZ hown fun b hb=>by omega
      have HT:=ay (A9 _ (some ⟨g,0,none⟩) cap2 (fM a ws p) w7 hWs (by rw[kC];omega));have HWs:=ay hWs;have G:=(wR.block w.heap.size (by omega)).trans ((hbx.block w.heap.size hlw).trans hg3);have af5:=hbl.trans ((hbx.trans (wR.mono (Nat.le_of_lt hsx))).mono hz);clear hown hWs HSC;go_wp2_with (go_at_call 178;refine HT.out.mono ?_;rintro e w8 ⟨rfl,rfl⟩)
      go_roundw
      case rel =>
       have hex:(R.extract k R.size).size=R.size - k:=by rw[ByteArray.size_extract];omega
       have hel:(R.extract k R.size).data.toList=R.data.toList.drop k:=by rw[dL,Au (by rw[aR];exact bD _)]
       have htl:=Ia (fM a ws p);rw[kC] at htl;obtain⟨s1,s2⟩:=HST.out
       have e1:(R.data.toList.drop k).length=R.size - k:=by rw[List.length_drop,aR]
       rw[e1,aR] at s2;refine⟨R.extract k R.size,dx (fM a ws p),some ⟨g,0,none⟩,cap2,rfl,rfl,?_,yg _,fun x hx=>Ib _ _ _ _ (AB _ _ hx),by omega,by rw[hel];exact s1,by rw[hex,hel,s2];exact HV.out,G,af5⟩;obtain⟨n',n1,n2,_,_⟩:=uy (fM a ws p)
       have hl:(dx (fM a ws p)).length=n':=by rw[n2,qZ];omega
       rw[hl,n2];exact HWs.out.take n1
      case measure =>
       show (R.extract k R.size).size<R.size;rw[ByteArray.size_extract];omega
   ·have hR0:R.size=0:=by omega
    have hRl:R.data.toList=[]:=List.length_eq_zero_iff.1 (by rw[aR];exact hR0);rw[hRl,hR0] at hval
    have hv2:iM ws=jo s.data.toList:=by simpa [jo] using hval
    have HV:=ay hv2;have HLT:=ay hlt;have QF:=ay htr;have hM:=U0 (fun b=>w.heap.size<b) ng ao cap ws wr hW (by omega);rw[htr,← Ye ng htr,hv2] at hM;generalize SX:decide (J8 ng (jo s.data.toList)<0)=nb at hM;have HNG:=ay SX;have HM:=ay hM
    have hRI:(R.size:Int)≤0:=by omega
    have hz:=hbl.size;clear hv2 hval hRl hdg hlt htr hM SX;go_wp2_with (go_at_call 240;refine HM.out.mono ?_);rintro e w6 ⟨rfl,hb6⟩;have G:=(hb6.block w.heap.size (bS hg3).1).trans hg3
    have d0:w6.cell? ⟨w.heap.size,0,none⟩=some (.bool false):=by rw[aV G];rfl
    have d1:w6.cell? ⟨w.heap.size,1,none⟩=some (.slice none 0 0):=by rw[aV G];rfl
    have dz:∀ j,w6.frozen? ⟨w.heap.size,j,none⟩=false:=by intro j;simp[World.frozen?,G]
    go_wp2;have hs2:=hb6.size;refine bodyPost_ret (v:=.tuple #[.agg #[.bool nb,.slice ao ws.length cap],.int .i64 0]) (by simp[results,Tryz.results176,go_sem,d0,d1]) rfl ⟨ao,ws.length,cap,by rw[HNG.out],⟨ws,?_,QF.out,HLT.out,by rw[HV.out,Yd]⟩,?_⟩
    ·have h1:=hW.frame (aW.of hb6)
     have h2:=h1.frame (aW.set (a:=⟨w.heap.size,0,none⟩) (.bool nb) fun b hb=>by show b≠w.heap.size;omega);have h3:=h2.frame (aW.set (a:=⟨w.heap.size,1,none⟩) (.slice ao ws.length cap) fun b hb=>by show b≠w.heap.size;omega)
     exact h3.imp fun b hb _=>Nat.le_of_lt hb
    ·exact((hbl.trans (hb6.mono hz)).setCell (bD _) _).setCell (bD _) _
theorem QG (s:ByteArray)(w:World)(h0:0<s.size)(Ay:s.size≤60)(hd:fT s.data.toList=true)(hz:s.data.toList.head?=some 48→s.size=1) :
  Calls Tryz.prog 176 #[.string s] w (Yb (jo s.data.toList) w):=by
 have e1:Lib.hasPrefix s.data.toList (ByteArray.mk #[45]).data.toList=false:=QE hd
 refine(Np s s false w e1 (by rw[Lib.trimPrefix,e1];rfl) h0 Ay hd fun h=>⟨hz h,rfl⟩).mono fun e w' h=>?_
 obtain⟨am,wn,cm,he,h1,h2⟩:=h;exact⟨am,wn,cm,by rw[he,show decide (J8 false (jo s.data.toList)<0)=false from dA (by simp[J8])],h1,h2⟩
end Go.Proofs.YtmhdgeekclhbbaaGreatDoor

namespace Go.Proofs.YtmhdgeekclhbbaaGreatDoor
structure acs where
 op:Int
 aA:Int
 name:List UInt8
 module:List UInt8
 num:List UInt8
 yes:Bool
def acs.fits (c:acs):Bool:=decide (c.name.length≤60) && decide (c.module.length≤60) && decide (c.num.length≤80)
mutual
def PZ.size:PZ→Nat
 | .mk _ _ _ _ _ aA _=>qd aA+1
def qd:List PZ→Nat
 | []=>0
 | e :: l=>e.size+qd l
end
end Go.Proofs.YtmhdgeekclhbbaaGreatDoor

namespace Go.Proofs.YtmhdgeekclhbbaaGreatDoor
open Go.RowKit Go
theorem U7 (P:Nat→Prop)(am:Option Addr)(wn cm:Nat)(n:Int)(w:World)(h:nD P w n (.slice am wn cm)) :
  Calls Tryz.prog 253 #[.agg #[.bool (decide (n<0)),.slice am wn cm]] w fun e w'=>e=.returned (.int .i64 n.sign)∧Below w.heap.size w w':=by
 obtain⟨ws,hws,htr,_,hv⟩:=h;obtain⟨Lr,Ls,hq⟩:=hws.form;simp only[Value.slice.injEq] at hq;obtain⟨-,rfl,-⟩:=hq
 have hb0:∀ b,Below w.heap.size w (w.alloc (.cells #[.bool b,.slice am ws.length cm] 62)):=fun b=>aB w _
 rcases Int.lt_trichotomy n 0 with hn|hn|hn
 ·have h0:0<ws.length:=List.length_pos_iff.2 fun q=>by subst q;simp[iM] at hv;omega
  rw[iX hn,Int.sign_eq_neg_one_of_neg hn];have h0I:((ws.length:Int) == 0)=false:=BU.2 (by omega);clear hws htr hv;go_enter Tryz.func253,Tryz.ntmps253;go_wp2;go_ret;exact⟨rfl,hb0 _⟩
 ·subst hn
  obtain rfl:ws=[]:=by
   rw[← htr];exact yc _ (by rw[hv];rfl)
  clear hws htr hv;go_enter Tryz.func253,Tryz.ntmps253;go_wp2;go_ret;exact⟨rfl,hb0 _⟩
 ·have h0:0<ws.length:=List.length_pos_iff.2 fun q=>by subst q;simp[iM] at hv;omega
  rw[dA (by omega:¬ n<0),Int.sign_eq_one_of_pos hn];have h0I:((ws.length:Int) == 0)=false:=BU.2 (by omega);clear hws htr hv;go_enter Tryz.func253,Tryz.ntmps253;go_wp2;go_ret;exact⟨rfl,hb0 _⟩
end Go.Proofs.YtmhdgeekclhbbaaGreatDoor

namespace Go.Proofs.YtmhdgeekclhbbaaGreatDoor
def mR (a b:aJ):Prop:=b.aj.length+2 * a.used≤a.aj.length+2 * b.used
theorem mR.refl (a:aJ):mR a a:=bD _
theorem mR.trans {a b c:aJ}(h:mR a b)(k:mR b c):mR a c:=by unfold mR at *;omega
theorem mJ (ah:List Tok)(e:Nat)(st:aJ):mR st (gU ah e st):=by
 unfold gU
 split<;>exact bD _
theorem oD (ah:List Tok)(d n:Nat)(st:aJ):mR st (aX ah d n st):=by
 unfold aX
 split
 ·exact mJ _ _ _
 ·exact mR.refl _
theorem IJ (ah:List Tok)(st:aJ):(aD ah st=(-1,st))∨((aD ah st).2.aj.length=st.aj.length+1∧(aD ah st).2.used=st.used+1):=by
 unfold aD
 split
 ·exact .inl rfl
 ·exact .inr ⟨by simp,rfl⟩
theorem mK (ah:List Tok)(st:aJ):mR st (aD ah st).2:=by
 rcases IJ ah st with h|⟨h1,h2⟩
 ·rw[h];exact mR.refl _
 ·unfold mR;omega
theorem fO (ah:List Tok)(l:List (List UInt8))(st:aJ):mR st (aH ah l st).2:=by
 unfold aH
 split
 ·exact mK _ _
 ·exact mJ _ _ _
theorem wU (ah:List Tok)(k:Nat)(st:aJ):mR st (bA ah k st).2:=by
 unfold bA
 split
 ·exact mK _ _
 ·exact mJ _ _ _
theorem U8 (k:Int)(l:List Int)(st:aJ):(bJ k l st).2.used=st.used∧(bJ k l st).2.aj.length≤st.aj.length+1∧((-1:Int)∈l→(bJ k l st).2.aj.length=st.aj.length):=by
 unfold bJ GI
 split
 ·split
  ·exact⟨rfl,by simp,fun _=>rfl⟩
  ·rename_i hb
   refine⟨rfl,by simp,fun h=>?_⟩;exact(hb (List.any_eq_true.2 ⟨-1,h,by simp⟩)).elim
 ·exact⟨rfl,by simp,fun _=>rfl⟩
theorem gu (ah:List Tok)(k:Int)(l:List Int)(st s3:aJ)(h:mR (aD ah st).2 s3)(hm:(aD ah st).1∈l):mR st (bJ k l s3).2:=by
 obtain⟨h1,h2,h3⟩:=U8 k l s3
 rcases IJ ah st with hl|⟨l1,l2⟩
 ·rw[hl] at h hm
  have:=h3 hm;unfold mR at *;simp only at h;omega
 ·unfold mR at *
  omega
theorem U9 (ah:List Tok)(a:Int × aJ):mR a.2 (nU ah a).2:=by
 unfold nU
 split
 ·exact(mK _ _).trans (wU _ _ _)
 ·exact mR.refl _
theorem zL (ah:List Tok)(one:aJ→Option (Int × aJ))(h1:∀ s k,one s=some k→mR s k.2):∀ (r:Nat) (aA:List Int) (st:aJ) (l:List Int × aJ),bC ah one r aA st=some l→mR st l.2
 | 0,aA,st,l,h=>by
  rw[bC] at h
  injection h with h
  subst h;show mR st (if st.fE=0 then gU ah 15 st else st)
  split
  ·exact mJ _ _ _
  ·exact mR.refl _
 | r+1,aA,st,l,h=>by
  rw[bC] at h
  split at h
  ·injection h with h;subst h;exact mR.refl _
  ·obtain⟨k,hk,h⟩:=cK h
   have:=h1 _ _ hk
   split at h
   ·exact(this.trans (mK _ _)).trans (zL ah one h1 r _ _ _ h)
   ·injection h with h;subst h;exact this
theorem IL (ah:List Tok)(one:aJ→Option (Int × aJ))(h1:∀ s k,one s=some k→mR s k.2)(st:aJ)(l:List Int × aJ)(h:jP ah one st=some l):mR st l.2:=by
 unfold jP at h
 split at h
 ·injection h with h;subst h;exact mR.refl _
 ·exact zL ah one h1 _ _ _ _ h
theorem nJ (ah:List Tok)(depth:Nat):∀ (g:Nat) (t:Task) (st:aJ) (r:Int × aJ),run ah depth g t st=some r→mR st r.2
 | 0,_,_,_,h=>by rw[run] at h;cases h
 | g+1,.expr aF,st,r,h=>by
  have ih:=nJ ah depth g;rw[run] at h;have hd:=oD ah depth aF st;generalize aX ah depth aF st=s at h hd
  split at h
  ·injection h with h;subst h;exact hd
  split at h
  ·exact hd.trans (ih _ _ _ h)
  split at h
  ·obtain⟨d,h1,h⟩:=cK h
   obtain⟨f,h2,h⟩:=cK h
   injection h with h;subst h
   exact hd.trans (gu ah _ _ _ _ ((((wU _ _ _).trans (fO _ _ _)).trans (ih _ _ _ h1)).trans ((fO _ _ _).trans (ih _ _ _ h2))) (by simp))
  split at h
  ·obtain⟨b,h1,h⟩:=cK h
   obtain⟨d,h2,h⟩:=cK h;obtain⟨f,h3,h⟩:=cK h
   injection h with h;subst h
   exact hd.trans (gu ah _ _ _ _ ((((ih _ _ _ h1).trans (fO _ _ _)).trans (ih _ _ _ h2)).trans ((fO _ _ _).trans (ih _ _ _ h3))) (by simp))
  split at h
  ·obtain⟨b,h1,h⟩:=cK h
   obtain⟨d,h2,h⟩:=cK h
   injection h with h;subst h
   exact hd.trans (gu ah _ _ _ _ (((ih _ _ _ h1).trans (fO _ _ _)).trans (ih _ _ _ h2)) (by simp))
  ·exact hd.trans (ih _ _ _ h)
 | g+1,.formula aF,st,r,h=>by
  have ih:=nJ ah depth g;rw[run] at h;obtain⟨a,h1,h⟩:=cK h;have ha:=ih _ _ _ h1
  split at h
  ·have hd:=(ha.trans (mK ah a.2)).trans (oD ah depth (aF+1) _)
   split at h
   ·injection h with h;subst h;exact hd
   ·obtain⟨b,h2,h⟩:=cK h
    injection h with h;subst h
    exact ha.trans (gu ah _ _ _ _ ((oD _ _ _ _).trans (ih _ _ _ h2)) (by simp))
  ·injection h with h;subst h;exact ha
 | g+1,.part l aF,st,r,h=>by
  have ih:=nJ ah depth g;rw[run] at h
  split at h
  ·exact ih _ _ _ h
  ·split at h
   ·exact ih _ _ _ h
   ·exact ih _ _ _ h
 | g+1,.row l aF,st,r,h=>by
  have ih:=nJ ah depth g;rw[run] at h;obtain⟨a,h1,h⟩:=cK h;exact(ih _ _ _ h1).trans (ih _ _ _ h)
 | g+1,.loop l aF a,st,r,h=>by
  have ih:=nJ ah depth g;rw[run] at h
  split at h
  ·obtain⟨b,h1,h⟩:=cK h
   have hb:=gu ah 10 [a,(aD ah st).1,b.1] st _ (ih _ _ _ h1) (by simp)
   split at h
   ·injection h with h;subst h;exact hb
   ·exact hb.trans (ih _ _ _ h)
  ·injection h with h;subst h;exact mR.refl _
 | g+1,.neg aF,st,r,h=>by
  have ih:=nJ ah depth g;rw[run] at h
  split at h
  ·have hd:=(mK ah st).trans (oD ah depth (aF+1) _)
   split at h
   ·injection h with h;subst h;exact hd
   ·obtain⟨b,h2,h⟩:=cK h
    injection h with h;subst h
    exact gu ah _ _ _ _ ((oD _ _ _ _).trans (ih _ _ _ h2)) (by simp)
  ·exact ih _ _ _ h
 | g+1,.factor aF,st,r,h=>by
  have ih:=nJ ah depth g;rw[run] at h
  split at h
  ·have hd:=(mK ah st).trans (oD ah depth (aF+1) _)
   split at h
   ·injection h with h;subst h;exact hd
   ·obtain⟨b,h2,h⟩:=cK h
    injection h with h;subst h
    exact gu ah _ _ _ _ ((oD _ _ _ _).trans (ih _ _ _ h2)) (by simp)
  ·exact ih _ _ _ h
 | g+1,.atom aF,st,r,h=>by
  have ih:=nJ ah depth g;rw[run] at h
  split at h
  ·injection h with h;subst h;exact mR.refl _
  split at h
  ·injection h with h;subst h;exact gu ah _ _ _ _ (mR.refl _) (by simp)
  split at h
  ·injection h with h;subst h;exact gu ah _ _ _ _ (mR.refl _) (by simp)
  split at h
  ·injection h with h;subst h;exact gu ah _ _ _ _ (mR.refl _) (by simp)
  split at h
  ·obtain⟨b,h1,h⟩:=cK h
   injection h with h;subst h
   exact gu ah _ _ _ _ ((ih _ _ _ h1).trans (fO _ _ _)) (by simp)
  split at h
  ·exact ih _ _ _ h
  ·injection h with h;subst h;exact mJ _ _ _
 | g+1,.name aF,st,r,h=>by
  have ih:=nJ ah depth g;rw[run] at h
  split at h
  ·injection h with h;subst h;exact gu ah _ _ _ _ (mR.refl _) (by simp)
  ·obtain⟨l,h1,h⟩:=cK h
   injection h with h;subst h
   exact gu ah _ _ _ _ (((U9 _ _).trans (fO _ _ _)).trans ((IL ah _ (fun s k hk=>ih _ _ _ hk) _ _ h1).trans (fO _ _ _))) (by unfold nU;split<;>simp)
def rG (ah:List Tok)(a b:aJ):Prop:=a.used≤ah.length→b.used≤ah.length
theorem rG.refl {ah:List Tok}(a:aJ):rG ah a a:=fun h=>h
theorem rG.trans {ah:List Tok}{a b c:aJ}(h:rG ah a b)(k:rG ah b c):rG ah a c:=fun q=>k (h q)
theorem qp (ah:List Tok)(e:Nat)(st:aJ):rG ah st (gU ah e st):=by
 unfold gU
 split
 ·exact fun h=>h
 ·exact rG.refl _
theorem dD (ah:List Tok)(st:aJ):rG ah st (aD ah st).2:=by
 intro h;unfold aD
 split
 ·exact h
 ·simp only;omega
theorem dN {ah:List Tok}(k:Int)(l:List Int)(st:aJ):rG ah st (bJ k l st).2:=by
 unfold bJ GI
 split
 ·split
  ·exact rG.refl _
  ·exact fun h=>h
 ·exact rG.refl _
theorem eB (ah:List Tok)(l:List (List UInt8))(st:aJ):rG ah st (aH ah l st).2:=by
 unfold aH
 split
 ·exact dD _ _
 ·exact qp _ _ _
theorem qw (ah:List Tok)(k:Nat)(st:aJ):rG ah st (bA ah k st).2:=by
 unfold bA
 split
 ·exact dD _ _
 ·exact qp _ _ _
theorem wV (ah:List Tok)(d n:Nat)(st:aJ):rG ah st (aX ah d n st):=by
 unfold aX
 split
 ·exact qp _ _ _
 ·exact rG.refl _
theorem Va (ah:List Tok)(a:Int × aJ):rG ah a.2 (nU ah a).2:=by
 unfold nU
 split
 ·exact(dD _ _).trans (qw _ _ _)
 ·exact rG.refl _
theorem zM (ah:List Tok)(one:aJ→Option (Int × aJ))(h1:∀ s k,one s=some k→rG ah s k.2):∀ (r:Nat) (aA:List Int) (st:aJ) (l:List Int × aJ),bC ah one r aA st=some l→rG ah st l.2
 | 0,aA,st,l,h=>by
  rw[bC] at h
  injection h with h
  subst h;show rG ah st (if st.fE=0 then gU ah 15 st else st)
  split
  ·exact qp _ _ _
  ·exact rG.refl _
 | r+1,aA,st,l,h=>by
  rw[bC] at h
  split at h
  ·injection h with h;subst h;exact rG.refl _
  ·obtain⟨k,hk,h⟩:=cK h
   have:=h1 _ _ hk
   split at h
   ·exact(this.trans (dD _ _)).trans (zM ah one h1 r _ _ _ h)
   ·injection h with h;subst h;exact this
theorem IQ (ah:List Tok)(one:aJ→Option (Int × aJ))(h1:∀ s k,one s=some k→rG ah s k.2)(st:aJ)(l:List Int × aJ)(h:jP ah one st=some l):rG ah st l.2:=by
 unfold jP at h
 split at h
 ·injection h with h;subst h;exact rG.refl _
 ·exact zM ah one h1 _ _ _ _ h
theorem nK (ah:List Tok)(depth:Nat):∀ (g:Nat) (t:Task) (st:aJ) (r:Int × aJ),run ah depth g t st=some r→rG ah st r.2
 | 0,_,_,_,h=>by rw[run] at h;cases h
 | g+1,.expr aF,st,r,h=>by
  have ih:=nK ah depth g;rw[run] at h;have hd:=wV ah depth aF st;generalize aX ah depth aF st=s at h hd
  split at h
  ·injection h with h;subst h;exact hd
  split at h
  ·exact hd.trans (ih _ _ _ h)
  split at h
  ·obtain⟨d,h1,h⟩:=cK h
   obtain⟨f,h2,h⟩:=cK h
   injection h with h;subst h
   exact(((((hd.trans (dD _ _)).trans (qw _ _ _)).trans (eB _ _ _)).trans (ih _ _ _ h1)).trans (eB _ _ _)).trans ((ih _ _ _ h2).trans (dN _ _ _))
  split at h
  ·obtain⟨b,h1,h⟩:=cK h
   obtain⟨d,h2,h⟩:=cK h;obtain⟨f,h3,h⟩:=cK h
   injection h with h;subst h
   exact(((((hd.trans (dD _ _)).trans (ih _ _ _ h1)).trans (eB _ _ _)).trans (ih _ _ _ h2)).trans (eB _ _ _)).trans ((ih _ _ _ h3).trans (dN _ _ _))
  split at h
  ·obtain⟨b,h1,h⟩:=cK h
   obtain⟨d,h2,h⟩:=cK h
   injection h with h;subst h
   exact(((hd.trans (dD _ _)).trans (ih _ _ _ h1)).trans (eB _ _ _)).trans ((ih _ _ _ h2).trans (dN _ _ _))
  ·exact hd.trans (ih _ _ _ h)
 | g+1,.formula aF,st,r,h=>by
  have ih:=nK ah depth g;rw[run] at h;obtain⟨a,h1,h⟩:=cK h;have ha:=ih _ _ _ h1
  split at h
  ·have hd:=(ha.trans (dD ah a.2)).trans (wV ah depth (aF+1) _)
   split at h
   ·injection h with h;subst h;exact hd
   ·obtain⟨b,h2,h⟩:=cK h
    injection h with h;subst h
    exact(hd.trans (ih _ _ _ h2)).trans (dN _ _ _)
  ·injection h with h;subst h;exact ha
 | g+1,.part l aF,st,r,h=>by
  have ih:=nK ah depth g;rw[run] at h
  split at h
  ·exact ih _ _ _ h
  ·split at h
   ·exact ih _ _ _ h
   ·exact ih _ _ _ h
 | g+1,.row l aF,st,r,h=>by
  have ih:=nK ah depth g;rw[run] at h;obtain⟨a,h1,h⟩:=cK h;exact(ih _ _ _ h1).trans (ih _ _ _ h)
 | g+1,.loop l aF a,st,r,h=>by
  have ih:=nK ah depth g;rw[run] at h
  split at h
  ·obtain⟨b,h1,h⟩:=cK h
   have hb:=((dD ah st).trans (ih _ _ _ h1)).trans (dN 10 [a,(aD ah st).1,b.1] _)
   split at h
   ·injection h with h;subst h;exact hb
   ·exact hb.trans (ih _ _ _ h)
  ·injection h with h;subst h;exact rG.refl _
 | g+1,.neg aF,st,r,h=>by
  have ih:=nK ah depth g;rw[run] at h
  split at h
  ·have hd:=(dD ah st).trans (wV ah depth (aF+1) _)
   split at h
   ·injection h with h;subst h;exact hd
   ·obtain⟨b,h2,h⟩:=cK h
    injection h with h;subst h
    exact(hd.trans (ih _ _ _ h2)).trans (dN _ _ _)
  ·exact ih _ _ _ h
 | g+1,.factor aF,st,r,h=>by
  have ih:=nK ah depth g;rw[run] at h
  split at h
  ·have hd:=(dD ah st).trans (wV ah depth (aF+1) _)
   split at h
   ·injection h with h;subst h;exact hd
   ·obtain⟨b,h2,h⟩:=cK h
    injection h with h;subst h
    exact(hd.trans (ih _ _ _ h2)).trans (dN _ _ _)
  ·exact ih _ _ _ h
 | g+1,.atom aF,st,r,h=>by
  have ih:=nK ah depth g;rw[run] at h
  split at h
  ·injection h with h;subst h;exact rG.refl _
  split at h
  ·injection h with h;subst h;exact(dD _ _).trans (dN _ _ _)
  split at h
  ·injection h with h;subst h;exact(dD _ _).trans (dN _ _ _)
  split at h
  ·injection h with h;subst h;exact(dD _ _).trans (dN _ _ _)
  split at h
  ·obtain⟨b,h1,h⟩:=cK h
   injection h with h;subst h
   exact(((dD _ _).trans (ih _ _ _ h1)).trans (eB _ _ _)).trans (dN _ _ _)
  split at h
  ·exact ih _ _ _ h
  ·injection h with h;subst h;exact qp _ _ _
 | g+1,.name aF,st,r,h=>by
  have ih:=nK ah depth g;rw[run] at h
  split at h
  ·injection h with h;subst h;exact(dD _ _).trans (dN _ _ _)
  ·obtain⟨l,h1,h⟩:=cK h
   injection h with h;subst h
   exact((((dD _ _).trans (Va _ _)).trans (eB _ _ _)).trans (IQ ah _ (fun s k hk=>ih _ _ _ hk) _ _ h1)).trans ((eB _ _ _).trans (dN _ _ _))
inductive abz where
 | bad (e a:Nat)
 | good (ah:List Tok) (aj:List Nd)
def zN (ah:List Tok):Nat:=20 * ah.length+18
def EA (ah:List Tok)(st:aJ):abz:=if st.fE=0 then .good ah st.aj else .bad st.fE st.fAt
def aez (S:List UInt8)(d:Nat):abz :=
 match bO S with
 | .error x=>.bad x.1 x.2
 | .ok ah=>match acM ah d (zN ah) with
  | none=>.bad 99 0
  | some st=>EA ah st
def Yf (e:CE):PT:=.node 18 [e.pt,.leaf]
theorem Laid.aeA {T:List UInt8}{p:Nat}{l:List Tok}(h:Laid T p l){u:Nat}(hu:u<l.length)(h5:iq l u=5):u+1=l.length:=by
 unfold iq dh at h5;rw[Nat.min_eq_left (by omega),List.getD_eq_getElem?_getD,yV hu] at h5;have:=(h.last u hu).1 h5;omega
theorem Laid.Yg {T:List UInt8}{p:Nat}{l:List Tok}(h:Laid T p l):iE l:=by
 have h0:=h.some;unfold iE dh;rw[Nat.min_eq_right (by omega),List.getD_eq_getElem?_getD,yV (by omega)];exact(h.last _ (by omega)).2 rfl
mutual
theorem J9:∀ (t:PT) (b u:Nat),∀ n∈t.em b u,n.aA.length≤t.nd
 | .leaf,b,u,n,h=>by
  rw[PT.em,List.mem_singleton] at h;subst h
  simp
 | .node k l,b,u,n,h=>by
  rw[PT.em,List.mem_append,List.mem_singleton] at h;rw[PT.nd]
  rcases h with h|h
  ·have:=Nq l b u n h
   omega
  ·subst h
   have:=SY l b;simp only;omega
theorem Nq:∀ (l:List PT) (b u:Nat),∀ n∈za b u l,n.aA.length≤eP l
 | [],b,u,n,h=>by rw[za] at h;cases h
 | t :: l,b,u,n,h=>by
  rw[za,List.mem_append] at h;rw[eP]
  rcases h with h|h
  ·have:=J9 t _ _ n h
   omega
  ·have:=Nq l _ _ n h
   omega
theorem SY:∀ (l:List PT) (b:Nat),(dw b l).length≤eP l
 | [],b=>by simp[dw]
 | t :: l,b=>by
  have:=SY l (b+t.nd);have hp:=t.gZ;rw[dw,eP,dR];omega
end
def Ba:List UInt8:=[112,117,98]
def rX:List UInt8:=[105,109,112,111,114,116]
def Ka:List UInt8:=[102,117,110]
def QH:List UInt8:=[105,110,116]
def zO:List UInt8:=[98,111,111,108]
def kG (ah:List Tok)(st:aJ):Int × aJ:=aH ah [[58]] st
def yI (ah:List Tok)(st:aJ):Int × aJ:=aH ah [QH,zO] (kG ah st).2
def eD (ah:List Tok)(st:aJ):Int × aJ:=bJ 5 [(yI ah st).1] (yI ah st).2
def kH (st:aJ)(c:Bool):aJ:={ st with aC:=c }
def jJ (ah:List Tok)(d g:Nat)(st:aJ):Option (Int × aJ) :=
 (run ah d g (.expr 1) (kH (aD ah st).2 true)).bind fun f =>
  some (bJ 6 [(aD ah st).1,f.1,(aH ah [[125]] (kH f.2 st.aC)).1] (aH ah [[125]] (kH f.2 st.aC)).2)
def iB (ah:List Tok)(d g:Nat)(aA:List Int)(st:aJ):Option (List Int × aJ) :=
 if (eD ah st).2.fE=0∧bF ah (eD ah st).2 [[123]]=true then
  (jJ ah d g (eD ah st).2).bind fun n=>some (aA++[(kG ah st).1,(eD ah st).1,n.1],n.2)
 else some (aA++[(kG ah st).1,(eD ah st).1],(eD ah st).2)
def jy (ah:List Tok)(d g:Nat)(st:aJ):Option (Int × aJ) :=
 (iB ah d g [(bA ah 1 st).1] (bA ah 1 st).2).bind fun l=>some (bJ 4 l.1 l.2)
def oN (ah:List Tok)(st:aJ):Int × aJ :=
 bJ 2 [(aD ah st).1,(bA ah 1 (aD ah st).2).1,(aH ah [[59]] (bA ah 1 (aD ah st).2).2).1] (aH ah [[59]] (bA ah 1 (aD ah st).2).2).2
def oF (ah:List Tok)(st:aJ):List Int × aJ:=if bF ah st [Ba]=true then ([(aD ah st).1],(aD ah st).2) else ([],st)
def sw (ah:List Tok)(st:aJ):Int × aJ:=aH ah [Ka] (oF ah st).2
def kZ (ah:List Tok)(st:aJ):Int × aJ:=bA ah 1 (sw ah st).2
def jA (ah:List Tok)(st:aJ):Int × aJ:=aH ah [[40]] (kZ ah st).2
def xG (ah:List Tok)(d g:Nat)(st:aJ):Option (Int × aJ) :=
 (jP ah (jy ah d g) (jA ah st).2).bind fun l =>
  (iB ah d g ((oF ah st).1++[(sw ah st).1,(kZ ah st).1,(jA ah st).1]++l.1++[(aH ah [[41]] l.2).1]) (aH ah [[41]] l.2).2).bind fun t =>
   (run ah d g (.expr 1) (aH ah [[61]] t.2).2).bind fun f =>
    some (bJ 3 (t.1++[(aH ah [[61]] t.2).1,f.1,(aH ah [[59]] f.2).1]) (aH ah [[59]] f.2).2)
def jK (ah:List Tok)(one:aJ→Option (Int × aJ))(first:List (List UInt8)):Nat→List Int→aJ→Option (List Int × aJ)
 | 0,aA,st=>some (aA,if st.fE=0∧bF ah st first=true then gU ah 15 st else st)
 | r+1,aA,st=>if st.fE=0∧bF ah st first=true then (one st).bind fun k=>jK ah one first r (aA++[k.1]) k.2 else some (aA,st)
def qg (ah:List Tok)(d g:Nat)(st:aJ):Option (Int × aJ) :=
 (jK ah (fun s=>some (oN ah s)) [rX] 16 [] st).bind fun a =>
  (jK ah (xG ah d g) [Ba,Ka] 64 [] a.2).bind fun b =>
   some (bJ 1 (a.1++b.1++[(bA ah 5 b.2).1]) (bA ah 5 b.2).2)
def je (S:List UInt8)(d:Nat):abz :=
 match bO S with
 | .error x=>.bad x.1 x.2
 | .ok ah=>match qg ah d (zN ah) ku with
  | none=>.bad 99 0
  | some a=>EA ah a.2
theorem Bb (ah:List Tok)(st:aJ):dP st (eD ah st).2:=((aM _ _ _).trans (aM _ _ _)).trans (aL _ _ _)
theorem Cj {ah:List Tok}{d g:Nat}{st:aJ}{r:Int × aJ}(h:jJ ah d g st=some r):dP st r.2:=by
 unfold jJ at h;obtain⟨f,h1,h⟩:=cK h;obtain rfl:=kR h;have e1:=aO ah st;have e2:=bg ah d g _ _ _ h1
 have e3:dP st (kH f.2 st.aC):=⟨jc e1.1 e2.1,fun q=>by
  have q1:=e1.2.1 q;have q2:=e2.2.1 (show (aD ah st).2.fE≠0 by rw[q1];exact q)
  exact q2.trans q1,rfl,jc e1.2.2.2 e2.2.2.2⟩
 exact(e3.trans (aM _ _ _)).trans (aL _ _ _)
theorem jL {ah:List Tok}{d g:Nat}{aA:List Int}{st:aJ}{r:List Int × aJ}(h:iB ah d g aA st=some r):dP st r.2:=by
 unfold iB at h
 split at h
 ·obtain⟨n,h1,h⟩:=cK h
  obtain rfl:=kR h;exact(Bb _ _).trans (Cj h1)
 ·injection h with h;subst h
  exact Bb _ _
theorem kI {ah:List Tok}{d g:Nat}(st:aJ)(r:Int × aJ)(h:jy ah d g st=some r):dP st r.2:=by
 unfold jy at h;obtain⟨l,h1,h⟩:=cK h;obtain rfl:=kR h;exact((fA _ _ _).trans (jL h1)).trans (aL _ _ _)
theorem Nr (ah:List Tok)(st:aJ):dP st (oN ah st).2:=(((aO _ _).trans (fA _ _ _)).trans (aM _ _ _)).trans (aL _ _ _)
theorem Ns (ah:List Tok)(st:aJ):dP st (oF ah st).2:=by
 unfold oF
 split
 ·exact aO _ _
 ·exact dP.refl _
theorem EB (ah:List Tok)(st:aJ):dP st (jA ah st).2:=(((Ns _ _).trans (aM _ _ _)).trans (fA _ _ _)).trans (aM _ _ _)
theorem vX {ah:List Tok}{d g:Nat}(st:aJ)(r:Int × aJ)(h:xG ah d g st=some r):dP st r.2:=by
 unfold xG at h;obtain⟨l,h1,h⟩:=cK h;obtain⟨t,h2,h⟩:=cK h;obtain⟨f,h3,h⟩:=cK h;obtain rfl:=kR h;exact((((((EB _ _).trans (mE ah _ kI _ _ h1)).trans (aM _ _ _)).trans (jL h2)).trans (aM _ _ _)).trans (bg _ _ _ _ _ _ h3)).trans ((aM _ _ _).trans (aL _ _ _))
theorem pE {ah:List Tok}{one:aJ→Option (Int × aJ)}{first:List (List UInt8)}(h1:∀ s k,one s=some k→dP s k.2):∀ (r:Nat) (aA:List Int) (st:aJ) (l:List Int × aJ),jK ah one first r aA st=some l→dP st l.2
 | 0,aA,st,l,h=>by
  rw[jK] at h;obtain rfl:=kR h;show dP st (if _ then _ else _)
  split
  ·exact qm _ _ _
  ·exact dP.refl _
 | r+1,aA,st,l,h=>by
  rw[jK] at h
  split at h
  ·obtain⟨k,hk,h⟩:=cK h
   exact(h1 _ _ hk).trans (pE h1 r _ _ _ h)
  ·injection h with h;subst h
   exact dP.refl _
theorem vY (ah:List Tok)(s:aJ)(k:Int × aJ)(h:(fun s=>some (oN ah s)) s=some k):dP s k.2:=by
 obtain rfl:=kR h;exact Nr _ _
theorem Nt {ah:List Tok}{d g:Nat}{st:aJ}{r:Int × aJ}(h:jJ ah d g st=some r):rG ah st r.2:=by
 unfold jJ at h;obtain⟨f,h1,h⟩:=cK h;obtain rfl:=kR h;have e2:=nK ah d g _ _ _ h1
 have e3:rG ah st (kH f.2 st.aC):=fun q=>e2 (dD ah st q)
 exact(e3.trans (eB _ _ _)).trans (dN _ _ _)
theorem EC {ah:List Tok}{d g:Nat}{aA:List Int}{st:aJ}{r:List Int × aJ}(h:iB ah d g aA st=some r):rG ah st r.2:=by
 have hb:rG ah st (eD ah st).2:=((eB _ _ _).trans (eB _ _ _)).trans (dN _ _ _);unfold iB at h
 split at h
 ·obtain⟨n,h1,h⟩:=cK h
  obtain rfl:=kR h;exact hb.trans (Nt h1)
 ·injection h with h;subst h
  exact hb
theorem QI {ah:List Tok}{d g:Nat}(st:aJ)(r:Int × aJ)(h:jy ah d g st=some r):rG ah st r.2:=by
 unfold jy at h;obtain⟨l,h1,h⟩:=cK h;obtain rfl:=kR h;exact((qw _ _ _).trans (EC h1)).trans (dN _ _ _)
theorem Nu (ah:List Tok)(s:aJ)(k:Int × aJ)(h:(fun s=>some (oN ah s)) s=some k):rG ah s k.2:=by
 obtain rfl:=kR h;exact(((dD _ _).trans (qw _ _ _)).trans (eB _ _ _)).trans (dN _ _ _)
theorem QJ (ah:List Tok)(st:aJ):rG ah st (jA ah st).2:=by
 have hp:rG ah st (oF ah st).2:=by
  unfold oF
  split
  ·exact dD _ _
  ·exact rG.refl _
 exact((hp.trans (eB _ _ _)).trans (qw _ _ _)).trans (eB _ _ _)
theorem Yh {ah:List Tok}{d g:Nat}(st:aJ)(r:Int × aJ)(h:xG ah d g st=some r):rG ah st r.2:=by
 unfold xG at h;obtain⟨l,h1,h⟩:=cK h;obtain⟨t,h2,h⟩:=cK h;obtain⟨f,h3,h⟩:=cK h;obtain rfl:=kR h;exact((((((QJ _ _).trans (IQ ah _ QI _ _ h1)).trans (eB _ _ _)).trans (EC h2)).trans (eB _ _ _)).trans (nK _ _ _ _ _ _ h3)).trans ((eB _ _ _).trans (dN _ _ _))
theorem ED {ah:List Tok}{one:aJ→Option (Int × aJ)}{first:List (List UInt8)}(h1:∀ s k,one s=some k→rG ah s k.2):∀ (r:Nat) (aA:List Int) (st:aJ) (l:List Int × aJ),jK ah one first r aA st=some l→rG ah st l.2
 | 0,aA,st,l,h=>by
  rw[jK] at h;obtain rfl:=kR h;show rG ah st (if _ then _ else _)
  split
  ·exact qp _ _ _
  ·exact rG.refl _
 | r+1,aA,st,l,h=>by
  rw[jK] at h
  split at h
  ·obtain⟨k,hk,h⟩:=cK h
   exact(h1 _ _ hk).trans (ED h1 r _ _ _ h)
  ·injection h with h;subst h
   exact rG.refl _
theorem IU {ah:List Tok}{d g:Nat}{st:aJ}{r:Int × aJ}(h:qg ah d g st=some r):rG ah st r.2:=by
 unfold qg at h;obtain⟨a,h1,h⟩:=cK h;obtain⟨b,h2,h⟩:=cK h;obtain rfl:=kR h;exact(((ED (Nu ah) _ _ _ _ h1).trans (ED Yh _ _ _ _ h2)).trans (qw _ _ _)).trans (dN _ _ _)
theorem EF {ah:List Tok}{d d' g:Nat}(hdd:d≤d'){st:aJ}{r:Int × aJ}(h:jJ ah d g st=some r)(hr:r.2.fE=0):jJ ah d' g st=some r:=by
 unfold jJ at h ⊢;obtain⟨f,h1,h⟩:=cK h;obtain rfl:=kR h;have h0:(kH f.2 st.aC).fE=0:=((aM _ _ _).trans (aL _ _ _)).zero hr;rw[iw ah d d' hdd g _ _ _ h1 h0,Option.bind_some]
theorem xK {ah:List Tok}{d d' g:Nat}(hdd:d≤d'){aA:List Int}{st:aJ}{r:List Int × aJ}(h:iB ah d g aA st=some r)(hr:r.2.fE=0):iB ah d' g aA st=some r:=by
 unfold iB at h ⊢
 split at h
 ·rename_i hc
  rw[if_pos hc];obtain⟨n,h1,h⟩:=cK h;obtain rfl:=kR h;rw[EF hdd h1 hr,Option.bind_some]
 ·rename_i hc
  rw[if_neg hc];exact h
theorem G8 {ah:List Tok}{d d' g:Nat}(hdd:d≤d')(st:aJ)(r:Int × aJ)(h:jy ah d g st=some r)(hr:r.2.fE=0):jy ah d' g st=some r:=by
 unfold jy at h ⊢;obtain⟨l,h1,h⟩:=cK h;obtain rfl:=kR h;rw[xK hdd h1 ((aL _ _ _).zero hr),Option.bind_some]
theorem Nv {ah:List Tok}{d d' g:Nat}(hdd:d≤d')(st:aJ)(r:Int × aJ)(h:xG ah d g st=some r)(hr:r.2.fE=0):xG ah d' g st=some r:=by
 unfold xG at h ⊢;obtain⟨l,h1,h⟩:=cK h;obtain⟨t,h2,h⟩:=cK h;obtain⟨f,h3,h⟩:=cK h;obtain rfl:=kR h;have z3:f.2.fE=0:=((aM _ _ _).trans (aL _ _ _)).zero hr;have z2:t.2.fE=0:=((aM _ _ _).trans (bg _ _ _ _ _ _ h3)).zero z3;have z1:l.2.fE=0:=((aM _ _ _).trans (jL h2)).zero z2;rw[zA ah _ _ kI (G8 hdd) _ _ h1 z1,Option.bind_some,xK hdd h2 z2,Option.bind_some,iw ah d d' hdd g _ _ _ h3 z3,Option.bind_some]
theorem Ck {ah:List Tok}{one one':aJ→Option (Int × aJ)}{first:List (List UInt8)}(h1:∀ s k,one s=some k→dP s k.2)(h2:∀ s k,one s=some k→k.2.fE=0→one' s=some k):∀ (r:Nat) (aA:List Int) (st:aJ) (l:List Int × aJ),jK ah one first r aA st=some l→l.2.fE=0→jK ah one' first r aA st=some l
 | 0,aA,st,l,h,_=>by rw[jK] at h ⊢;exact h
 | r+1,aA,st,l,h,hl=>by
  rw[jK] at h ⊢
  split at h
  ·rename_i hc
   rw[if_pos hc];obtain⟨k,hk,h⟩:=cK h;rw[h2 _ _ hk ((pE h1 r _ _ _ h).zero hl),Option.bind_some];exact Ck h1 h2 r _ _ _ h hl
  ·rename_i hc
   rw[if_neg hc];exact h
theorem Kc {ah:List Tok}{d d' g:Nat}(hdd:d≤d'){st:aJ}{r:Int × aJ}(h:qg ah d g st=some r)(hr:r.2.fE=0):qg ah d' g st=some r:=by
 unfold qg at h ⊢;obtain⟨a,h1,h⟩:=cK h;obtain⟨b,h2,h⟩:=cK h;obtain rfl:=kR h;have z2:b.2.fE=0:=((fA _ _ _).trans (aL _ _ _)).zero hr;rw[h1,Option.bind_some,Ck vX (Nv hdd) _ _ _ _ h2 z2,Option.bind_some]
theorem EG {ah:List Tok}(hE:iE ah)(d:Nat)(st:aJ):∃ f,run ah d (zN ah) (.expr 1) st=some f :=
 jT ah d hE (zN ah) (.expr 1) st trivial (by simp only[fI,jQ,zN];omega)
theorem G9 {ah:List Tok}(hE:iE ah)(d:Nat)(st:aJ):∃ r,jJ ah d (zN ah) st=some r:=by
 obtain⟨f,hf⟩:=EG hE d (kH (aD ah st).2 true);unfold jJ;rw[hf];exact⟨_,rfl⟩
theorem zP {ah:List Tok}(hE:iE ah)(d:Nat)(aA:List Int)(st:aJ):∃ r,iB ah d (zN ah) aA st=some r:=by
 unfold iB
 split
 ·obtain⟨n,hn⟩:=G9 hE d (eD ah st).2
  rw[hn];exact⟨_,rfl⟩
 ·exact⟨_,rfl⟩
theorem Ke {ah:List Tok}(hE:iE ah)(d:Nat)(st:aJ):∃ r,jy ah d (zN ah) st=some r:=by
 obtain⟨l,hl⟩:=zP hE d [(bA ah 1 st).1] (bA ah 1 st).2;unfold jy;rw[hl];exact⟨_,rfl⟩
theorem QK {ah:List Tok}(hE:iE ah)(d:Nat)(st:aJ):∃ r,xG ah d (zN ah) st=some r:=by
 have h1:∃ l,jP ah (jy ah d (zN ah)) (jA ah st).2=some l:=by
  unfold jP
  split
  ·exact⟨_,rfl⟩
  ·exact qC ah _ 0 (fun s _=>by
    obtain⟨k,hk⟩:=Ke hE d s
    exact⟨k,hk,kI _ _ hk⟩) _ _ _ (.inl (lI _))
 obtain⟨l,h1⟩:=h1;unfold xG;rw[h1,Option.bind_some];obtain⟨t,h2⟩:=zP hE d ((oF ah st).1++[(sw ah st).1,(kZ ah st).1,(jA ah st).1]++l.1++[(aH ah [[41]] l.2).1]) (aH ah [[41]] l.2).2;rw[h2,Option.bind_some];obtain⟨f,h3⟩:=EG hE d (aH ah [[61]] t.2).2;rw[h3,Option.bind_some];exact⟨_,rfl⟩
theorem yJ {ah:List Tok}{one:aJ→Option (Int × aJ)}{first:List (List UInt8)}(h1:∀ s,∃ k,one s=some k):∀ (r:Nat) (aA:List Int) (st:aJ),∃ l,jK ah one first r aA st=some l
 | 0,aA,st=>⟨_,rfl⟩
 | r+1,aA,st=>by
  rw[jK]
  split
  ·obtain⟨k,hk⟩:=h1 st
   rw[hk,Option.bind_some];exact yJ h1 r _ _
  ·exact⟨_,rfl⟩
theorem Cm {ah:List Tok}(hE:iE ah)(d:Nat)(st:aJ):∃ r,qg ah d (zN ah) st=some r:=by
 obtain⟨a,h1⟩:=yJ (ah:=ah) (one:=fun s=>some (oN ah s)) (first:=[rX]) (fun s=>⟨_,rfl⟩) 16 [] st;obtain⟨b,h2⟩:=yJ (ah:=ah) (first:=[Ba,Ka]) (QK hE d) 64 [] a.2;unfold qg;rw[h1,Option.bind_some,h2,Option.bind_some];exact⟨_,rfl⟩
theorem Nw {k:Int}{l:List Int}{st:aJ}(h:st.fE≠0):(bJ k l st).2=st:=by
 unfold bJ;rw[if_neg h]
theorem IV {ah:List Tok}{k:Int}{l:List Int}{ts:List (List UInt8)}{st s3:aJ}(h:mR (aH ah ts st).2 s3)(he:dP (aH ah ts st).2 s3)(hm:(aH ah ts st).1∈l):mR st (bJ k l s3).2:=by
 unfold aH at h he hm
 split at h
 ·rename_i hc
  rw[if_pos hc] at he hm;exact gu ah k l st s3 h hm
 ·rename_i hc
  rw[if_neg hc] at he;have hf:=he.2.1 (ny (by decide) st);have h0:(gU ah 22 st).fE≠0:=ny (by decide) st;rw[Nw (by rw[hf];exact h0)];exact(mJ _ _ _).trans h
theorem IW {ah:List Tok}{k:Int}{l:List Int}{c:Nat}{st s3:aJ}(h:mR (bA ah c st).2 s3)(he:dP (bA ah c st).2 s3)(hm:(bA ah c st).1∈l):mR st (bJ k l s3).2:=by
 unfold bA at h he hm
 split at h
 ·rename_i hc
  rw[if_pos hc] at he hm;exact gu ah k l st s3 h hm
 ·rename_i hc
  rw[if_neg hc] at he;have hf:=he.2.1 (ny (by decide) st);have h0:(gU ah 22 st).fE≠0:=ny (by decide) st;rw[Nw (by rw[hf];exact h0)];exact(mJ _ _ _).trans h
theorem IX (ah:List Tok)(st:aJ):mR st (eD ah st).2 :=
 (fO _ _ _).trans (IV (mR.refl _) (dP.refl _) (List.mem_singleton.2 rfl))
theorem Ny {ah:List Tok}{d g:Nat}{st:aJ}{r:Int × aJ}(h:jJ ah d g st=some r):mR st r.2:=by
 unfold jJ at h;obtain⟨f,h1,h⟩:=cK h;obtain rfl:=kR h;have e2:mR (kH (aD ah st).2 true) f.2:=nJ ah d g _ _ _ h1;have e3:mR (aD ah st).2 (kH f.2 st.aC):=e2;exact gu ah 6 _ st _ (e3.trans (fO _ _ _)) vB
theorem EH {ah:List Tok}{d g:Nat}{aA:List Int}{st:aJ}{r:List Int × aJ}(h:iB ah d g aA st=some r):mR st r.2∧∀ k∈aA,k∈r.1:=by
 unfold iB at h
 split at h
 ·obtain⟨n,h1,h⟩:=cK h
  obtain rfl:=kR h;exact⟨(IX _ _).trans (Ny h1),fun k hk=>List.mem_append_left _ hk⟩
 ·obtain rfl:=kR h
  exact⟨IX _ _,fun k hk=>List.mem_append_left _ hk⟩
theorem QL {ah:List Tok}{d g:Nat}(st:aJ)(r:Int × aJ)(h:jy ah d g st=some r):mR st r.2:=by
 unfold jy at h;obtain⟨l,h1,h⟩:=cK h;obtain rfl:=kR h;obtain⟨h2,h3⟩:=EH h1;exact IW h2 (jL h1) (h3 _ vB)
theorem Nz (ah:List Tok)(s:aJ)(k:Int × aJ)(h:(fun s=>some (oN ah s)) s=some k):mR s k.2:=by
 obtain rfl:=kR h;exact gu ah 2 _ s _ ((wU _ _ _).trans (fO _ _ _)) vB
theorem Yi {ah:List Tok}{d g:Nat}(st:aJ)(r:Int × aJ)(h:xG ah d g st=some r):mR st r.2:=by
 unfold xG at h;obtain⟨l,h1,h⟩:=cK h;obtain⟨t,h2,h⟩:=cK h;obtain⟨f,h3,h⟩:=cK h;obtain rfl:=kR h
 have hp:mR st (oF ah st).2:=by
  unfold oF
  split
  ·exact mK _ _
  ·exact mR.refl _
 obtain⟨t1,t2⟩:=EH h2;have e1:mR (sw ah st).2 (aH ah [[59]] f.2).2:=(((((((wU _ _ _).trans (fO _ _ _)).trans (IL ah _ QL _ _ h1)).trans (fO _ _ _)).trans t1).trans (fO _ _ _)).trans (nJ _ _ _ _ _ _ h3)).trans (fO _ _ _);have e2:dP (sw ah st).2 (aH ah [[59]] f.2).2:=(((((((fA _ _ _).trans (aM _ _ _)).trans (mE ah _ kI _ _ h1)).trans (aM _ _ _)).trans (jL h2)).trans (aM _ _ _)).trans (bg _ _ _ _ _ _ h3)).trans (aM _ _ _);exact hp.trans (IV e1 e2 (List.mem_append_left _ (t2 _ (by show (sw ah st).1∈_;simp))))
theorem EI {ah:List Tok}{one:aJ→Option (Int × aJ)}{first:List (List UInt8)}(h1:∀ s k,one s=some k→mR s k.2):∀ (r:Nat) (aA:List Int) (st:aJ) (l:List Int × aJ),jK ah one first r aA st=some l→mR st l.2
 | 0,aA,st,l,h=>by
  rw[jK] at h;obtain rfl:=kR h;show mR st (if _ then _ else _)
  split
  ·exact mJ _ _ _
  ·exact mR.refl _
 | r+1,aA,st,l,h=>by
  rw[jK] at h
  split at h
  ·obtain⟨k,hk,h⟩:=cK h
   exact(h1 _ _ hk).trans (EI h1 r _ _ _ h)
  ·obtain rfl:=kR h
   exact mR.refl _
theorem IY {ah:List Tok}{d g:Nat}{st:aJ}{r:Int × aJ}(h:qg ah d g st=some r):mR st r.2:=by
 unfold qg at h;obtain⟨a,h1,h⟩:=cK h;obtain⟨b,h2,h⟩:=cK h;obtain rfl:=kR h;exact((EI (Nz ah) _ _ _ _ h1).trans (EI Yi _ _ _ _ h2)).trans (IW (mR.refl _) (dP.refl _) (by simp))
theorem EJ {ah:List Tok}{one:aJ→Option (Int × aJ)}{first:List (List UInt8)}:∀ (r:Nat) (aA:List Int) (st:aJ) (l:List Int × aJ),jK ah one first r aA st=some l→l.1.length≤aA.length+r
 | 0,aA,st,l,h=>by
  rw[jK] at h;obtain rfl:=kR h;exact bD _
 | r+1,aA,st,l,h=>by
  rw[jK] at h
  split at h
  ·obtain⟨k,hk,h⟩:=cK h
   have:=EJ r _ _ _ h;rw[bN,List.length_singleton] at this;omega
  ·obtain rfl:=kR h
   exact Nat.le_add_right _ _
def QM (ah:List Tok)(st:aJ)(r:Int × aJ)(t:PT):Prop:=fD st [t] r.2∧r.1=((st.aj.length+t.nd:Nat):Int) - 1∧(st.used<ah.length→r.2.used<ah.length)
theorem WU.p {ah:List Tok}{st:aJ}{r:Int × aJ}{e:CE}(h:WU ah st r e):QM ah st r e.pt:=⟨h.1,h.2.1,h.2.2.2⟩
theorem fD.Yj {ah:List Tok}{a b:aJ}{l:List PT}{k:Nat}{ids:List Int}(h:fD a l b)(acN:ids=dw a.aj.length l)(hf:(bJ k ids b).2.fE=0)(hu:a.used<ah.length→b.used<ah.length):QM ah a (bJ k ids b) (.node k l):=by
 subst acN;obtain⟨h1,h2⟩:=h.node (rT hf) k;refine⟨h1,by rw[h2,PT.nd];omega,fun q=>?_⟩;have h3:=h1.used;have h4:=h.used;have h5:=hu q;rw[h3];rw[h4] at h5
 simpa [bU,PT.lv] using h5
def IG (a:aJ)(ids:List Int)(l:List PT)(b:aJ):Prop:=fD a l b∧ids=dw a.aj.length l
theorem IG.append {a b c:aJ}{i j:List Int}{l k:List PT}(h:IG a i l b)(h2:IG b j k c):IG a (i++j) (l++k) c :=
 ⟨h.1.append h2.1,by rw[h.2,h2.2,oV,h.1.len]⟩
theorem IG.leaf {a b:aJ}{x:Int}(h:fD a [.leaf] b)(hx:x=((a.aj.length:Nat):Int)):IG a [x] [.leaf] b:=⟨h,by simp[dw,PT.nd,hx]⟩
theorem IG.res {a b:aJ}{t:PT}{x:Int}(h:fD a [t] b)(hx:x=((a.aj.length+t.nd:Nat):Int) - 1):IG a [x] [t] b:=⟨h,by simp[dw,hx]⟩
theorem IG.nil (a:aJ):IG a [] [] a:=⟨fD.nil a,rfl⟩
def kJ:List PT→List PT
 | []=>[]
 | t :: l=>t :: (match l with | []=>[]|_ :: _=>.leaf :: kJ l)
theorem wW (t:PT):kJ [t]=[t]:=by rw[kJ]
theorem tu (t s:PT)(l:List PT):kJ (t :: s :: l)=t :: .leaf :: kJ (s :: l):=by rw[kJ]
structure gB where
 cl:Option CE
def gB.pts (t:gB):List PT:=[.leaf,.node 5 [.leaf]]++(match t.cl with|none=>[]|some e=>[.node 6 [.leaf,e.pt,.leaf]])
def gB.ok (ah:List Tok)(u:Nat)(t:gB):Prop:=aN ah (u+1)∈[QH,zO]∧(match t.cl with|none=>True|some e=>e.ok ah true (u+3))
def gB.par (t:gB):PT:=.node 4 (.leaf :: t.pts)
def gB.NA (ah:List Tok)(u:Nat)(t:gB):Prop:=iq ah u=1∧t.ok ah (u+1)
def yK (ah:List Tok)(u:Nat):List gB→Prop
 | []=>True
 | t :: l=>t.NA ah u∧yK ah (u+t.par.lv+1) l
structure dU where
 pub:Bool
 lg:List gB
 ty:gB
 body:CE
def dU.lead (d:dU):List PT:=if d.pub=true then [.leaf] else []
def dU.aA (d:dU):List PT:=d.lead++([.leaf,.leaf,.leaf]++(kJ (d.lg.map gB.par)++([.leaf]++(d.ty.pts++[.leaf,d.body.pt,.leaf]))))
def dU.pt (d:dU):PT:=.node 3 d.aA
def dU.EL (u:Nat)(d:dU):Nat:=u+bU d.lead
def dU.at2 (u:Nat)(d:dU):Nat:=d.EL u+3+bU (kJ (d.lg.map gB.par))+1
def dU.at3 (u:Nat)(d:dU):Nat:=d.at2 u+bU d.ty.pts+1
def dU.ok (ah:List Tok)(u:Nat)(d:dU):Prop :=
 (d.pub=true→aN ah u=Ba)∧aN ah (d.EL u)=Ka∧iq ah (d.EL u+1)=1∧d.lg.length≤8∧yK ah (d.EL u+3) d.lg∧d.ty.ok ah (d.at2 u)∧d.body.ok ah false (d.at3 u)
def gB.marks (ah:List Tok)(u:Nat)(t:gB):Prop:=t.cl≠none→aN ah (u+2)=[123]
def tC (ah:List Tok)(u:Nat):List gB→Prop
 | []=>True
 | t :: l=>t.marks ah (u+1)∧(l≠[]→aN ah (u+t.par.lv)=[44])∧tC ah (u+t.par.lv+1) l
def dU.marks (ah:List Tok)(u:Nat)(d:dU):Prop:=tC ah (d.EL u+3) d.lg∧aN ah (d.at2 u - 1)=[41]∧d.ty.marks ah (d.at2 u)
def Bc (ah:List Tok)(u:Nat):List dU→Prop
 | []=>True
 | d :: l=>d.marks ah u∧Bc ah (u+d.pt.lv) l
def vZ:PT:=.node 2 [.leaf,.leaf,.leaf]
def Bd (ah:List Tok)(u:Nat):List dU→Prop
 | []=>True
 | d :: l=>d.ok ah u∧Bd ah (u+d.pt.lv) l
def QN (ah:List Tok)(u:Nat):Nat→Prop
 | 0=>True
 | n+1=>aN ah u=rX∧iq ah (u+1)=1∧QN ah (u+3) n
structure kW where
 imps:Nat
 defs:List dU
def kW.aA (p:kW):List PT:=List.replicate p.imps vZ++(p.defs.map dU.pt++[.leaf])
def kW.pt (p:kW):PT:=.node 1 p.aA
def kW.marks (ah:List Tok)(p:kW):Prop:=Bc ah (3 * p.imps) p.defs
def kW.ok (ah:List Tok)(p:kW):Prop:=p.imps≤16∧p.defs.length≤64∧QN ah 0 p.imps∧Bd ah (3 * p.imps) p.defs
theorem Vb {a b:aJ}{l:List PT}{c:Bool}(h:fD (kH a c) l b):fD a l (kH b a.aC):=by
 rw[fD] at h ⊢;rw[h]
 rfl
theorem Ta {ah:List Tok}(hE:iE ah){st:aJ}(h:(eD ah st).2.fE=0) :
  fD st [.leaf,.node 5 [.leaf]] (eD ah st).2∧[(kG ah st).1,(eD ah st).1]=dw st.aj.length [.leaf,.node 5 [.leaf]]∧aN ah (st.used+1)∈[QH,zO]∧(st.used<ah.length→(eD ah st).2.used<ah.length):=by
 have h2:=rT h;obtain⟨b1,b2,b3,b4,b5⟩:=iO hE h2;obtain⟨a1,a2,a3,a4,a5⟩:=iO hE b5;have hr:=b1.Yj (k:=5) (ah:=ah) (ids:=[(yI ah st).1]) (by rw[show (yI ah st).1=_ from b2];simp[dw,PT.nd]) h (fun _=>by have:=b1.used;simp only[bU,PT.lv] at this;omega);obtain⟨r1,r2,r3⟩:=hr;have u1:=a1.used;have n1:=a1.len;simp only[bU,PT.lv,eP,PT.nd] at u1 n1;refine⟨a1.append r1,?_,by rw[show st.used+1=(kG ah st).2.used from by rw[show (kG ah st).2.used=_ from u1]];exact b3,fun _=>r3 (by show (aH ah [[58]] st).2.used<_;omega)⟩;rw[show (eD ah st).1=_ from r2,show (kG ah st).1=_ from a2];simp only[dw,PT.nd,eP];rw[show (kG ah st).2.aj.length=_ from n1]
 congr 1
 ·omega
theorem NC (b:Nat)(l k:List PT):dw b (l++k)=dw b l++dw (b+eP l) k:=oV b l k
theorem Vd {ah:List Tok}(hE:iE ah){d g:Nat}{st:aJ}{r:Int × aJ}(h:jJ ah d g st=some r)(hr:r.2.fE=0)(hn:bF ah st [[123]]=true) :
  ∃ e:CE,QM ah st r (.node 6 [.leaf,e.pt,.leaf])∧e.ok ah true (st.used+1):=by
 unfold jJ at h;obtain⟨f,h1,h⟩:=cK h;obtain rfl:=kR h;have z1:=rT hr;obtain⟨m1,m2,m3,m4,m5⟩:=iO hE z1;obtain⟨l1,l2,l3⟩:=ji hE (bK hn);obtain⟨e,e1,e2,e3,e4⟩:=kD ah hE d g _ _ _ h1 m5;have l4:=l1.used;have l5:=l1.len;simp only[bU,PT.lv,eP,PT.nd] at l4 l5
 have hg2:fD (aD ah st).2 [e.pt] (kH f.2 st.aC):=by
  have:=Vb e1;rw[l1.aC] at this;exact this
 have hg:=(l1.append hg2).append m1;have n2:=hg2.len;have u2:=hg2.used;have hu:=m1.used;simp only[bU,PT.lv,eP] at n2 u2 hu;refine⟨e,hg.Yj (k:=6) ?_ hr (fun _=>by omega),?_⟩
 ·rw[m2,e2,l2,n2]
  simp only[dw,PT.nd,jN,qc]
  show [_,_,_]=[_,_,_]
  have:(kH (aD ah st).2 true).aj.length=st.aj.length+1:=l5;rw[this]
  congr 1
  ·omega
  ·congr 1
   congr 1
   omega
 ·have h3:e.ok ah (kH (aD ah st).2 true).aC (kH (aD ah st).2 true).used:=e3
  have:(kH (aD ah st).2 true).used=st.used+1:=l4;rw[this] at h3;exact h3
theorem ND {ah:List Tok}(hE:iE ah){d g:Nat}{aA:List Int}{st:aJ}{r:List Int × aJ}(h:iB ah d g aA st=some r)(hr:r.2.fE=0) :
  ∃ t:gB,fD st t.pts r.2∧r.1=aA++dw st.aj.length t.pts∧t.ok ah st.used∧(st.used<ah.length→r.2.used<ah.length)∧t.marks ah st.used:=by
 unfold iB at h
 split at h
 ·rename_i hc
  obtain⟨n,h1,h⟩:=cK h;obtain rfl:=kR h;obtain⟨b1,b2,b3,b4⟩:=Ta hE hc.1;obtain⟨e,⟨e1,e2,e3⟩,e4⟩:=Vd hE h1 hr hc.2;have u1:=b1.used;have n1:=b1.len;simp only[bU,PT.lv,eP,PT.nd] at u1 n1;refine⟨⟨some e⟩,b1.append e1,?_,⟨b3,by rw[u1] at e4;exact e4⟩,fun q=>e3 (b4 q),fun _=>by have h8:=iJ hc.2;rw[u1] at h8;simpa using h8⟩;show _=aA++dw _ ([.leaf,.node 5 [.leaf]]++[.node 6 [.leaf,e.pt,.leaf]]);rw[NC,← b2,e2,n1];simp only[dw,PT.nd,eP]
  congr 1
 ·obtain rfl:=kR h
  obtain⟨b1,b2,b3,b4⟩:=Ta hE hr;refine⟨⟨none⟩,by simpa [gB.pts] using b1,?_,⟨b3,trivial⟩,b4,fun q=>absurd rfl q⟩;show _=aA++dw _ ([.leaf,.node 5 [.leaf]]++[]);rw[List.append_nil,← b2]
theorem NG {ah:List Tok}(hE:iE ah){d g:Nat}(st:aJ)(r:Int × aJ)(h:jy ah d g st=some r)(hr:r.2.fE=0):∃ t:gB,QM ah st r t.par∧t.NA ah st.used∧t.marks ah (st.used+1):=by
 unfold jy at h;obtain⟨l,h1,h⟩:=cK h;obtain rfl:=kR h;have z1:=rT hr;obtain⟨t,t1,t2,t3,t4,t5⟩:=ND hE h1 z1;obtain⟨k1,k2,k3,k4,k5⟩:=zn hE (by decide) ((jL h1).zero z1);have u1:=k1.used;have n1:=k1.len;simp only[bU,PT.lv,eP,PT.nd] at u1 n1;refine⟨t,(k1.append t1).Yj (k:=4) ?_ hr (fun _=>t4 (by omega)),⟨k3,by rw[u1] at t3;exact t3⟩,by rw[u1] at t5;exact t5⟩;rw[t2,k2,n1,NC];simp[dw,PT.nd,eP]
theorem IZ {ah:List Tok}(hE:iE ah){d g:Nat}:∀ (r:Nat) (aA:List Int) (st:aJ) (l:List Int × aJ),bC ah (jy ah d g) r aA st=some l→l.2.fE=0 →
  ∃ es:List gB,es≠[]∧es.length≤r∧fD st (kJ (es.map gB.par)) l.2∧l.1=aA++dw st.aj.length (kJ (es.map gB.par))∧yK ah st.used es∧(st.used<ah.length→l.2.used<ah.length)∧tC ah st.used es
 | 0,aA,st,l,h,hl=>by
  rw[bC] at h;obtain rfl:=kR h
  exfalso
  have hl:(if st.fE=0 then gU ah 15 st else st).fE=0:=hl
  split at hl
  ·exact rR (by decide) hl
  ·rename_i hf;exact hf hl
 | r+1,aA,st,l,h,hl=>by
  rw[bC] at h
  split at h
  ·rename_i hf
   obtain rfl:=kR h;exact absurd hl hf
  ·obtain⟨k,hk,h⟩:=cK h
   split at h
   ·rename_i hn
    obtain⟨g1,i1,u1⟩:=ji hE (bK hn.2);obtain⟨e,⟨he1,he2,he4⟩,he3,he5⟩:=NG hE _ _ hk hn.1;obtain⟨es,hne,hlen,hg,hi,hok,hu,hm⟩:=IZ hE r _ _ _ h hl
    obtain⟨f,es,rfl⟩:∃ f fs,es=f :: fs:=by cases es with
     | nil=>exact absurd rfl hne
     | cons f fs=>exact⟨f,fs,rfl⟩
    have a1:=he1.len;have a2:=he1.used;have b1:=g1.len;have b2:=g1.used;simp only[eP,bU,PT.nd,PT.lv,Nat.add_zero] at a1 a2 b1 b2;refine⟨e :: f :: es,by simp,by simpa using hlen,?_,?_,?_,fun q=>hu (by have:=he4 q;omega),?_⟩
    ·rw[List.map_cons,List.map_cons,tu]
     exact(he1.append g1).append hg
    ·rw[hi,List.map_cons (a:=e),List.map_cons (a:=f),tu,sS,sS,he2,i1,b1,a1]
     simp only[PT.nd,nQ,jN,qc]
     congr 2
     congr 1
     omega
    ·rw[b2,a2] at hok
     exact⟨he3,hok⟩
    ·rw[b2,a2] at hm
     exact⟨he5,fun _=>by have h8:=iJ hn.2;rw[a2] at h8;simpa using h8,hm⟩
   ·obtain rfl:=kR h
    obtain⟨e,⟨he1,he2,he4⟩,he3,he5⟩:=NG hE _ _ hk hl;refine⟨[e],by simp,by simp,by rw[List.map_cons,List.map_nil,wW];exact he1,?_,⟨he3,trivial⟩,he4,he5,fun q=>absurd rfl q,trivial⟩;rw[List.map_cons,List.map_nil,wW,sS,he2];simp[dw]
theorem abA {ah:List Tok}(hE:iE ah){d g:Nat}{st:aJ}{l:List Int × aJ}(h:jP ah (jy ah d g) st=some l)(hl:l.2.fE=0) :
  ∃ es:List gB,es.length≤8∧fD st (kJ (es.map gB.par)) l.2∧l.1=dw st.aj.length (kJ (es.map gB.par))∧yK ah st.used es∧(st.used<ah.length→l.2.used<ah.length)∧tC ah st.used es:=by
 unfold jP at h
 split at h
 ·obtain rfl:=kR h
  exact⟨[],by simp,by simpa [kJ] using fD.nil st,by simp[kJ,dw],trivial,id,trivial⟩
 ·obtain⟨es,_,h1,h2,h3,h4,h5,h6⟩:=IZ hE _ _ _ _ h hl
  exact⟨es,h1,h2,by rw[h3];simp,h4,h5,h6⟩
theorem ada {ah:List Tok}(hE:iE ah){dp g:Nat}(st:aJ)(r:Int × aJ)(h:xG ah dp g st=some r)(hr:r.2.fE=0)(hc:st.aC=false):∃ d:dU,QM ah st r d.pt∧d.ok ah st.used∧d.marks ah st.used:=by
 unfold xG at h;obtain⟨l,h1,h⟩:=cK h;obtain⟨t,h2,h⟩:=cK h;obtain⟨f,h3,h⟩:=cK h;obtain rfl:=kR h;have z1:=rT hr;obtain⟨m1,m2,m3,m4,m5⟩:=iO hE z1;have z2:=(bg ah dp g _ _ _ h3).zero m5;obtain⟨q1,q2,q3,q4,q5⟩:=iO hE z2;obtain⟨ty,t1,t2,t3,t4,t5⟩:=ND hE h2 q5;have z3:=(jL h2).zero q5;obtain⟨c1,c2,c3,c4,c5⟩:=iO hE z3;obtain⟨ps,p1,p2,p3,p4,p5,p6⟩:=abA hE h1 c5;have z4:=(mE ah _ kI _ _ h1).zero c5;obtain⟨o1,o2,o3,o4,o5⟩:=iO hE (l:=[[40]]) (st:=(kZ ah st).2) z4;obtain⟨n1,n2,n3,n4,n5⟩:=zn hE (k:=1) (by decide) (st:=(sw ah st).2) o5;obtain⟨f1,f2,f3,f4,f5⟩:=iO hE (l:=[Ka]) (st:=(oF ah st).2) n5;obtain⟨b,b1,b2,b3,b4⟩:=kD ah hE dp g _ _ _ h3 m5
 have hp:∃ pub:Bool,fD st (if pub=true then [.leaf] else []) (oF ah st).2∧(oF ah st).1=dw st.aj.length (if pub=true then [.leaf] else [])∧(pub=true→aN ah st.used=Ba):=by
  unfold oF
  split
  ·rename_i hx
   obtain⟨l1,l2,_⟩:=ji hE (bK hx);refine⟨true,by simpa using l1,by simp[dw,PT.nd,l2],fun _=>?_⟩
   simpa using iJ hx
  ·exact⟨false,by simpa using fD.nil st,by simp[dw],fun q=>by cases q⟩
 obtain⟨pub,pb1,pb2,pb3⟩:=hp
 have g1:=(pb1.append f1)
 have g2:=(g1.append n1)
 have g3:=(g2.append o1)
 have g4:=(g3.append p2)
 have g5:=(g4.append c1)
 have g6:=(g5.append t1)
 have g7:=(g6.append q1)
 have g8:=(g7.append b1)
 have g9:=(g8.append m1)
 have u0:=pb1.used;have u1:=f1.used;have u2:=n1.used;have u3:=o1.used;have u4:=p2.used;have u5:=c1.used;have u6:=t1.used;have u7:=q1.used;have k8:=g7.aC;simp only[bU,PT.lv] at u1 u2 u3 u5 u7
 have e3:st.used+bU (dU.lead ⟨pub,ps,ty,b⟩)+3=(jA ah st).2.used:=by
  rw[show (jA ah st).2.used=_ from u3,show (kZ ah st).2.used=_ from u2,show (sw ah st).2.used=_ from u1,u0]
  rfl
 have e2:(dU.mk pub ps ty b).at2 st.used=(aH ah [[41]] l.2).2.used:=by
  rw[u5,u4,show (jA ah st).2.used=_ from u3,show (kZ ah st).2.used=_ from u2,show (sw ah st).2.used=_ from u1,u0]
  rfl
 refine⟨⟨pub,ps,ty,b⟩,?_,⟨pb3,?_,?_,p1,?_,?_,?_⟩,?_,?_,?_⟩
 ·have hk:(dU.mk pub ps ty b).aA=(if pub=true then [.leaf] else [])++[.leaf]++[.leaf]++[.leaf]++kJ (ps.map gB.par)++[.leaf]++ty.pts++[.leaf]++[b.pt]++[.leaf]:=by
   simp[dU.aA,dU.lead]
  rw[dU.pt,hk];have ig:IG st _ _ _:=(((((((((show IG st _ _ _ from ⟨pb1,pb2⟩).append (IG.leaf f1 f2)).append (IG.leaf n1 n2)).append (IG.leaf o1 o2)).append (show IG _ _ _ _ from ⟨p2,p3⟩)).append (IG.leaf c1 c2)).append (show IG _ _ _ _ from ⟨t1,rfl⟩)).append (IG.leaf q1 q2)).append (IG.res b1 b2)).append (IG.leaf m1 m2);refine g9.Yj (k:=3) ?_ hr (fun _=>by have:=m1.used;simp only[bU,PT.lv] at this;omega);rw[← ig.2,t2];simp only[nQ,jN,qc]
  rfl
 ·show aN ah (st.used+bU (dU.lead _))=Ka
  have:st.used+bU (dU.lead ⟨pub,ps,ty,b⟩)=(oF ah st).2.used:=u0.symm;rw[this]
  simpa using f3
 ·show iq ah (st.used+bU (dU.lead _)+1)=1
  have:st.used+bU (dU.lead ⟨pub,ps,ty,b⟩)+1=(sw ah st).2.used:=by rw[show (sw ah st).2.used=_ from u1,u0];rfl
  rw[this];exact n3
 ·show yK ah (st.used+bU (dU.lead _)+3) ps
  rw[e3];exact p4
 ·rw[e2]
  exact t3
 ·have:(dU.mk pub ps ty b).at3 st.used=(aH ah [[61]] t.2).2.used:=by
   rw[u7,u6,u5,u4,show (jA ah st).2.used=_ from u3,show (kZ ah st).2.used=_ from u2,show (sw ah st).2.used=_ from u1,u0]
   rfl
  rw[this];have hb:b.ok ah (aH ah [[61]] t.2).2.aC (aH ah [[61]] t.2).2.used:=b3;rw[k8,hc] at hb;exact hb
 ·show tC ah (st.used+bU (dU.lead ⟨pub,ps,ty,b⟩)+3) ps
  rw[e3];exact p6
 ·rw[e2,u5]
  simpa using c3
 ·rw[e2]
  exact t5
def okL {α:Type}(P:α→Nat→Prop)(T:α→PT):Nat→List α→Prop
 | _,[]=>True
 | u,a :: l=>P a u∧okL P T (u+(T a).lv) l
theorem QO {α:Type}{ah:List Tok}{one:aJ→Option (Int × aJ)}{first:List (List UInt8)}(T:α→PT)(P:α→Nat→Prop)
  (hone:∀ s k,one s=some k→k.2.fE=0→bF ah s first=true→s.aC=false→∃ a,QM ah s k (T a)∧P a s.used) (hx:∀ s k,one s=some k→dP s k.2) :
  ∀ (r:Nat) (aA:List Int) (st:aJ) (l:List Int × aJ),jK ah one first r aA st=some l→l.2.fE=0→st.aC=false →
   ∃ zs9:List α,zs9.length≤r∧fD st (zs9.map T) l.2∧l.1=aA++dw st.aj.length (zs9.map T)∧okL P T st.used zs9∧(st.used<ah.length→l.2.used<ah.length)
 | 0,aA,st,l,h,hl,_=>by
  rw[jK] at h;obtain rfl:=kR h;have hl:(if st.fE=0∧bF ah st first=true then gU ah 15 st else st).fE=0:=hl
  split at hl
  ·exact(rR (by decide) hl).elim
  ·rename_i hc
   refine⟨[],by simp,?_,by simp[dw],trivial,?_⟩
   ·show fD st [] (if _ then _ else _)
    rw[if_neg hc];exact fD.nil st
   ·show _→(if _ then _ else _:aJ).used<_
    rw[if_neg hc];exact id
 | r+1,aA,st,l,h,hl,hc0=>by
  rw[jK] at h
  split at h
  ·rename_i hc
   obtain⟨k,hk,h⟩:=cK h;have hz:=(pE hx r _ _ _ h).zero hl;obtain⟨a,⟨g1,i1,u1⟩,p1⟩:=hone _ _ hk hz hc.2 hc0;obtain⟨zs9,h1,h2,h3,h4,h5⟩:=QO T P hone hx r _ _ _ h hl (by rw[g1.aC];exact hc0);have n1:=g1.len;have s1:=g1.used;simp only[eP,bU,Nat.add_zero] at n1 s1;refine⟨a :: zs9,by simpa using h1,?_,?_,⟨p1,by rw[← s1];exact h4⟩,fun q=>h5 (u1 q)⟩
   ·exact g1.append h2
   ·rw[h3,List.map_cons,dw,i1,n1,nQ]
    rfl
  ·obtain rfl:=kR h
   exact⟨[],by simp,fD.nil st,by simp[dw],trivial,id⟩
theorem Ve {ah:List Tok}(hE:iE ah)(st:aJ)(k:Int × aJ)(h:(fun s=>some (oN ah s)) st=some k)(hf:k.2.fE=0)(hn:bF ah st [rX]=true):∃ _:Unit,QM ah st k vZ∧(aN ah st.used=rX∧iq ah (st.used+1)=1):=by
 obtain rfl:=kR h;have z1:=rT (k:=2) (show (bJ 2 _ _).2.fE=0 from hf);obtain⟨m1,m2,m3,m4,m5⟩:=iO hE z1;obtain⟨k1,k2,k3,k4,k5⟩:=zn hE (by decide) m5;obtain⟨l1,l2,l3⟩:=ji hE (bK hn);have u1:=l1.used;simp only[bU,PT.lv] at u1;have ig:IG st _ _ _:=((IG.leaf l1 l2).append (IG.leaf k1 k2)).append (IG.leaf m1 m2);refine⟨(),?_,by simpa using iJ hn,by rw[u1] at k3;exact k3⟩;exact ig.1.Yj (k:=2) ig.2 hf (fun _=>by have:=m1.used;simp only[bU,PT.lv] at this;omega)
theorem map_unit {β:Type}(c:β):∀ l:List Unit,l.map (fun _=>c)=List.replicate l.length c
 | []=>rfl
 | _ :: l=>by rw[List.map_cons,map_unit c l];rfl
theorem Tc {ah:List Tok}:∀ (l:List Unit) (u:Nat),okL (fun (_:Unit) u=>aN ah u=rX∧iq ah (u+1)=1) (fun _=>vZ) u l→QN ah u l.length
 | [],_,_=>trivial
 | _ :: l,_u,h=>⟨h.1.1,h.1.2,Tc l _ h.2⟩
theorem Kg {ah:List Tok}:∀ (l:List dU) (u:Nat),okL (fun (d:dU) u=>d.ok ah u∧d.marks ah u) dU.pt u l→Bd ah u l∧Bc ah u l
 | [],_,_=>⟨trivial,trivial⟩
 | _ :: l,_,h=>⟨⟨h.1.1,(Kg l _ h.2).1⟩,h.1.2,(Kg l _ h.2).2⟩
theorem Dm:∀ n,bU (List.replicate n vZ)=3 * n
 | 0=>rfl
 | n+1=>by
  rw[List.replicate_succ,bU,Dm n];simp only[vZ,PT.lv,bU];omega
theorem Td {T:List UInt8}{p:Nat}{ah:List Tok}(hL:Laid T p ah){d g:Nat}{r:Int × aJ}(h:qg ah d g ku=some r)(hf:r.2.fE=0) :
  ∃ q:kW,r.2.aj=q.pt.em 0 0∧q.ok ah∧q.pt.lv=ah.length∧q.marks ah:=by
 have hE:=hL.Yg;unfold qg at h;obtain⟨a,h1,h⟩:=cK h;obtain⟨b,h2,h⟩:=cK h;obtain rfl:=kR h;have hk:=rT hf;have hb:=(fA ah 5 b.2).zero hk;have ha:=(pE vX _ _ _ _ h2).zero hb;obtain⟨us,i1,i2,i3,i4,i5⟩:=QO (ah:=ah) (fun _:Unit=>vZ) (fun _ u=>aN ah u=rX∧iq ah (u+1)=1) (fun s k e1 e2 e3 _=>Ve hE s k e1 e2 e3) (vY ah) 16 [] ku a h1 ha rfl;obtain⟨ds,d1,d2,d3,d4,d5⟩:=QO (ah:=ah) dU.pt (fun d u=>d.ok ah u∧d.marks ah u) (fun s k e1 e2 _ e4=>ada hE s k e1 e2 e4) vX 64 [] a.2 b h2 hb (by rw[i2.aC];rfl);rw[map_unit] at i2 i3
 have hu:a.2.used=3 * us.length:=by
  rw[i2.used,Dm];simp[ku]
 have hu':=d5 (i5 hL.some)
 have hku:bA ah 5 b.2=aD ah b.2∧iq ah b.2.used=5:=by
  unfold bA at hk ⊢
  by_cases hc:b.2.fE=0∧(dh ah b.2.used).kind=5
  ·rw[if_pos hc]
   exact⟨rfl,hc.2⟩
  ·rw[if_neg hc] at hk
   exact(rR (by decide) hk).elim
 have hlast:=hL.aeA hu' hku.2;obtain⟨hl1,hl2⟩:=fD.leaf (ah:=ah) (st:=b.2) (by omega)
 have e1:IG ku a.1 (List.replicate us.length vZ) a.2:=⟨i2,i3⟩
 have e2:IG a.2 b.1 (ds.map dU.pt) b.2:=⟨d2,d3⟩
 have ig:=(e1.append e2).append (IG.leaf hl1 hl2);rw[hku.1] at hf hk ⊢;have hn:=ig.1.node hk 1;rw[← ig.2] at hn;have hds:=Kg ds _ d4;rw[hu] at hds;refine⟨⟨us.length,ds⟩,?_,⟨i1,d1,?_,hds.1⟩,?_,hds.2⟩
 ·have h18:=hn.1
  simp only[Int.cast_ofNat_Int] at h18;rw[h18];simp[ku,za,kW.pt,kW.aA]
 ·exact Tc us 0 i4
 ·have:=ig.1.used
  rw[hl1.used] at this;simp only[ku,bU,PT.lv] at this;simp only[kW.pt,PT.lv,kW.aA];rw[← nQ];omega
theorem rY:∀ {l k:List PT},mP l→mP k→mP (l++k)
 | [],k,_,h=>h
 | t :: l,k,h1,h2=>by
  rw[mP] at h1;rw[jN,mP];exact⟨h1.1,rY h1.2 h2⟩
theorem Kh {α:Type}{T:α→PT}(h:∀ a,(T a).wf):∀ l:List α,mP (l.map T)
 | []=>by rw[List.map_nil,mP];trivial
 | a :: l=>by rw[List.map_cons,mP];exact⟨h a,Kh h l⟩
theorem Te:∀ {l:List PT},mP l→mP (kJ l)
 | [],h=>by rw[kJ];exact h
 | [t],h=>by rw[wW];exact h
 | t :: s :: l,h=>by
  rw[mP] at h;rw[tu,mP,mP,PT.wf];exact⟨h.1,trivial,Te h.2⟩
theorem Tf {t:PT}(h:t.wf):∀ n,mP (List.replicate n t)
 | 0=>by rw[List.replicate_zero,mP];trivial
 | n+1=>by rw[List.replicate_succ,mP];exact⟨h,Tf h n⟩
theorem gB.wf (t:gB):mP t.pts:=by
 unfold gB.pts
 cases h:t.cl with
 | none=>simp[mP,PT.wf]
 | some e=>simp[mP,PT.wf,CE.wf e]
theorem gB.aeB (t:gB):t.par.wf:=by
 unfold gB.par;simp[mP,PT.wf,t.wf]
theorem dU.wf (d:dU):d.pt.wf:=by
 rw[dU.pt,PT.wf];refine⟨by omega,by omega,?_⟩;unfold dU.aA dU.lead;refine rY ?_ (rY (by simp[mP,PT.wf]) (rY (Te (Kh gB.aeB _)) (rY (by simp[mP,PT.wf]) (rY d.ty.wf (by simp[mP,PT.wf,CE.wf d.body])))))
 split<;>simp[mP,PT.wf]
theorem kW.wf (p:kW):p.pt.wf:=by
 rw[kW.pt,PT.wf];refine⟨by omega,by omega,?_⟩;unfold kW.aA;exact rY (Tf (by simp[vZ,mP,PT.wf]) _) (rY (Kh dU.wf _) (by simp[mP,PT.wf]))
theorem QS {S:List UInt8}{d:Nat}{ah:List Tok}{aj:List Nd}(h:je S d=.good ah aj) :
  bO S=.ok ah∧∃ p:kW,aj=p.pt.em 0 0∧p.ok ah∧p.pt.lv=ah.length∧aj.length≤2 * ah.length∧p.marks ah:=by
 unfold je at h
 cases hl:bO S with
 | error x=>rw[hl] at h;cases h
 | ok l =>
  rw[hl] at h;simp only at h;have hL:=iL hl;obtain⟨a,ha⟩:=Cm hL.Yg d ku;rw[ha] at h;simp only[EA] at h
  split at h
  ·rename_i hf
   injection h with h1 h2
   subst h1;obtain⟨q,he,hok,hlv,hmk⟩:=Td hL ha hf;have h3:=IY ha;have h4:=IU ha (lI _);unfold mR at h3;simp only[ku,gX] at h3;exact⟨rfl,q,by rw[← h2,he],hok,hlv,by rw[← h2];omega,hmk⟩
  ·cases h
theorem Vf {S:List UInt8}{d e a:Nat}(h:je S d=.bad e a):e≠0:=by
 unfold je at h
 cases hl:bO S with
 | error x =>
  rw[hl] at h
  injection h with h1 h2
  have:=(qj hl).2;omega
 | ok l =>
  rw[hl] at h;simp only at h
  split at h
  ·injection h with h1 _;omega
  ·unfold EA at h
   split at h
   ·cases h
   ·rename_i hf
    injection h with h1 _
    omega
theorem zQ {S:List UInt8}{d d':Nat}{ah:List Tok}{aj:List Nd}(hdd:d≤d')(h:je S d=.good ah aj):je S d'=.good ah aj:=by
 unfold je at h ⊢
 cases hl:bO S with
 | error x=>rw[hl] at h;cases h
 | ok l =>
  rw[hl] at h;simp only at h ⊢
  cases hm:qg l d (zN l) ku with
  | none=>rw[hm] at h;cases h
  | some st =>
   rw[hm] at h;simp only at h
   have hs:st.2.fE=0:=by
    unfold EA at h
    split at h
    ·assumption
    ·cases h
   rw[Kc hdd hm hs];exact h
