/- Walks and plain laws, without a condition. -/
import Derived.Test.YtmleecdnkmoohaaGreatDoorK06
set_option maxHeartbeats 16000000
set_option maxRecDepth 100000
set_option linter.unusedVariables false
set_option linter.unusedSimpArgs false
namespace Go.Proofs.YtmleecdnkmoohaaGreatDoor
open Go.RowKit Go
variable{b op:Nat}{w w0 w':World}{e:Ending}{k:Value}{x:PE}{l:aH}{ws:List Nat}
theorem za {c0 c1 c2 c3:Value}{T:TypeId}(h:w.heap[b]?=some (.cells #[c0,c1,c2,c3] T (0,0)))(v0 v1 v2 v3:Value) :
  ((((w.setCell ⟨b,0,none⟩ v0).setCell ⟨b,1,none⟩ v1).setCell ⟨b,2,none⟩ v2).setCell ⟨b,3,none⟩ v3).heap[b]?=some (.cells #[v0,v1,v2,v3] T (0,0)) /\
  (∀ k,k≠b->((((w.setCell ⟨b,0,none⟩ v0).setCell ⟨b,1,none⟩ v1).setCell ⟨b,2,none⟩ v2).setCell ⟨b,3,none⟩ v3).heap[k]?=w.heap[k]?) /\
  ((((w.setCell ⟨b,0,none⟩ v0).setCell ⟨b,1,none⟩ v1).setCell ⟨b,2,none⟩ v2).setCell ⟨b,3,none⟩ v3).heap.size=w.heap.size:=by
 have h1:=jN w b 0 _ _ v0 h;have h2:=jN _ b 1 _ _ v1 h1;have h3:=jN _ b 2 _ _ v2 h2;have h4:=jN _ b 3 _ _ v3 h3;refine⟨h4,λk hk=>?_,by simp⟩;rw[qm _ _ _ _ hk,qm _ _ _ _ hk,qm _ _ _ _ hk,qm _ _ _ _ hk]
def Vg (w:World)(b:Nat)(v0 v1 v2 v3 v4 v5 v6 v7:Value):World :=
 (((((((w.setCell ⟨b,0,none⟩ v0).setCell ⟨b,1,none⟩ v1).setCell ⟨b,2,none⟩ v2).setCell ⟨b,3,none⟩ v3).setCell ⟨b,4,none⟩ v4).setCell ⟨b,5,none⟩ v5).setCell ⟨b,6,none⟩ v6).setCell ⟨b,7,none⟩ v7
theorem wH (P:Nat->Prop)(w:World)(b:Nat)(v0 v1 v2 v3 v4 v5 v6 v7:Value)(hP:∀ k,P k->k≠b):aW P w (Vg w b v0 v1 v2 v3 v4 v5 v6 v7):=by
 have hs:∀ (W:World) (j:Nat) (u:Value),aW P W (W.setCell ⟨b,j,none⟩ u):=λW j u=>aW.set u hP
 exact(((((((hs _ _ _).trans (hs _ _ _)).trans (hs _ _ _)).trans (hs _ _ _)).trans (hs _ _ _)).trans (hs _ _ _)).trans (hs _ _ _)).trans (hs _ _ _)
theorem jR {B:Nat}(h:Below B w0 w)(hb:B<=b)(v0 v1 v2 v3 v4 v5 v6 v7:Value):Below B w0 (Vg w b v0 v1 v2 v3 v4 v5 v6 v7) :=
 (((((((h.setCell hb _).setCell hb _).setCell hb _).setCell hb _).setCell hb _).setCell hb _).setCell hb _).setCell hb _
def ad4 (op at_:Nat)(aB:List PE)(w:World)(e:Ending)(w':World):Prop :=
 ∃ am wn cm ae ce,e=.returned (.agg #[.int .i64 op,.string ⟨#[]⟩,.string ⟨#[]⟩,.bool false,.slice am wn cm,.bool false,.slice ae aB.length ce,.int .i64 at_]) /\
  pG XA (λb=>w.heap.size<=b) w' (.slice am wn cm) (.slice ae aB.length ce) (.mk op [] [] 0 [] false aB at_)/\Below w.heap.size w w'
theorem EPost.m {at_:Nat}{aB:List PE}(h:EPost XA (.mk op [] [] 0 [] false aB at_) w e w'):ad4 op at_ aB w e w':=by
 obtain⟨am,wn,cm,ae,ce,h1,h2,h3⟩:=h.a;exact⟨am,wn,cm,ae,ce,h1,h2,h3⟩
theorem pG.rename {S:Shape}{P:Nat->Prop}{m:Value}{op' a a':Nat}{n n' md md' t t':aH}{num:Int}{y y':Bool}{aB:List PE}(h:pG S P w m k (.mk op n md num t y aB a)):pG S P w m k (.mk op' n' md' num t' y' aB a'):=by
 rw[pG] at h |-;exact h
def Yp (x:PE)(w:World)(e:Ending)(w':World):Prop :=
 ∃ am wn cm ae ce,e=.returned (.agg #[.int .i64 x.op,.string ⟨x.name.toArray⟩,.string ⟨x.module.toArray⟩,.bool (decide (x.num<0)),.slice am wn cm,.bool x.yes,.slice ae x.aB.length ce,.int .i64 x.at_]) /\
  pG XA (λb=>w.heap.size<=b) w' (.slice am wn cm) (.slice ae x.aB.length ce) x/\Below w.heap.size w w'
theorem EPost.s (h:EPost XA x w e w'):Yp x w e w':=h.a
def Yq (n:Nat)(w:World)(e:Ending)(w':World):Prop :=
 ∃ am wn cm,e=.returned (.tuple #[.agg #[.bool false,.slice am wn cm],.int .i64 0])/\nP (λb=>w.heap.size<=b) w' (n:Nat) (.slice am wn cm)/\Below w.heap.size w w'
theorem ad5 (n:Nat)(txt:aH)(at_:Nat)(m k:Value):Ending.returned (.agg #[.int .i64 1,.string ⟨#[]⟩,.string ⟨#[]⟩,.bool false,m,.bool false,k,.int .i64 at_])=.returned (XA.agg (.mk 1 [] [] (n:Nat) txt false [] at_) m k):=by
 have hd:decide ((n:Int)<0)=false:=dX (by omega);show _=Ending.returned (.agg #[.int .i64 1,.string ⟨#[]⟩,.string ⟨#[]⟩,.bool (decide ((n:Int)<0)),m,.bool false,k,.int .i64 at_]);rw[hd]
theorem fG (w:World)(b i:Nat)(v:Value){k j:Nat}(h:k≠b):(w.setCell ⟨b,i,none⟩ v).cell? ⟨k,j,none⟩=w.cell? ⟨k,j,none⟩ :=
 yK (a:=⟨k,j,none⟩) (qm _ _ _ _ h)
theorem EPost.store {W:World}{m:Value}(hx:pG XA (λb=>W.heap.size<=b) w' m k x)(hb:Below W.heap.size W w')(h0:Below w0.heap.size w0 W)(h1:w0.heap.size<=b)(h2:b<W.heap.size)(v0 v1 v2 v3 v4 v5 v6 v7:Value) :
  pG XA (λb=>w0.heap.size<=b) (Vg w' b v0 v1 v2 v3 v4 v5 v6 v7) m k x/\Below w0.heap.size w0 (Vg w' b v0 v1 v2 v3 v4 v5 v6 v7):=by
 have hs:=h0.size;exact⟨(hx.frame (wH _ _ _ _ _ _ _ _ _ _ _ λk hk=>by omega)).imp λb hb _=>by omega,jR (h0.trans (hb.mono hs)) h1 _ _ _ _ _ _ _ _⟩
theorem Vh (P:Nat->Prop)(ng:Bool)(ao:Option Addr)(cap:Nat)(ws:List Nat)(w:World)(h:Wd P w (.slice ao ws.length cap) ws)(hn:ws.length<=1099511627776) :
  Calls Tryz.prog 222 #[.bool ng,.slice ao ws.length cap] w λe w'=>e=.returned (.agg #[.bool (ng && decide (0<(dB ws).length)),.slice ao (dB ws).length cap])/\Below w.heap.size w w':=by
 have h1:Wd P (w.alloc (.cells #[.bool false,.slice none 0 0] 58)) (.slice ao ws.length cap) ws:=h.frame (aW.of (aA w _));have HT:=ay (Bq P ao cap ws _ h1 hn);clear h h1;generalize (dB ws).length=k at *
 cases ng with
 | false =>
  go_enter Tryz.func222,Tryz.ntmps222;go_wp2_with (go_at_call 145;refine HT.out.mono ?_;rintro e w1 ⟨rfl,rfl⟩);refine nI (v:=.agg #[.bool false,.slice ao k cap]) (by simp[results,Tryz.results222,go_sem]) rfl ⟨rfl,?_⟩;exact aA w _
 | true =>
  by_cases hk:0<k
  ·have hkd:decide (0<k)=true:=jV hk
   rw[hkd]
   have nK:(0:Int)<(k:Int):=by omega
   go_enter Tryz.func222,Tryz.ntmps222;go_wp2_with (go_at_call 145;refine HT.out.mono ?_;rintro e w1 ⟨rfl,rfl⟩);refine nI (v:=.agg #[.bool true,.slice ao k cap]) (by simp[results,Tryz.results222,go_sem]) rfl ⟨rfl,?_⟩;exact aA w _
  ·obtain rfl:k=0:=by omega
   go_enter Tryz.func222,Tryz.ntmps222;go_wp2_with (go_at_call 145;refine HT.out.mono ?_;rintro e w1 ⟨rfl,rfl⟩);refine nI (v:=.agg #[.bool false,.slice ao 0 cap]) (by simp[results,Tryz.results222,go_sem]) rfl ⟨rfl,?_⟩;exact aA w _
theorem Tryz.acn:(Tryz.prog.info? 250).map (λi=>(i.zero,i.size))=some (some (.agg (Array.replicate 256 (.bool false))),256):=by kernel_rfl
def Vi:aH:=[48,49,50,51,52,53,54,55,56,57]
theorem aco {c:UInt8}(h:(decide (48<=c.toNat) && decide (c.toNat<=57))=true):Vi.contains c=true:=by
 have:∀ n:Fin 256,(decide (48<=(UInt8.ofNat n.val).toNat) && decide ((UInt8.ofNat n.val).toNat<=57))=true->Vi.contains (UInt8.ofNat n.val)=true:=by decide
 have h1:=this ⟨c.toNat,c.toNat_lt⟩;rw[UInt8.ofNat_toNat] at h1;exact h1 h
theorem Yr {α:Type}(p:α->Bool):∀ (l:List α),(∀ x∈l,p x=true)->l.dropWhile p=[]
 | [],_=>rfl
 | x :: l,h=>by rw[List.dropWhile_cons_of_pos (h x Cu),Yr p l λy hy=>h y (Dy _ hy)]
theorem Nf (h:gG l=true):Lib.trimS l Vi=[]:=by
 have h1:Lib.trimRightS l Vi=[]:=by
  unfold Lib.trimRightS
  have:l.reverse.dropWhile (Vi.contains ·)=[]:=Yr _ _ λx hx=>aco ((List.all_eq_true.1 h) x (List.mem_reverse.1 hx))
  rw[this,List.reverse_nil]
 unfold Lib.trimS;rw[h1]
 rfl
theorem QK (h:gG l=true):Lib.hasPrefix l [45]=false:=by
 cases l with
 | nil=>rfl
 | cons c l =>
  rw[gG,List.all_cons,uw] at h;have hc:=h.1;simp only[uw,AZ] at hc
  have:(45 == c)=false:=by
   rw[<- vM,beq_iff_eq];rintro rfl;simp at hc
  simp[Lib.hasPrefix,List.isPrefixOf,this]
theorem Ee {k:IntKind}{a b:Int}(h:a=b):Value.int k a=Value.int k b:=by rw[h]
theorem Ng {R T:aH}{n:Nat}(_hn:n<=9)(hR:n<=R.length)(hT:T=R.take n)(hd:gG R=true)(hw:∀ x∈ws,x<4294967296)(hp:10 ^ n<=1000000000) :
  gG (R.drop n)=true/\jc (dB (fU (10 ^ n) ws (jE T))) * 10 ^ (R.drop n).length+jE (R.drop n)=jc ws * 10 ^ R.length+jE R:=by
 have e1:R=R.take n++R.drop n:=(List.take_append_drop n R).symm
 have ed:gG (R.take n)=true/\gG (R.drop n)=true:=by
  rw[e1,gG,List.all_append,uw] at hd;exact hd
 have hl:(R.take n).length=n:=by rw[pK];omega
 have hv:=Ec _ ed.1;rw[hl] at hv;refine⟨ed.2,?_⟩;rw[hT,xB,EF _ hp _ _ hw (by omega)]
 have e2:jE R=jE (R.take n) * 10 ^ (R.drop n).length+jE (R.drop n):=by
  conv=>lhs;rw[e1]
  exact MN _ _
 rw[e2,Nat.add_mul,Nat.mul_assoc,<- Nat.pow_add,yL,show n+(R.length - n)=R.length by omega];omega
def ad6 (n:Int)(w:World)(e:Ending)(w':World):Prop :=
 ∃ am wn cm,e=.returned (.tuple #[.agg #[.bool (decide (n<0)),.slice am wn cm],.int .i64 0])/\nP (λb=>w.heap.size<=b) w' n (.slice am wn cm)/\Below w.heap.size w w'
def KS (ng:Bool)(n:Nat):Int:=if ng=true then -(n:Int) else (n:Int)
theorem Yt (ng:Bool)(n:Nat):(KS ng n).natAbs=n:=by unfold KS;split<;>omega
theorem Yu (ng:Bool)(h:dB ws=ws):decide (KS ng (jc ws)<0)=(ng && decide (0<ws.length)):=by
 cases ng with
 | false=>exact dX (by simp[KS])
 | true =>
  by_cases hw:ws=[]
  ·subst hw;rfl
  ·have h1:=xC h hw
   have h2:0<ws.length:=List.length_pos_iff.2 hw;rw[jV (by simp[KS];omega),jV h2];rfl
theorem Nh (s0 s:ByteArray)(ng:Bool)(w:World)(e1:Lib.hasPrefix s0.data.toList (ByteArray.mk #[45]).data.toList=ng)(e2:Lib.trimPrefix s0.data.toList (ByteArray.mk #[45]).data.toList=s.data.toList)(h0:0<s.size)(P8:s.size<=60)(hd:gG s.data.toList=true)(hz:s.data.toList.head?=some 48->s.size=1/\ng=false) :
  Calls Tryz.prog 171 #[.string s0] w (ad6 (KS ng (jE s.data.toList)) w):=by
 have hcut:=Tryz.strings_CutPrefix s0 ⟨#[45]⟩ (w.alloc (.cells #[.bool false,.slice none 0 0] 58));rw[e1,e2,show ByteArray.mk s.data.toList.toArray=s by cases s;simp] at hcut;have HC:=ay hcut
 have htr:∀ W:World,Calls Tryz.prog 220 #[.string s,.string ⟨#[48,49,50,51,52,53,54,55,56,57]⟩] W λe w'=>e=.returned (.string ⟨#[]⟩)/\Below W.heap.size W w':=λW=>by
  have:=Any.strings_Trim_laid Tryz.abW Tryz.acn s ⟨#[48,49,50,51,52,53,54,55,56,57]⟩ W (by omega) (by decide) (ascii_of_all (by decide));rw[show (ByteArray.mk #[48,49,50,51,52,53,54,55,56,57]).data.toList=Vi from rfl,Nf hd] at this;exact this
 have HTr:=ay htr
 have hne:s.toList.isEmpty=false:=by rw[uE];exact dX (by omega)
 have hne2:(s.toList == [])=false:=by
  rw[<- vM,beq_iff_eq];intro q;rw[q] at hne;cases hne
 have HD:=ay hd
 have hlast:((((s[0]'h0).toNat:Int) == 48)=false\/((((s[0]'h0).toNat:Int) == 48)=true/\decide ((1:Int)<(s.size:Int))=false/\ng=false)):=by
  by_cases q:((s[0]'h0).toNat:Int)=48
  ·right
   have:s.size=1/\ng=false:=by
    apply hz
    obtain⟨r,hr⟩:=head_cons h0;rw[hr,List.head?_cons]
    congr 1
    exact UInt8.toNat_inj.1 (show (s[0]'h0).toNat=48 by omega)
   exact⟨by simpa using q,dX (by omega),this.2⟩
  ·left;simpa using q
 clear hcut e1 e2 htr hz hd
 have h0I:(0:Int)<(s.size:Int):=by omega
 have ai4:(s.size:Int)<=60:=by omega
 have hg:=aX w (.cells #[.bool false,.slice none 0 0] 58);have hbw:=aA w (.cells #[.bool false,.slice none 0 0] 58);go_enter Tryz.func171,Tryz.ntmps171
 go_upto_region 4 with (go_at_call 219;refine HC.out.mono ?_;rintro e w1 ⟨rfl,rfl⟩)
 generalize w.alloc _=w2 at hg hbw |-
 go_cut [4,5,22] (λr n1 t wx=>r=.string s/\n1=.bool ng/\t=.bool false/\wx.heap[w.heap.size]?=some (.cells #[.bool false,.slice none 0 0] 58 (0,0))/\Below w.heap.size w wx)
 case first =>
  rcases hlast with hl|⟨hl,hl2,rfl⟩
  ·go_wp2_with (go_at_call 220;refine(HTr.out _).mono ?_;rintro e w1 ⟨rfl,hb1⟩)
   go_meet
   exact⟨rfl,rfl,rfl,(hb1.block _ (bP hg).1).trans hg,hbw.trans (hb1.mono hbw.size)⟩
  ·go_wp2_with (go_at_call 220;refine(HTr.out _).mono ?_;rintro e w1 ⟨rfl,hb1⟩)
   go_meet
   exact⟨rfl,rfl,rfl,(hb1.block _ (bP hg).1).trans hg,hbw.trans (hb1.mono hbw.size)⟩
 case rest =>
  obtain⟨rfl,rfl,rfl,hg2,hbc⟩:=hcut;clear hne hne2 hlast hg hbw HTr HC
  obtain⟨wo,rfl⟩:∃ wo:World,wo=wc:=⟨_,rfl⟩
  go_wp2
  go_loopw [4,6] (λrv mv wr=>∃ (R:ByteArray) (ws:List Nat) (ao:Option Addr) (cap:Nat),rv=.string R/\mv=.slice ao ws.length cap/\Wd (λb=>w.heap.size<b) wr (.slice ao ws.length cap) ws/\dB ws=ws/\(∀ x∈ws,x<4294967296)/\ws.length+R.size<=60/\gG R.data.toList=true/\jc ws * 10 ^ R.size+jE R.data.toList=jE s.data.toList/\wr.heap[w.heap.size]?=some (.cells #[.bool false,.slice none 0 0] 58 (0,0))/\Below w.heap.size w wr) (λrv _ _=>P6 rv)
  case atStart=>exact⟨s,[],none,0,rfl,rfl,oJ.nil _ _ _,rfl,λx hx=>(by cases hx),by simpa using P8,HD.out,by simp[jc],hg2,hbc⟩
  case round =>
   obtain⟨R,ws,ao,cap,rfl,rfl,hW,htr,hlt,hsz,hdg,hval,hg3,hbl⟩:=hrel
   by_cases hR:0<R.size
   ·obtain⟨n,hn⟩:∃ n,n=min 9 R.size:=⟨_,rfl⟩
    have hn9:n<=9:=by omega
    have hnR:n<=R.size:=by omega
    have hn0:0<n:=by omega
    have hmin:min (9:Int) (R.size:Int)=(n:Int):=by omega
    have hRI:(0:Int)<(R.size:Int):=by omega
    have ai5:(R.size:Int)<=60:=by omega
    have HN:=ay hn
    have hcv:=λ(W:World)=>run_bytes_of_string (P:=Tryz.prog) W 9 195 5 (R.extract 0 n) Tryz.underlying9 Tryz.underlying195 Tryz.underlying5
    have hTs:(R.extract 0 n).size=n:=by rw[ByteArray.size_extract];omega
    rw[hTs] at hcv;have HTs:=ay hTs;have HV:=ay hval;have HDG:=ay hdg;have HLT:=ay hlt;have Md:=ay htr;clear hTs hn hval hdg hlt htr;have hz:=hbl.size;have Vj:=(bP hg3).1
    have hTl:(R.extract 0 n).data.toList=R.data.toList.take n:=by rw[iY,List.drop_zero]
    have afU:∀ (jw:Nat) (fr:Nat × Nat) (j:Nat) (hj:j<n),(wr.alloc (.cells (bytesRow (R.extract 0 n) jw) 5 fr)).drew.cell? ⟨wr.heap.size,j,none⟩=some (.int .u8 (((R.extract 0 n).data[j]'(by have:=HTs.out;show j<(R.extract 0 n).size;omega)).toNat:Nat)):=λjw fr j hj=>by
     have hs:j<(R.extract 0 n).data.size:=by have:=HTs.out;show j<(R.extract 0 n).size;omega
     rw[aZ (show (wr.alloc (.cells (bytesRow (R.extract 0 n) jw) 5 fr)).drew.heap[wr.heap.size]?=some (.cells (bytesRow (R.extract 0 n) jw) 5 fr) from aX wr _)];exact bytesRow_at _ _ _ hs
    have DL:=ay afU;clear afU;go_wp2;clear hcv;have hcl:=DL.out (grownCap wr n 0 5) ((bytesRow (R.extract 0 n) (grownCap wr n 0 5)).size,(bytesRow (R.extract 0 n) (grownCap wr n 0 5)).size+1);have hbx:Below wr.heap.size wr (wr.alloc (.cells (bytesRow (R.extract 0 n) (grownCap wr n 0 5)) 5 ((bytesRow (R.extract 0 n) (grownCap wr n 0 5)).size,(bytesRow (R.extract 0 n) (grownCap wr n 0 5)).size+1))).drew:=((bQ _ _).alloc (bD _) _).drew
    have hsx:wr.heap.size<(wr.alloc (.cells (bytesRow (R.extract 0 n) (grownCap wr n 0 5)) 5 ((bytesRow (R.extract 0 n) (grownCap wr n 0 5)).size,(bytesRow (R.extract 0 n) (grownCap wr n 0 5)).size+1))).drew.heap.size:=by simp
    generalize (wr.alloc (.cells (bytesRow (R.extract 0 n) (grownCap wr n 0 5)) 5 _)).drew=wx at hcl hbx hsx |-;have zH:=ay hcl;clear hcl DL
    have hTd:gG (R.extract 0 n).data.toList=true:=by
     have:=HDG.out;rw[hTl,gG,List.all_eq_true];rw[gG,List.all_eq_true] at this
     exact λx hx=>this x (List.mem_of_mem_take hx)
    have HTd:=ay hTd;have HTl:=ay hTl;clear hTd hTl
    go_loop [8,9,55] (λbv pv q=>∃ k:Nat,k<=n/\q=.int .i64 k/\bv=.int .u64 ((10 ^ k:Nat):Nat)/\pv=.int .u64 (jE ((R.extract 0 n).data.toList.take k):Nat)) (λ_ _ q=>n - (intOf q).toNat)
    case atStart=>exact⟨0,kJ _,rfl,rfl,by rw[List.take_zero];rfl⟩
    case round =>
     obtain⟨k,hk,rfl,rfl,rfl⟩:=hrel;have hT1:=HTs.out
     have PI:(R.extract 0 n).data.toList.length=n:=by rw[aY];exact hT1
     by_cases hkn:k<n
     ·have hx:=zH.out k hkn
      have hkd:k<(R.extract 0 n).data.toList.length:=by omega
      have hgk:(R.extract 0 n).data[k]'(by have:=HTs.out;show k<(R.extract 0 n).size;omega)=(R.extract 0 n).data.toList[k]'hkd:=by simp
      have hcb:=(List.all_eq_true.1 HTd.out) _ (nH hkd);simp only[uw,AZ] at hcb
      have hsn:jE ((R.extract 0 n).data.toList.take (k+1))=jE ((R.extract 0 n).data.toList.take k) * 10+(((R.extract 0 n).data.toList[k]'hkd).toNat - 48):=by
       rw[zF hkd,tu]
      have hpw:(10:Nat) ^ (k+1)=10 ^ k * 10:=Nat.pow_succ ..;have Mc:(10:Nat) ^ k<=100000000:=Nat.pow_le_pow_right (by omega) (by omega:k<=8)
      have hdl:jE ((R.extract 0 n).data.toList.take k)<10 ^ ((R.extract 0 n).data.toList.take k).length:=Ec _ (by
       rw[gG,List.all_eq_true]
       exact λx hx=>(List.all_eq_true.1 HTd.out) x (List.mem_of_mem_take hx))
      rw[pK,Nat.min_eq_left (by omega)] at hdl;rw[hgk] at hx;generalize (R.extract 0 n).data.toList[k]'hkd=ch at hx hcb hsn
      obtain⟨cn,hcn⟩:∃ cn,ch.toNat=cn:=⟨_,rfl⟩
      rw[hcn] at hx hcb hsn;have HS:=ay hsn;have HP:=ay hpw;clear hsn hpw hgk hcn hT1 PI hkd;generalize jE ((R.extract 0 n).data.toList.take k)=p at hdl HS;generalize (10:Nat) ^ k=a at Mc hdl HP
      have nK:(k:Int)<(n:Int):=by omega
      go_wp2;exact⟨⟨k+1,by omega,by go_num,by rw[HP.out];exact Ee (by omega),by rw[HS.out];exact Ee (by omega)⟩,by simp[intOf];omega⟩
     ·obtain rfl:k=n:=by omega
      have hTk:(R.extract 0 k).data.toList.take k=(R.extract 0 k).data.toList:=Ba (by omega);have hdl:=Ec _ HTd.out;rw[PI] at hdl;have hp9:=ab6 hn9;have hWx:Wd (λb=>w.heap.size<b) wx (.slice ao ws.length cap) ws:=oJ.frame hW (aW.of hbx);have Tt:=ay (Vf (λb=>w.heap.size<b) (.slice ao ws.length cap) ws (10 ^ k) (jE (R.extract 0 k).data.toList) wx hWx HLT.out hp9 (by omega) (by omega))
      have ahz:k<=R.data.toList.length:=by rw[aY];exact hnR
      have hstep:=Ng (ws:=ws) hn9 ahz HTl.out HDG.out HLT.out hp9;have HST:=ay hstep;rw[hTk];clear hstep hTk hdl hWx hT1 PI;generalize (10:Nat) ^ k=a at Tt HST hp9 |-;generalize jE (R.extract 0 k).data.toList=p at Tt HST |-;have nK:decide ((k:Int)<(k:Int))=false:=dX (by omega);go_wp2_with (go_at_call 221;refine Tt.out.mono ?_);rintro e w7 ⟨v,rfl,hown,Ad⟩;obtain⟨g,cap2,rfl,_,_⟩:=hown.form (by rw[kM];omega)
      have hWs:Wd (λb=>w.heap.size<b) w7 (.slice (some ⟨g,0,none⟩) (fU a ws p).length cap2) (fU a ws p):=oJ.fQ hown λb hb=>by omega
      have HT:=ay (Bq _ (some ⟨g,0,none⟩) cap2 (fU a ws p) w7 hWs (by rw[kM];omega));have HWs:=ay hWs;have G:=(Ad.block w.heap.size (by omega)).trans ((hbx.block w.heap.size Vj).trans hg3);have ahA:=hbl.trans ((hbx.trans (Ad.mono (Nat.le_of_lt hsx))).mono hz);clear hown hWs Tt;go_wp2_with (go_at_call 145;refine HT.out.mono ?_;rintro e w8 ⟨rfl,rfl⟩)
      go_roundw
      case rel =>
       have hex:(R.extract k R.size).size=R.size - k:=by rw[ByteArray.size_extract];omega
       have hel:(R.extract k R.size).data.toList=R.data.toList.drop k:=by rw[iY,Ba (by rw[aY];exact bD _)]
       have htl:=Jb (fU a ws p);rw[kM] at htl;obtain⟨s1,s2⟩:=HST.out
       have e1:(R.data.toList.drop k).length=R.size - k:=by rw[yL,aY]
       rw[e1,aY] at s2;refine⟨R.extract k R.size,dB (fU a ws p),some ⟨g,0,none⟩,cap2,rfl,rfl,?_,yQ _,λx hx=>Jc _ _ _ _ (Bj _ _ hx),by omega,by rw[hel];exact s1,by rw[hex,hel,s2];exact HV.out,G,ahA⟩;obtain⟨n',n1,n2,_,_⟩:=uK (fU a ws p)
       have hl:(dB (fU a ws p)).length=n':=by rw[n2,pK];omega
       rw[hl,n2];exact HWs.out.take n1
      case measure =>
       show (R.extract k R.size).size<R.size;rw[ByteArray.size_extract];omega
   ·have hR0:R.size=0:=by omega
    have hRl:R.data.toList=[]:=List.length_eq_zero_iff.1 (by rw[aY];exact hR0);rw[hRl,hR0] at hval
    have hv2:jc ws=jE s.data.toList:=by simpa [jE] using hval
    have HV:=ay hv2;have HLT:=ay hlt;have Md:=ay htr;have hM:=Vh (λb=>w.heap.size<b) ng ao cap ws wr hW (by omega);rw[htr,<- Yu ng htr,hv2] at hM;generalize hng:decide (KS ng (jE s.data.toList)<0)=nb at hM;have HNG:=ay hng;have HM:=ay hM
    have hRI:(R.size:Int)<=0:=by omega
    have hz:=hbl.size;clear hv2 hval hRl hdg hlt htr hM hng;go_wp2_with (go_at_call 222;refine HM.out.mono ?_);rintro e w6 ⟨rfl,hb6⟩;have G:=(hb6.block w.heap.size (bP hg3).1).trans hg3
    have d0:w6.cell? ⟨w.heap.size,0,none⟩=some (.bool false):=by rw[aZ G];rfl
    have d1:w6.cell? ⟨w.heap.size,1,none⟩=some (.slice none 0 0):=by rw[aZ G];rfl
    have dz:∀ j,w6.frozen? ⟨w.heap.size,j,none⟩=false:=by intro j;simp[World.frozen?,G]
    go_wp2;have hs2:=hb6.size;refine nI (v:=.tuple #[.agg #[.bool nb,.slice ao ws.length cap],.int .i64 0]) (by simp[results,Tryz.results171,go_sem,d0,d1]) rfl ⟨ao,ws.length,cap,by rw[HNG.out],⟨ws,?_,Md.out,HLT.out,by rw[HV.out,Yt]⟩,?_⟩
    ·have h1:=hW.frame (aW.of hb6)
     have h2:=h1.frame (aW.set (a:=⟨w.heap.size,0,none⟩) (.bool nb) λb hb=>by show b≠w.heap.size;omega);have h3:=h2.frame (aW.set (a:=⟨w.heap.size,1,none⟩) (.slice ao ws.length cap) λb hb=>by show b≠w.heap.size;omega)
     exact h3.imp λb hb _=>Nat.le_of_lt hb
    ·exact((hbl.trans (hb6.mono hz)).setCell (bD _) _).setCell (bD _) _
theorem QL (s:ByteArray)(w:World)(h0:0<s.size)(P8:s.size<=60)(hd:gG s.data.toList=true)(hz:s.data.toList.head?=some 48->s.size=1) :
  Calls Tryz.prog 171 #[.string s] w (Yq (jE s.data.toList) w):=by
 have e1:Lib.hasPrefix s.data.toList (ByteArray.mk #[45]).data.toList=false:=QK hd
 refine(Nh s s false w e1 (by rw[Lib.trimPrefix,e1];rfl) h0 P8 hd λh=>⟨hz h,rfl⟩).mono λe w' h=>?_
 obtain⟨am,wn,cm,he,h1,h2⟩:=h;exact⟨am,wn,cm,by rw[he,show decide (KS false (jE s.data.toList)<0)=false from dX (by simp[KS])],h1,h2⟩
mutual
def PZ.size:PZ->Nat
 | .mk _ _ _ _ _ aB _=>ou aB+1
def ou:List PZ->Nat
 | []=>0
 | e :: l=>e.size+ou l
end
theorem Vk (P:Nat->Prop)(am:Option Addr)(wn cm:Nat)(n:Int)(w:World)(h:nP P w n (.slice am wn cm)) :
  Calls Tryz.prog 277 #[.agg #[.bool (decide (n<0)),.slice am wn cm]] w λe w'=>e=.returned (.int .i64 n.sign)/\Below w.heap.size w w':=by
 obtain⟨ws,hws,htr,_,hv⟩:=h;obtain⟨Ef,Eh,hq⟩:=hws.form;simp only[Value.slice.injEq] at hq;obtain⟨-,rfl,-⟩:=hq
 have hb0:∀ b,Below w.heap.size w (w.alloc (.cells #[.bool b,.slice am ws.length cm] 58)):=λb=>aA w _
 rcases Int.lt_trichotomy n 0 with hn|hn|hn
 ·have h0:0<ws.length:=List.length_pos_iff.2 λq=>by subst q;simp[jc] at hv;omega
  rw[jV hn,Int.sign_eq_neg_one_of_neg hn];have h0I:((ws.length:Int) == 0)=false:=Ea.2 (by omega);clear hws htr hv;go_enter Tryz.func277,Tryz.ntmps277;go_wp2;go_ret;exact⟨rfl,hb0 _⟩
 ·subst hn
  obtain rfl:ws=[]:=by
   rw[<- htr];exact yP _ (by rw[hv];rfl)
  clear hws htr hv;go_enter Tryz.func277,Tryz.ntmps277;go_wp2;go_ret;exact⟨rfl,hb0 _⟩
 ·have h0:0<ws.length:=List.length_pos_iff.2 λq=>by subst q;simp[jc] at hv;omega
  rw[dX (by omega:¬ n<0),Int.sign_eq_one_of_pos hn];have h0I:((ws.length:Int) == 0)=false:=Ea.2 (by omega);clear hws htr hv;go_enter Tryz.func277,Tryz.ntmps277;go_wp2;go_ret;exact⟨rfl,hb0 _⟩
variable{a b c st s3:aK}{ah:List Tok}{T:aH}{r:Int × aK}{d g d':Nat}{l:List Int}{k:Int}
def nC (a b:aK):Prop:=b.aj.length+2 * a.used<=a.aj.length+2 * b.used
theorem nC.refl (a:aK):nC a a:=bD _
theorem nC.trans (h:nC a b)(k:nC b c):nC a c:=by unfold nC at *;omega
theorem mW (ah:List Tok)(e:Nat)(st:aK):nC st (iA ah e st):=by
 unfold iA
 split<;>exact bD _
theorem oN (ah:List Tok)(d n:Nat)(st:aK):nC st (bg ah d n st):=by
 unfold bg
 split
 ·exact mW _ _ _
 ·exact nC.refl _
theorem Js (ah:List Tok)(st:aK):(aF ah st=(-1,st))\/((aF ah st).2.aj.length=st.aj.length+1/\(aF ah st).2.used=st.used+1):=by
 unfold aF
 split
 ·exact .inl rfl
 ·exact .inr ⟨by simp,rfl⟩
theorem mX (ah:List Tok)(st:aK):nC st (aF ah st).2:=by
 rcases Js ah st with h|⟨h1,h2⟩
 ·rw[h];exact nC.refl _
 ·unfold nC;omega
theorem fV (ah:List Tok)(l:List aH)(st:aK):nC st (aJ ah l st).2:=by
 unfold aJ
 split
 ·exact mX _ _
 ·exact mW _ _ _
theorem xJ (ah:List Tok)(k:Nat)(st:aK):nC st (bC ah k st).2:=by
 unfold bC
 split
 ·exact mX _ _
 ·exact mW _ _ _
theorem Vl (k:Int)(l:List Int)(st:aK):(bL k l st).2.used=st.used/\(bL k l st).2.aj.length<=st.aj.length+1/\((-1:Int)∈l->(bL k l st).2.aj.length=st.aj.length):=by
 unfold bL Ih
 split
 ·split
  ·exact⟨rfl,by simp,λ_=>rfl⟩
  ·rename_i hb
   refine⟨rfl,by simp,λh=>?_⟩;exact(hb (List.any_eq_true.2 ⟨-1,h,by simp⟩)).elim
 ·exact⟨rfl,by simp,λ_=>rfl⟩
theorem gL (ah:List Tok)(k:Int)(l:List Int)(st s3:aK)(h:nC (aF ah st).2 s3)(hm:(aF ah st).1∈l):nC st (bL k l s3).2:=by
 obtain⟨h1,h2,h3⟩:=Vl k l s3
 rcases Js ah st with hl|⟨l1,l2⟩
 ·rw[hl] at h hm
  have:=h3 hm;unfold nC at *;simp only at h;omega
 ·unfold nC at *
  omega
theorem Vm (ah:List Tok)(a:Int × aK):nC a.2 (oo ah a).2:=by
 unfold oo
 split
 ·exact(mX _ _).trans (xJ _ _ _)
 ·exact nC.refl _
theorem Ae (ah:List Tok)(one:aK->Option (Int × aK))(h1:∀ s k,one s=some k->nC s k.2):∀ (r:Nat) (aB:List Int) (st:aK) (l:List Int × aK),bE ah one r aB st=some l->nC st l.2
 | 0,aB,st,l,h=>by
  rw[bE] at h
  injection h with h
  subst h;show nC st (if st.fE=0 then iA ah 15 st else st)
  split
  ·exact mW _ _ _
  ·exact nC.refl _
 | r+1,aB,st,l,h=>by
  rw[bE] at h
  split at h
  ·injection h with h;subst h;exact nC.refl _
  ·obtain⟨k,hk,h⟩:=cZ h
   have:=h1 _ _ hk
   split at h
   ·exact(this.trans (mX _ _)).trans (Ae ah one h1 r _ _ _ h)
   ·injection h with h;subst h;exact this
theorem Jt (ah:List Tok)(one:aK->Option (Int × aK))(h1:∀ s k,one s=some k->nC s k.2)(st:aK)(l:List Int × aK)(h:jW ah one st=some l):nC st l.2:=by
 unfold jW at h
 split at h
 ·injection h with h;subst h;exact nC.refl _
 ·exact Ae ah one h1 _ _ _ _ h
theorem nU (ah:List Tok)(depth:Nat):∀ (g:Nat) (t:Task) (st:aK) (r:Int × aK),run ah depth g t st=some r->nC st r.2
 | 0,_,_,_,h=>by rw[run] at h;cases h
 | g+1,.expr aG,st,r,h=>by
  have ih:=nU ah depth g;rw[run] at h;have hd:=oN ah depth aG st;generalize bg ah depth aG st=s at h hd
  split at h
  ·injection h with h;subst h;exact hd
  split at h
  ·exact hd.trans (ih _ _ _ h)
  split at h
  ·obtain⟨d,h1,h⟩:=cZ h
   obtain⟨f,h2,h⟩:=cZ h
   injection h with h;subst h
   exact hd.trans (gL ah _ _ _ _ ((((xJ _ _ _).trans (fV _ _ _)).trans (ih _ _ _ h1)).trans ((fV _ _ _).trans (ih _ _ _ h2))) (by simp))
  split at h
  ·obtain⟨b,h1,h⟩:=cZ h
   obtain⟨d,h2,h⟩:=cZ h;obtain⟨f,h3,h⟩:=cZ h
   injection h with h;subst h
   exact hd.trans (gL ah _ _ _ _ ((((ih _ _ _ h1).trans (fV _ _ _)).trans (ih _ _ _ h2)).trans ((fV _ _ _).trans (ih _ _ _ h3))) (by simp))
  split at h
  ·obtain⟨b,h1,h⟩:=cZ h
   obtain⟨d,h2,h⟩:=cZ h
   injection h with h;subst h
   exact hd.trans (gL ah _ _ _ _ (((ih _ _ _ h1).trans (fV _ _ _)).trans (ih _ _ _ h2)) (by simp))
  ·exact hd.trans (ih _ _ _ h)
 | g+1,.formula aG,st,r,h=>by
  have ih:=nU ah depth g;rw[run] at h;obtain⟨a,h1,h⟩:=cZ h;have ha:=ih _ _ _ h1
  split at h
  ·have hd:=(ha.trans (mX ah a.2)).trans (oN ah depth (aG+1) _)
   split at h
   ·injection h with h;subst h;exact hd
   ·obtain⟨b,h2,h⟩:=cZ h
    injection h with h;subst h
    exact ha.trans (gL ah _ _ _ _ ((oN _ _ _ _).trans (ih _ _ _ h2)) (by simp))
  ·injection h with h;subst h;exact ha
 | g+1,.part l aG,st,r,h=>by
  have ih:=nU ah depth g;rw[run] at h
  split at h
  ·exact ih _ _ _ h
  ·split at h
   ·exact ih _ _ _ h
   ·exact ih _ _ _ h
 | g+1,.row l aG,st,r,h=>by
  have ih:=nU ah depth g;rw[run] at h;obtain⟨a,h1,h⟩:=cZ h;exact(ih _ _ _ h1).trans (ih _ _ _ h)
 | g+1,.loop l aG a,st,r,h=>by
  have ih:=nU ah depth g;rw[run] at h
  split at h
  ·obtain⟨b,h1,h⟩:=cZ h
   have hb:=gL ah 10 [a,(aF ah st).1,b.1] st _ (ih _ _ _ h1) (by simp)
   split at h
   ·injection h with h;subst h;exact hb
   ·exact hb.trans (ih _ _ _ h)
  ·injection h with h;subst h;exact nC.refl _
 | g+1,.neg aG,st,r,h=>by
  have ih:=nU ah depth g;rw[run] at h
  split at h
  ·have hd:=(mX ah st).trans (oN ah depth (aG+1) _)
   split at h
   ·injection h with h;subst h;exact hd
   ·obtain⟨b,h2,h⟩:=cZ h
    injection h with h;subst h
    exact gL ah _ _ _ _ ((oN _ _ _ _).trans (ih _ _ _ h2)) (by simp)
  ·exact ih _ _ _ h
 | g+1,.factor aG,st,r,h=>by
  have ih:=nU ah depth g;rw[run] at h
  split at h
  ·have hd:=(mX ah st).trans (oN ah depth (aG+1) _)
   split at h
   ·injection h with h;subst h;exact hd
   ·obtain⟨b,h2,h⟩:=cZ h
    injection h with h;subst h
    exact gL ah _ _ _ _ ((oN _ _ _ _).trans (ih _ _ _ h2)) (by simp)
  ·exact ih _ _ _ h
 | g+1,.atom aG,st,r,h=>by
  have ih:=nU ah depth g;rw[run] at h
  split at h
  ·injection h with h;subst h;exact nC.refl _
  split at h
  ·injection h with h;subst h;exact gL ah _ _ _ _ (nC.refl _) (by simp)
  split at h
  ·injection h with h;subst h;exact gL ah _ _ _ _ (nC.refl _) (by simp)
  split at h
  ·injection h with h;subst h;exact gL ah _ _ _ _ (nC.refl _) (by simp)
  split at h
  ·obtain⟨b,h1,h⟩:=cZ h
   injection h with h;subst h
   exact gL ah _ _ _ _ ((ih _ _ _ h1).trans (fV _ _ _)) (by simp)
  split at h
  ·exact ih _ _ _ h
  ·injection h with h;subst h;exact mW _ _ _
 | g+1,.name aG,st,r,h=>by
  have ih:=nU ah depth g;rw[run] at h
  split at h
  ·injection h with h;subst h;exact gL ah _ _ _ _ (nC.refl _) (by simp)
  ·obtain⟨l,h1,h⟩:=cZ h
   injection h with h;subst h
   exact gL ah _ _ _ _ (((Vm _ _).trans (fV _ _ _)).trans ((Jt ah _ (λs k hk=>ih _ _ _ hk) _ _ h1).trans (fV _ _ _))) (by unfold oo;split<;>simp)
def rW (ah:List Tok)(a b:aK):Prop:=a.used<=ah.length->b.used<=ah.length
theorem rW.refl {ah:List Tok}(a:aK):rW ah a a:=λh=>h
theorem rW.trans (h:rW ah a b)(k:rW ah b c):rW ah a c:=λq=>k (h q)
theorem qP (ah:List Tok)(e:Nat)(st:aK):rW ah st (iA ah e st):=by
 unfold iA
 split
 ·exact λh=>h
 ·exact rW.refl _
theorem dH (ah:List Tok)(st:aK):rW ah st (aF ah st).2:=by
 intro h;unfold aF
 split
 ·exact h
 ·simp only;omega
theorem dN (k:Int)(l:List Int)(st:aK):rW ah st (bL k l st).2:=by
 unfold bL Ih
 split
 ·split
  ·exact rW.refl _
  ·exact λh=>h
 ·exact rW.refl _
theorem eF (ah:List Tok)(l:List aH)(st:aK):rW ah st (aJ ah l st).2:=by
 unfold aJ
 split
 ·exact dH _ _
 ·exact qP _ _ _
theorem qQ (ah:List Tok)(k:Nat)(st:aK):rW ah st (bC ah k st).2:=by
 unfold bC
 split
 ·exact dH _ _
 ·exact qP _ _ _
theorem xK (ah:List Tok)(d n:Nat)(st:aK):rW ah st (bg ah d n st):=by
 unfold bg
 split
 ·exact qP _ _ _
 ·exact rW.refl _
theorem Vn (ah:List Tok)(a:Int × aK):rW ah a.2 (oo ah a).2:=by
 unfold oo
 split
 ·exact(dH _ _).trans (qQ _ _ _)
 ·exact rW.refl _
theorem Af (ah:List Tok)(one:aK->Option (Int × aK))(h1:∀ s k,one s=some k->rW ah s k.2):∀ (r:Nat) (aB:List Int) (st:aK) (l:List Int × aK),bE ah one r aB st=some l->rW ah st l.2
 | 0,aB,st,l,h=>by
  rw[bE] at h
  injection h with h
  subst h;show rW ah st (if st.fE=0 then iA ah 15 st else st)
  split
  ·exact qP _ _ _
  ·exact rW.refl _
 | r+1,aB,st,l,h=>by
  rw[bE] at h
  split at h
  ·injection h with h;subst h;exact rW.refl _
  ·obtain⟨k,hk,h⟩:=cZ h
   have:=h1 _ _ hk
   split at h
   ·exact(this.trans (dH _ _)).trans (Af ah one h1 r _ _ _ h)
   ·injection h with h;subst h;exact this
theorem Ju (ah:List Tok)(one:aK->Option (Int × aK))(h1:∀ s k,one s=some k->rW ah s k.2)(st:aK)(l:List Int × aK)(h:jW ah one st=some l):rW ah st l.2:=by
 unfold jW at h
 split at h
 ·injection h with h;subst h;exact rW.refl _
 ·exact Af ah one h1 _ _ _ _ h
theorem nV (ah:List Tok)(depth:Nat):∀ (g:Nat) (t:Task) (st:aK) (r:Int × aK),run ah depth g t st=some r->rW ah st r.2
 | 0,_,_,_,h=>by rw[run] at h;cases h
 | g+1,.expr aG,st,r,h=>by
  have ih:=nV ah depth g;rw[run] at h;have hd:=xK ah depth aG st;generalize bg ah depth aG st=s at h hd
  split at h
  ·injection h with h;subst h;exact hd
  split at h
  ·exact hd.trans (ih _ _ _ h)
  split at h
  ·obtain⟨d,h1,h⟩:=cZ h
   obtain⟨f,h2,h⟩:=cZ h
   injection h with h;subst h
   exact(((((hd.trans (dH _ _)).trans (qQ _ _ _)).trans (eF _ _ _)).trans (ih _ _ _ h1)).trans (eF _ _ _)).trans ((ih _ _ _ h2).trans (dN _ _ _))
  split at h
  ·obtain⟨b,h1,h⟩:=cZ h
   obtain⟨d,h2,h⟩:=cZ h;obtain⟨f,h3,h⟩:=cZ h
   injection h with h;subst h
   exact(((((hd.trans (dH _ _)).trans (ih _ _ _ h1)).trans (eF _ _ _)).trans (ih _ _ _ h2)).trans (eF _ _ _)).trans ((ih _ _ _ h3).trans (dN _ _ _))
  split at h
  ·obtain⟨b,h1,h⟩:=cZ h
   obtain⟨d,h2,h⟩:=cZ h
   injection h with h;subst h
   exact(((hd.trans (dH _ _)).trans (ih _ _ _ h1)).trans (eF _ _ _)).trans ((ih _ _ _ h2).trans (dN _ _ _))
  ·exact hd.trans (ih _ _ _ h)
 | g+1,.formula aG,st,r,h=>by
  have ih:=nV ah depth g;rw[run] at h;obtain⟨a,h1,h⟩:=cZ h;have ha:=ih _ _ _ h1
  split at h
  ·have hd:=(ha.trans (dH ah a.2)).trans (xK ah depth (aG+1) _)
   split at h
   ·injection h with h;subst h;exact hd
   ·obtain⟨b,h2,h⟩:=cZ h
    injection h with h;subst h
    exact(hd.trans (ih _ _ _ h2)).trans (dN _ _ _)
  ·injection h with h;subst h;exact ha
 | g+1,.part l aG,st,r,h=>by
  have ih:=nV ah depth g;rw[run] at h
  split at h
  ·exact ih _ _ _ h
  ·split at h
   ·exact ih _ _ _ h
   ·exact ih _ _ _ h
 | g+1,.row l aG,st,r,h=>by
  have ih:=nV ah depth g;rw[run] at h;obtain⟨a,h1,h⟩:=cZ h;exact(ih _ _ _ h1).trans (ih _ _ _ h)
 | g+1,.loop l aG a,st,r,h=>by
  have ih:=nV ah depth g;rw[run] at h
  split at h
  ·obtain⟨b,h1,h⟩:=cZ h
   have hb:=((dH ah st).trans (ih _ _ _ h1)).trans (dN 10 [a,(aF ah st).1,b.1] _)
   split at h
   ·injection h with h;subst h;exact hb
   ·exact hb.trans (ih _ _ _ h)
  ·injection h with h;subst h;exact rW.refl _
 | g+1,.neg aG,st,r,h=>by
  have ih:=nV ah depth g;rw[run] at h
  split at h
  ·have hd:=(dH ah st).trans (xK ah depth (aG+1) _)
   split at h
   ·injection h with h;subst h;exact hd
   ·obtain⟨b,h2,h⟩:=cZ h
    injection h with h;subst h
    exact(hd.trans (ih _ _ _ h2)).trans (dN _ _ _)
  ·exact ih _ _ _ h
 | g+1,.factor aG,st,r,h=>by
  have ih:=nV ah depth g;rw[run] at h
  split at h
  ·have hd:=(dH ah st).trans (xK ah depth (aG+1) _)
   split at h
   ·injection h with h;subst h;exact hd
   ·obtain⟨b,h2,h⟩:=cZ h
    injection h with h;subst h
    exact(hd.trans (ih _ _ _ h2)).trans (dN _ _ _)
  ·exact ih _ _ _ h
 | g+1,.atom aG,st,r,h=>by
  have ih:=nV ah depth g;rw[run] at h
  split at h
  ·injection h with h;subst h;exact rW.refl _
  split at h
  ·injection h with h;subst h;exact(dH _ _).trans (dN _ _ _)
  split at h
  ·injection h with h;subst h;exact(dH _ _).trans (dN _ _ _)
  split at h
  ·injection h with h;subst h;exact(dH _ _).trans (dN _ _ _)
  split at h
  ·obtain⟨b,h1,h⟩:=cZ h
   injection h with h;subst h
   exact(((dH _ _).trans (ih _ _ _ h1)).trans (eF _ _ _)).trans (dN _ _ _)
  split at h
  ·exact ih _ _ _ h
  ·injection h with h;subst h;exact qP _ _ _
 | g+1,.name aG,st,r,h=>by
  have ih:=nV ah depth g;rw[run] at h
  split at h
  ·injection h with h;subst h;exact(dH _ _).trans (dN _ _ _)
  ·obtain⟨l,h1,h⟩:=cZ h
   injection h with h;subst h
   exact((((dH _ _).trans (Vn _ _)).trans (eF _ _ _)).trans (Ju ah _ (λs k hk=>ih _ _ _ hk) _ _ h1)).trans ((eF _ _ _).trans (dN _ _ _))
inductive ad7 where
 | bad (e a:Nat)
 | good (ah:List Tok) (aj:List Nd)
def Br (ah:List Tok):Nat:=20 * ah.length+18
def Iq (ah:List Tok)(st:aK):ad7:=if st.fE=0 then .good ah st.aj else .bad st.fE st.fAt
theorem Laid.afV {p:Nat}{l:List Tok}(h:Laid T p l){u:Nat}(hu:u<l.length)(h5:gW l u=5):u+1=l.length:=by
 unfold gW dx at h5;rw[Nat.min_eq_left (by omega),Kr,AY hu] at h5;have:=(h.last u hu).1 h5;omega
theorem Laid.Yv {p:Nat}{l:List Tok}(h:Laid T p l):iQ l:=by
 have h0:=h.some;unfold iQ dx;rw[Nat.min_eq_right (by omega),Kr,AY (by omega)];exact(h.last _ (by omega)).2 rfl
mutual
theorem KT:∀ (t:PT) (b u:Nat),∀ n∈t.em b u,n.aB.length<=t.nd
 | .leaf,b,u,n,h=>by
  rw[PT.em,Ia] at h;subst h
  simp
 | .node k l,b,u,n,h=>by
  rw[PT.em,List.mem_append,Ia] at h;rw[PT.nd]
  rcases h with h|h
  ·have:=Ni l b u n h
   omega
  ·subst h
   have:=Tv l b;simp only;omega
theorem Ni:∀ (l:List PT) (b u:Nat),∀ n∈zP b u l,n.aB.length<=eZ l
 | [],b,u,n,h=>by rw[zP] at h;cases h
 | t :: l,b,u,n,h=>by
  rw[zP,List.mem_append] at h;rw[eZ]
  rcases h with h|h
  ·have:=KT t _ _ n h
   omega
  ·have:=Ni l _ _ n h
   omega
theorem Tv:∀ (l:List PT) (b:Nat),(dA b l).length<=eZ l
 | [],b=>by simp[dA]
 | t :: l,b=>by
  have:=Tv l (b+t.nd);have hp:=t.iF;rw[dA,eZ,fu];omega
end
def Bt:aH:=[112,117,98]
def sF:aH:=[105,109,112,111,114,116]
def Ir:aH:=[102,117,110]
def Iu:aH:=[105,110,116]
def vG:aH:=[98,111,111,108]
def kR (ah:List Tok)(st:aK):Int × aK:=aJ ah [[58]] st
def ze (ah:List Tok)(st:aK):Int × aK:=aJ ah [Iu,vG] (kR ah st).2
def eG (ah:List Tok)(st:aK):Int × aK:=bL 5 [(ze ah st).1] (ze ah st).2
def kS (st:aK)(c:Bool):aK:={ st with aC:=c }
def jS (ah:List Tok)(d g:Nat)(st:aK):Option (Int × aK) :=
 (run ah d g (.expr 1) (kS (aF ah st).2 true)).bind λf =>
  some (bL 6 [(aF ah st).1,f.1,(aJ ah [[125]] (kS f.2 st.aC)).1] (aJ ah [[125]] (kS f.2 st.aC)).2)
def iI (ah:List Tok)(d g:Nat)(aB:List Int)(st:aK):Option (List Int × aK) :=
 if (eG ah st).2.fE=0/\bF ah (eG ah st).2 [[123]]=true then
  (jS ah d g (eG ah st).2).bind λn=>some (aB++[(kR ah st).1,(eG ah st).1,n.1],n.2)
 else some (aB++[(kR ah st).1,(eG ah st).1],(eG ah st).2)
def jI (ah:List Tok)(d g:Nat)(st:aK):Option (Int × aK) :=
 (iI ah d g [(bC ah 1 st).1] (bC ah 1 st).2).bind λl=>some (bL 4 l.1 l.2)
def pI (ah:List Tok)(st:aK):Int × aK :=
 bL 2 [(aF ah st).1,(bC ah 1 (aF ah st).2).1,(aJ ah [[59]] (bC ah 1 (aF ah st).2).2).1] (aJ ah [[59]] (bC ah 1 (aF ah st).2).2).2
def oO (ah:List Tok)(st:aK):List Int × aK:=if bF ah st [Bt]=true then ([(aF ah st).1],(aF ah st).2) else ([],st)
def sQ (ah:List Tok)(st:aK):Int × aK:=aJ ah [Ir] (oO ah st).2
def lT (ah:List Tok)(st:aK):Int × aK:=bC ah 1 (sQ ah st).2
def jJ (ah:List Tok)(st:aK):Int × aK:=aJ ah [[40]] (lT ah st).2
def yh (ah:List Tok)(d g:Nat)(st:aK):Option (Int × aK) :=
 (jW ah (jI ah d g) (jJ ah st).2).bind λl =>
  (iI ah d g ((oO ah st).1++[(sQ ah st).1,(lT ah st).1,(jJ ah st).1]++l.1++[(aJ ah [[41]] l.2).1]) (aJ ah [[41]] l.2).2).bind λt =>
   (run ah d g (.expr 1) (aJ ah [[61]] t.2).2).bind λf =>
    some (bL 3 (t.1++[(aJ ah [[61]] t.2).1,f.1,(aJ ah [[59]] f.2).1]) (aJ ah [[59]] f.2).2)
def jT (ah:List Tok)(one:aK->Option (Int × aK))(first:List aH):Nat->List Int->aK->Option (List Int × aK)
 | 0,aB,st=>some (aB,if st.fE=0/\bF ah st first=true then iA ah 15 st else st)
 | r+1,aB,st=>if st.fE=0/\bF ah st first=true then (one st).bind λk=>jT ah one first r (aB++[k.1]) k.2 else some (aB,st)
def qE (ah:List Tok)(d g:Nat)(st:aK):Option (Int × aK) :=
 (jT ah (λs=>some (pI ah s)) [sF] 16 [] st).bind λa =>
  (jT ah (yh ah d g) [Bt,Ir] 64 [] a.2).bind λb =>
   some (bL 1 (a.1++b.1++[(bC ah 5 b.2).1]) (bC ah 5 b.2).2)
def ji (S:aH)(d:Nat):ad7 :=
 match dQ S with
 | .error x=>.bad x.1 x.2
 | .ok ah=>match qE ah d (Br ah) lQ with
  | none=>.bad 99 0
  | some a=>Iq ah a.2
theorem Bu (ah:List Tok)(st:aK):dR st (eG ah st).2:=((aN _ _ _).trans (aN _ _ _)).trans (aM _ _ _)
theorem CJ (h:jS ah d g st=some r):dR st r.2:=by
 unfold jS at h;obtain⟨f,h1,h⟩:=cZ h;obtain rfl:=lG h;have e1:=aQ ah st;have e2:=bA ah d g _ _ _ h1
 have e3:dR st (kS f.2 st.aC):=⟨jq e1.1 e2.1,λq=>by
  have q1:=e1.2.1 q;have q2:=e2.2.1 (show (aF ah st).2.fE≠0 by rw[q1];exact q)
  exact q2.trans q1,rfl,jq e1.2.2.2 e2.2.2.2⟩
 exact(e3.trans (aN _ _ _)).trans (aM _ _ _)
theorem jU {aB:List Int}{r:List Int × aK}(h:iI ah d g aB st=some r):dR st r.2:=by
 unfold iI at h
 split at h
 ·obtain⟨n,h1,h⟩:=cZ h
  obtain rfl:=lG h;exact(Bu _ _).trans (CJ h1)
 ·injection h with h;subst h
  exact Bu _ _
theorem kT (st:aK)(r:Int × aK)(h:jI ah d g st=some r):dR st r.2:=by
 unfold jI at h;obtain⟨l,h1,h⟩:=cZ h;obtain rfl:=lG h;exact((fF _ _ _).trans (jU h1)).trans (aM _ _ _)
theorem Nj (ah:List Tok)(st:aK):dR st (pI ah st).2:=(((aQ _ _).trans (fF _ _ _)).trans (aN _ _ _)).trans (aM _ _ _)
theorem Nk (ah:List Tok)(st:aK):dR st (oO ah st).2:=by
 unfold oO
 split
 ·exact aQ _ _
 ·exact dR.refl _
theorem Fv (ah:List Tok)(st:aK):dR st (jJ ah st).2:=(((Nk _ _).trans (aN _ _ _)).trans (fF _ _ _)).trans (aN _ _ _)
theorem wI (st:aK)(r:Int × aK)(h:yh ah d g st=some r):dR st r.2:=by
 unfold yh at h;obtain⟨l,h1,h⟩:=cZ h;obtain⟨t,h2,h⟩:=cZ h;obtain⟨f,h3,h⟩:=cZ h;obtain rfl:=lG h;exact((((((Fv _ _).trans (mP ah _ kT _ _ h1)).trans (aN _ _ _)).trans (jU h2)).trans (aN _ _ _)).trans (bA _ _ _ _ _ _ h3)).trans ((aN _ _ _).trans (aM _ _ _))
theorem qd {ah:List Tok}{one:aK->Option (Int × aK)}{first:List aH}(h1:∀ s k,one s=some k->dR s k.2):∀ (r:Nat) (aB:List Int) (st:aK) (l:List Int × aK),jT ah one first r aB st=some l->dR st l.2
 | 0,aB,st,l,h=>by
  rw[jT] at h;obtain rfl:=lG h;show dR st (if _ then _ else _)
  split
  ·exact qN _ _ _
  ·exact dR.refl _
 | r+1,aB,st,l,h=>by
  rw[jT] at h
  split at h
  ·obtain⟨k,hk,h⟩:=cZ h
   exact(h1 _ _ hk).trans (qd h1 r _ _ _ h)
  ·injection h with h;subst h
   exact dR.refl _
theorem wJ (ah:List Tok)(s:aK)(k:Int × aK)(h:(λs=>some (pI ah s)) s=some k):dR s k.2:=by
 obtain rfl:=lG h;exact Nj _ _
theorem Nl (h:jS ah d g st=some r):rW ah st r.2:=by
 unfold jS at h;obtain⟨f,h1,h⟩:=cZ h;obtain rfl:=lG h;have e2:=nV ah d g _ _ _ h1
 have e3:rW ah st (kS f.2 st.aC):=λq=>e2 (dH ah st q)
 exact(e3.trans (eF _ _ _)).trans (dN _ _ _)
theorem Fw {aB:List Int}{r:List Int × aK}(h:iI ah d g aB st=some r):rW ah st r.2:=by
 have hb:rW ah st (eG ah st).2:=((eF _ _ _).trans (eF _ _ _)).trans (dN _ _ _);unfold iI at h
 split at h
 ·obtain⟨n,h1,h⟩:=cZ h
  obtain rfl:=lG h;exact hb.trans (Nl h1)
 ·injection h with h;subst h
  exact hb
theorem QM (st:aK)(r:Int × aK)(h:jI ah d g st=some r):rW ah st r.2:=by
 unfold jI at h;obtain⟨l,h1,h⟩:=cZ h;obtain rfl:=lG h;exact((qQ _ _ _).trans (Fw h1)).trans (dN _ _ _)
theorem Nn (ah:List Tok)(s:aK)(k:Int × aK)(h:(λs=>some (pI ah s)) s=some k):rW ah s k.2:=by
 obtain rfl:=lG h;exact(((dH _ _).trans (qQ _ _ _)).trans (eF _ _ _)).trans (dN _ _ _)
theorem QN (ah:List Tok)(st:aK):rW ah st (jJ ah st).2:=by
 have hp:rW ah st (oO ah st).2:=by
  unfold oO
  split
  ·exact dH _ _
  ·exact rW.refl _
 exact((hp.trans (eF _ _ _)).trans (qQ _ _ _)).trans (eF _ _ _)
theorem Yw (st:aK)(r:Int × aK)(h:yh ah d g st=some r):rW ah st r.2:=by
 unfold yh at h;obtain⟨l,h1,h⟩:=cZ h;obtain⟨t,h2,h⟩:=cZ h;obtain⟨f,h3,h⟩:=cZ h;obtain rfl:=lG h;exact((((((QN _ _).trans (Ju ah _ QM _ _ h1)).trans (eF _ _ _)).trans (Fw h2)).trans (eF _ _ _)).trans (nV _ _ _ _ _ _ h3)).trans ((eF _ _ _).trans (dN _ _ _))
theorem Fx {ah:List Tok}{one:aK->Option (Int × aK)}{first:List aH}(h1:∀ s k,one s=some k->rW ah s k.2):∀ (r:Nat) (aB:List Int) (st:aK) (l:List Int × aK),jT ah one first r aB st=some l->rW ah st l.2
 | 0,aB,st,l,h=>by
  rw[jT] at h;obtain rfl:=lG h;show rW ah st (if _ then _ else _)
  split
  ·exact qP _ _ _
  ·exact rW.refl _
 | r+1,aB,st,l,h=>by
  rw[jT] at h
  split at h
  ·obtain⟨k,hk,h⟩:=cZ h
   exact(h1 _ _ hk).trans (Fx h1 r _ _ _ h)
  ·injection h with h;subst h
   exact rW.refl _
theorem Jv (h:qE ah d g st=some r):rW ah st r.2:=by
 unfold qE at h;obtain⟨a,h1,h⟩:=cZ h;obtain⟨b,h2,h⟩:=cZ h;obtain rfl:=lG h;exact(((Fx (Nn ah) _ _ _ _ h1).trans (Fx Yw _ _ _ _ h2)).trans (qQ _ _ _)).trans (dN _ _ _)
theorem Fy (hdd:d<=d')(h:jS ah d g st=some r)(hr:r.2.fE=0):jS ah d' g st=some r:=by
 unfold jS at h |-;obtain⟨f,h1,h⟩:=cZ h;obtain rfl:=lG h;have h0:(kS f.2 st.aC).fE=0:=((aN _ _ _).trans (aM _ _ _)).zero hr;rw[iG ah d d' hdd g _ _ _ h1 h0,pO]
theorem yx (hdd:d<=d'){aB:List Int}{r:List Int × aK}(h:iI ah d g aB st=some r)(hr:r.2.fE=0):iI ah d' g aB st=some r:=by
 unfold iI at h |-
 split at h
 ·rename_i hc
  rw[bR hc];obtain⟨n,h1,h⟩:=cZ h;obtain rfl:=lG h;rw[Fy hdd h1 hr,pO]
 ·rename_i hc
  rw[aU hc];exact h
theorem Iw (hdd:d<=d')(st:aK)(r:Int × aK)(h:jI ah d g st=some r)(hr:r.2.fE=0):jI ah d' g st=some r:=by
 unfold jI at h |-;obtain⟨l,h1,h⟩:=cZ h;obtain rfl:=lG h;rw[yx hdd h1 ((aM _ _ _).zero hr),pO]
theorem Np (hdd:d<=d')(st:aK)(r:Int × aK)(h:yh ah d g st=some r)(hr:r.2.fE=0):yh ah d' g st=some r:=by
 unfold yh at h |-;obtain⟨l,h1,h⟩:=cZ h;obtain⟨t,h2,h⟩:=cZ h;obtain⟨f,h3,h⟩:=cZ h;obtain rfl:=lG h;have z3:f.2.fE=0:=((aN _ _ _).trans (aM _ _ _)).zero hr;have z2:t.2.fE=0:=((aN _ _ _).trans (bA _ _ _ _ _ _ h3)).zero z3;have z1:l.2.fE=0:=((aN _ _ _).trans (jU h2)).zero z2;rw[Aa ah _ _ kT (Iw hdd) _ _ h1 z1,pO,yx hdd h2 z2,pO,iG ah d d' hdd g _ _ _ h3 z3,pO]
theorem CK {ah:List Tok}{one one':aK->Option (Int × aK)}{first:List aH}(h1:∀ s k,one s=some k->dR s k.2)(h2:∀ s k,one s=some k->k.2.fE=0->one' s=some k):∀ (r:Nat) (aB:List Int) (st:aK) (l:List Int × aK),jT ah one first r aB st=some l->l.2.fE=0->jT ah one' first r aB st=some l
 | 0,aB,st,l,h,_=>by rw[jT] at h |-;exact h
 | r+1,aB,st,l,h,hl=>by
  rw[jT] at h |-
  split at h
  ·rename_i hc
   rw[bR hc];obtain⟨k,hk,h⟩:=cZ h;rw[h2 _ _ hk ((qd h1 r _ _ _ h).zero hl),pO];exact CK h1 h2 r _ _ _ h hl
  ·rename_i hc
   rw[aU hc];exact h
theorem KU (hdd:d<=d')(h:qE ah d g st=some r)(hr:r.2.fE=0):qE ah d' g st=some r:=by
 unfold qE at h |-;obtain⟨a,h1,h⟩:=cZ h;obtain⟨b,h2,h⟩:=cZ h;obtain rfl:=lG h;have z2:b.2.fE=0:=((fF _ _ _).trans (aM _ _ _)).zero hr;rw[h1,pO,CK wI (Np hdd) _ _ _ _ h2 z2,pO]
theorem Fz (hE:iQ ah)(d:Nat)(st:aK):∃ f,run ah d (Br ah) (.expr 1) st=some f :=
 j6 ah d hE (Br ah) (.expr 1) st trivial (by simp only[fO,jX,Br];omega)
theorem Iy (hE:iQ ah)(d:Nat)(st:aK):∃ r,jS ah d (Br ah) st=some r:=by
 obtain⟨f,hf⟩:=Fz hE d (kS (aF ah st).2 true);unfold jS;rw[hf];exact⟨_,rfl⟩
theorem Ag (hE:iQ ah)(d:Nat)(aB:List Int)(st:aK):∃ r,iI ah d (Br ah) aB st=some r:=by
 unfold iI
 split
 ·obtain⟨n,hn⟩:=Iy hE d (eG ah st).2
  rw[hn];exact⟨_,rfl⟩
 ·exact⟨_,rfl⟩
theorem KV (hE:iQ ah)(d:Nat)(st:aK):∃ r,jI ah d (Br ah) st=some r:=by
 obtain⟨l,hl⟩:=Ag hE d [(bC ah 1 st).1] (bC ah 1 st).2;unfold jI;rw[hl];exact⟨_,rfl⟩
theorem QO (hE:iQ ah)(d:Nat)(st:aK):∃ r,yh ah d (Br ah) st=some r:=by
 have h1:∃ l,jW ah (jI ah d (Br ah)) (jJ ah st).2=some l:=by
  unfold jW
  split
  ·exact⟨_,rfl⟩
  ·exact qV ah _ 0 (λs _=>by
    obtain⟨k,hk⟩:=KV hE d s
    exact⟨k,hk,kT _ _ hk⟩) _ _ _ (.inl (kJ _))
 obtain⟨l,h1⟩:=h1;unfold yh;rw[h1,pO];obtain⟨t,h2⟩:=Ag hE d ((oO ah st).1++[(sQ ah st).1,(lT ah st).1,(jJ ah st).1]++l.1++[(aJ ah [[41]] l.2).1]) (aJ ah [[41]] l.2).2;rw[h2,pO];obtain⟨f,h3⟩:=Fz hE d (aJ ah [[61]] t.2).2;rw[h3,pO];exact⟨_,rfl⟩
theorem zf {ah:List Tok}{one:aK->Option (Int × aK)}{first:List aH}(h1:∀ s,∃ k,one s=some k):∀ (r:Nat) (aB:List Int) (st:aK),∃ l,jT ah one first r aB st=some l
 | 0,aB,st=>⟨_,rfl⟩
 | r+1,aB,st=>by
  rw[jT]
  split
  ·obtain⟨k,hk⟩:=h1 st
   rw[hk,pO];exact zf h1 r _ _
  ·exact⟨_,rfl⟩
theorem CO (hE:iQ ah)(d:Nat)(st:aK):∃ r,qE ah d (Br ah) st=some r:=by
 obtain⟨a,h1⟩:=zf (ah:=ah) (one:=λs=>some (pI ah s)) (first:=[sF]) (λs=>⟨_,rfl⟩) 16 [] st;obtain⟨b,h2⟩:=zf (ah:=ah) (first:=[Bt,Ir]) (QO hE d) 64 [] a.2;unfold qE;rw[h1,pO,h2,pO];exact⟨_,rfl⟩
theorem Nq (h:st.fE≠0):(bL k l st).2=st:=by
 unfold bL;rw[aU h]
theorem Jw {ts:List aH}(h:nC (aJ ah ts st).2 s3)(he:dR (aJ ah ts st).2 s3)(hm:(aJ ah ts st).1∈l):nC st (bL k l s3).2:=by
 unfold aJ at h he hm
 split at h
 ·rename_i hc
  rw[bR hc] at he hm;exact gL ah k l st s3 h hm
 ·rename_i hc
  rw[aU hc] at he;have hf:=he.2.1 (nM (by decide) st);have h0:(iA ah 22 st).fE≠0:=nM (by decide) st;rw[Nq (by rw[hf];exact h0)];exact(mW _ _ _).trans h
theorem Jy {c:Nat}(h:nC (bC ah c st).2 s3)(he:dR (bC ah c st).2 s3)(hm:(bC ah c st).1∈l):nC st (bL k l s3).2:=by
 unfold bC at h he hm
 split at h
 ·rename_i hc
  rw[bR hc] at he hm;exact gL ah k l st s3 h hm
 ·rename_i hc
  rw[aU hc] at he;have hf:=he.2.1 (nM (by decide) st);have h0:(iA ah 22 st).fE≠0:=nM (by decide) st;rw[Nq (by rw[hf];exact h0)];exact(mW _ _ _).trans h
theorem Jz (ah:List Tok)(st:aK):nC st (eG ah st).2 :=
 (fV _ _ _).trans (Jw (nC.refl _) (dR.refl _) (Ia.2 rfl))
theorem Nr (h:jS ah d g st=some r):nC st r.2:=by
 unfold jS at h;obtain⟨f,h1,h⟩:=cZ h;obtain rfl:=lG h;have e2:nC (kS (aF ah st).2 true) f.2:=nU ah d g _ _ _ h1;have e3:nC (aF ah st).2 (kS f.2 st.aC):=e2;exact gL ah 6 _ st _ (e3.trans (fV _ _ _)) Cu
theorem FB {aB:List Int}{r:List Int × aK}(h:iI ah d g aB st=some r):nC st r.2/\∀ k∈aB,k∈r.1:=by
 unfold iI at h
 split at h
 ·obtain⟨n,h1,h⟩:=cZ h
  obtain rfl:=lG h;exact⟨(Jz _ _).trans (Nr h1),λk hk=>abp _ hk⟩
 ·obtain rfl:=lG h
  exact⟨Jz _ _,λk hk=>abp _ hk⟩
theorem QS (st:aK)(r:Int × aK)(h:jI ah d g st=some r):nC st r.2:=by
 unfold jI at h;obtain⟨l,h1,h⟩:=cZ h;obtain rfl:=lG h;obtain⟨h2,h3⟩:=FB h1;exact Jy h2 (jU h1) (h3 _ Cu)
theorem Ns (ah:List Tok)(s:aK)(k:Int × aK)(h:(λs=>some (pI ah s)) s=some k):nC s k.2:=by
 obtain rfl:=lG h;exact gL ah 2 _ s _ ((xJ _ _ _).trans (fV _ _ _)) Cu
theorem Yx (st:aK)(r:Int × aK)(h:yh ah d g st=some r):nC st r.2:=by
 unfold yh at h;obtain⟨l,h1,h⟩:=cZ h;obtain⟨t,h2,h⟩:=cZ h;obtain⟨f,h3,h⟩:=cZ h;obtain rfl:=lG h
 have hp:nC st (oO ah st).2:=by
  unfold oO
  split
  ·exact mX _ _
  ·exact nC.refl _
 obtain⟨t1,t2⟩:=FB h2;have e1:nC (sQ ah st).2 (aJ ah [[59]] f.2).2:=(((((((xJ _ _ _).trans (fV _ _ _)).trans (Jt ah _ QS _ _ h1)).trans (fV _ _ _)).trans t1).trans (fV _ _ _)).trans (nU _ _ _ _ _ _ h3)).trans (fV _ _ _);have e2:dR (sQ ah st).2 (aJ ah [[59]] f.2).2:=(((((((fF _ _ _).trans (aN _ _ _)).trans (mP ah _ kT _ _ h1)).trans (aN _ _ _)).trans (jU h2)).trans (aN _ _ _)).trans (bA _ _ _ _ _ _ h3)).trans (aN _ _ _);exact hp.trans (Jw e1 e2 (abp _ (t2 _ (by show (sQ ah st).1∈_;simp))))
theorem FC {ah:List Tok}{one:aK->Option (Int × aK)}{first:List aH}(h1:∀ s k,one s=some k->nC s k.2):∀ (r:Nat) (aB:List Int) (st:aK) (l:List Int × aK),jT ah one first r aB st=some l->nC st l.2
 | 0,aB,st,l,h=>by
  rw[jT] at h;obtain rfl:=lG h;show nC st (if _ then _ else _)
  split
  ·exact mW _ _ _
  ·exact nC.refl _
 | r+1,aB,st,l,h=>by
  rw[jT] at h
  split at h
  ·obtain⟨k,hk,h⟩:=cZ h
   exact(h1 _ _ hk).trans (FC h1 r _ _ _ h)
  ·obtain rfl:=lG h
   exact nC.refl _
theorem JA (h:qE ah d g st=some r):nC st r.2:=by
 unfold qE at h;obtain⟨a,h1,h⟩:=cZ h;obtain⟨b,h2,h⟩:=cZ h;obtain rfl:=lG h;exact((FC (Ns ah) _ _ _ _ h1).trans (FC Yx _ _ _ _ h2)).trans (Jy (nC.refl _) (dR.refl _) (by simp))
theorem FD {ah:List Tok}{one:aK->Option (Int × aK)}{first:List aH}:∀ (r:Nat) (aB:List Int) (st:aK) (l:List Int × aK),jT ah one first r aB st=some l->l.1.length<=aB.length+r
 | 0,aB,st,l,h=>by
  rw[jT] at h;obtain rfl:=lG h;exact bD _
 | r+1,aB,st,l,h=>by
  rw[jT] at h
  split at h
  ·obtain⟨k,hk,h⟩:=cZ h
   have:=FD r _ _ _ h;rw[bY,List.length_singleton] at this;omega
  ·obtain rfl:=lG h
   exact Nat.le_add_right _ _
def QT (ah:List Tok)(st:aK)(r:Int × aK)(t:PT):Prop:=fH st [t] r.2/\r.1=((st.aj.length+t.nd:Nat):Int) - 1/\(st.used<ah.length->r.2.used<ah.length)
theorem Xf.p {e:CE}(h:Xf ah st r e):QT ah st r e.pt:=⟨h.1,h.2.1,h.2.2.2⟩
theorem fH.Yy {l:List PT}{k:Nat}{ids:List Int}(h:fH a l b)(adM:ids=dA a.aj.length l)(hf:(bL k ids b).2.fE=0)(hu:a.used<ah.length->b.used<ah.length):QT ah a (bL k ids b) (.node k l):=by
 subst adM;obtain⟨h1,h2⟩:=h.node (sw hf) k;refine⟨h1,by rw[h2,PT.nd];omega,λq=>?_⟩;have h3:=h1.used;have h4:=h.used;have h5:=hu q;rw[h3];rw[h4] at h5
 simpa [bU,PT.lv] using h5
def IG (a:aK)(ids:List Int)(l:List PT)(b:aK):Prop:=fH a l b/\ids=dA a.aj.length l
theorem IG.append {a b c:aK}{i j:List Int}{l k:List PT}(h:IG a i l b)(h2:IG b j k c):IG a (i++j) (l++k) c :=
 ⟨h.1.append h2.1,by rw[h.2,h2.2,pW,h.1.len]⟩
theorem IG.leaf {a b:aK}{x:Int}(h:fH a [.leaf] b)(hx:x=((a.aj.length:Nat):Int)):IG a [x] [.leaf] b:=⟨h,by simp[dA,PT.nd,hx]⟩
theorem IG.res {t:PT}{x:Int}(h:fH a [t] b)(hx:x=((a.aj.length+t.nd:Nat):Int) - 1):IG a [x] [t] b:=⟨h,by simp[dA,hx]⟩
def kU:List PT->List PT
 | []=>[]
 | t :: l=>t :: (match l with | []=>[]|_ :: _=>.leaf :: kU l)
theorem xL (t:PT):kU [t]=[t]:=by rw[kU]
theorem tN (t s:PT)(l:List PT):kU (t :: s :: l)=t :: .leaf :: kU (s :: l):=by rw[kU]
structure gQ where
 cl:Option CE
def gQ.pts (t:gQ):List PT:=[.leaf,.node 5 [.leaf]]++(match t.cl with|none=>[]|some e=>[.node 6 [.leaf,e.pt,.leaf]])
def gQ.ok (ah:List Tok)(u:Nat)(t:gQ):Prop:=aP ah (u+1)∈[Iu,vG]/\(match t.cl with|none=>True|some e=>e.ok ah true (u+3))
def gQ.par (t:gQ):PT:=.node 4 (.leaf :: t.pts)
def gQ.Nt (ah:List Tok)(u:Nat)(t:gQ):Prop:=gW ah u=1/\t.ok ah (u+1)
def zh (ah:List Tok)(u:Nat):List gQ->Prop
 | []=>True
 | t :: l=>t.Nt ah u/\zh ah (u+t.par.lv+1) l
structure dV where
 pub:Bool
 lX:List gQ
 ty:gQ
 body:CE
def dV.lead (d:dV):List PT:=if d.pub=true then [.leaf] else []
def dV.aB (d:dV):List PT:=d.lead++([.leaf,.leaf,.leaf]++(kU (d.lX.map gQ.par)++([.leaf]++(d.ty.pts++[.leaf,d.body.pt,.leaf]))))
def dV.pt (d:dV):PT:=.node 3 d.aB
def dV.FE (u:Nat)(d:dV):Nat:=u+bU d.lead
def dV.at2 (u:Nat)(d:dV):Nat:=d.FE u+3+bU (kU (d.lX.map gQ.par))+1
def dV.at3 (u:Nat)(d:dV):Nat:=d.at2 u+bU d.ty.pts+1
def dV.ok (ah:List Tok)(u:Nat)(d:dV):Prop :=
 (d.pub=true->aP ah u=Bt)/\aP ah (d.FE u)=Ir/\gW ah (d.FE u+1)=1/\d.lX.length<=8/\zh ah (d.FE u+3) d.lX/\d.ty.ok ah (d.at2 u)/\d.body.ok ah false (d.at3 u)
def gQ.marks (ah:List Tok)(u:Nat)(t:gQ):Prop:=t.cl≠none->aP ah (u+2)=[123]
def tO (ah:List Tok)(u:Nat):List gQ->Prop
 | []=>True
 | t :: l=>t.marks ah (u+1)/\(l≠[]->aP ah (u+t.par.lv)=[44])/\tO ah (u+t.par.lv+1) l
def dV.marks (ah:List Tok)(u:Nat)(d:dV):Prop:=tO ah (d.FE u+3) d.lX/\aP ah (d.at2 u - 1)=[41]/\d.ty.marks ah (d.at2 u)
def Bv (ah:List Tok)(u:Nat):List dV->Prop
 | []=>True
 | d :: l=>d.marks ah u/\Bv ah (u+d.pt.lv) l
def wK:PT:=.node 2 [.leaf,.leaf,.leaf]
def Bw (ah:List Tok)(u:Nat):List dV->Prop
 | []=>True
 | d :: l=>d.ok ah u/\Bw ah (u+d.pt.lv) l
def QU (ah:List Tok)(u:Nat):Nat->Prop
 | 0=>True
 | n+1=>aP ah u=sF/\gW ah (u+1)=1/\QU ah (u+3) n
structure l6 where
 imps:Nat
 defs:List dV
def l6.aB (p:l6):List PT:=List.replicate p.imps wK++(p.defs.map dV.pt++[.leaf])
def l6.pt (p:l6):PT:=.node 1 p.aB
def l6.marks (ah:List Tok)(p:l6):Prop:=Bv ah (3 * p.imps) p.defs
def l6.ok (ah:List Tok)(p:l6):Prop:=p.imps<=16/\p.defs.length<=64/\QU ah 0 p.imps/\Bw ah (3 * p.imps) p.defs
theorem Vo {l:List PT}{c:Bool}(h:fH (kS a c) l b):fH a l (kS b a.aC):=by
 rw[fH] at h |-;rw[h]
 rfl
theorem Tw (hE:iQ ah)(h:(eG ah st).2.fE=0) :
  fH st [.leaf,.node 5 [.leaf]] (eG ah st).2/\[(kR ah st).1,(eG ah st).1]=dA st.aj.length [.leaf,.node 5 [.leaf]]/\aP ah (st.used+1)∈[Iu,vG]/\(st.used<ah.length->(eG ah st).2.used<ah.length):=by
 have h2:=sw h;obtain⟨b1,b2,b3,b4,b5⟩:=je hE h2;obtain⟨a1,a2,a3,a4,a5⟩:=je hE b5;have hr:=b1.Yy (k:=5) (ah:=ah) (ids:=[(ze ah st).1]) (by rw[show (ze ah st).1=_ from b2];simp[dA,PT.nd]) h (λ_=>by have:=b1.used;simp only[bU,PT.lv] at this;omega);obtain⟨r1,r2,r3⟩:=hr;have u1:=a1.used;have n1:=a1.len;simp only[bU,PT.lv,eZ,PT.nd] at u1 n1;refine⟨a1.append r1,?_,by rw[show st.used+1=(kR ah st).2.used from by rw[show (kR ah st).2.used=_ from u1]];exact b3,λ_=>r3 (by show (aJ ah [[58]] st).2.used<_;omega)⟩;rw[show (eG ah st).1=_ from r2,show (kR ah st).1=_ from a2];simp only[dA,PT.nd,eZ];rw[show (kR ah st).2.aj.length=_ from n1]
 congr 1
 ·omega
theorem Nu (b:Nat)(l k:List PT):dA b (l++k)=dA b l++dA (b+eZ l) k:=pW b l k
theorem Vp (hE:iQ ah)(h:jS ah d g st=some r)(hr:r.2.fE=0)(hn:bF ah st [[123]]=true) :
  ∃ e:CE,QT ah st r (.node 6 [.leaf,e.pt,.leaf])/\e.ok ah true (st.used+1):=by
 unfold jS at h;obtain⟨f,h1,h⟩:=cZ h;obtain rfl:=lG h;have z1:=sw hr;obtain⟨m1,m2,m3,m4,m5⟩:=je hE z1;obtain⟨l1,l2,l3⟩:=jA hE (bM hn);obtain⟨e,e1,e2,e3,e4⟩:=kN ah hE d g _ _ _ h1 m5;have l4:=l1.used;have l5:=l1.len;simp only[bU,PT.lv,eZ,PT.nd] at l4 l5
 have hg2:fH (aF ah st).2 [e.pt] (kS f.2 st.aC):=by
  have:=Vo e1;rw[l1.aC] at this;exact this
 have hg:=(l1.append hg2).append m1;have n2:=hg2.len;have u2:=hg2.used;have hu:=m1.used;simp only[bU,PT.lv,eZ] at n2 u2 hu;refine⟨e,hg.Yy (k:=6) ?_ hr (λ_=>by omega),?_⟩
 ·rw[m2,e2,l2,n2]
  simp only[dA,PT.nd,pJ,uD]
  show [_,_,_]=[_,_,_]
  have:(kS (aF ah st).2 true).aj.length=st.aj.length+1:=l5;rw[this]
  congr 1
  ·omega
  ·congr 1
   congr 1
   omega
 ·have h3:e.ok ah (kS (aF ah st).2 true).aC (kS (aF ah st).2 true).used:=e3
  have:(kS (aF ah st).2 true).used=st.used+1:=l4;rw[this] at h3;exact h3
theorem Nv (hE:iQ ah){aB:List Int}{r:List Int × aK}(h:iI ah d g aB st=some r)(hr:r.2.fE=0) :
  ∃ t:gQ,fH st t.pts r.2/\r.1=aB++dA st.aj.length t.pts/\t.ok ah st.used/\(st.used<ah.length->r.2.used<ah.length)/\t.marks ah st.used:=by
 unfold iI at h
 split at h
 ·rename_i hc
  obtain⟨n,h1,h⟩:=cZ h;obtain rfl:=lG h;obtain⟨b1,b2,b3,b4⟩:=Tw hE hc.1;obtain⟨e,⟨e1,e2,e3⟩,e4⟩:=Vp hE h1 hr hc.2;have u1:=b1.used;have n1:=b1.len;simp only[bU,PT.lv,eZ,PT.nd] at u1 n1;refine⟨⟨some e⟩,b1.append e1,?_,⟨b3,by rw[u1] at e4;exact e4⟩,λq=>e3 (b4 q),λ_=>by have h8:=iX hc.2;rw[u1] at h8;simpa using h8⟩;show _=aB++dA _ ([.leaf,.node 5 [.leaf]]++[.node 6 [.leaf,e.pt,.leaf]]);rw[Nu,<- b2,e2,n1];simp only[dA,PT.nd,eZ]
  congr 1
 ·obtain rfl:=lG h
  obtain⟨b1,b2,b3,b4⟩:=Tw hE hr;refine⟨⟨none⟩,by simpa [gQ.pts] using b1,?_,⟨b3,trivial⟩,b4,λq=>absurd rfl q⟩;show _=aB++dA _ ([.leaf,.node 5 [.leaf]]++[]);rw[List.append_nil,<- b2]
theorem Nw (hE:iQ ah)(st:aK)(r:Int × aK)(h:jI ah d g st=some r)(hr:r.2.fE=0):∃ t:gQ,QT ah st r t.par/\t.Nt ah st.used/\t.marks ah (st.used+1):=by
 unfold jI at h;obtain⟨l,h1,h⟩:=cZ h;obtain rfl:=lG h;have z1:=sw hr;obtain⟨t,t1,t2,t3,t4,t5⟩:=Nv hE h1 z1;obtain⟨k1,k2,k3,k4,k5⟩:=zX hE (by decide) ((jU h1).zero z1);have u1:=k1.used;have n1:=k1.len;simp only[bU,PT.lv,eZ,PT.nd] at u1 n1;refine⟨t,(k1.append t1).Yy (k:=4) ?_ hr (λ_=>t4 (by omega)),⟨k3,by rw[u1] at t3;exact t3⟩,by rw[u1] at t5;exact t5⟩;rw[t2,k2,n1,Nu];simp[dA,PT.nd,eZ]
theorem JB {ah:List Tok}(hE:iQ ah){d g:Nat}:∀ (r:Nat) (aB:List Int) (st:aK) (l:List Int × aK),bE ah (jI ah d g) r aB st=some l->l.2.fE=0 ->
  ∃ es:List gQ,es≠[]/\es.length<=r/\fH st (kU (es.map gQ.par)) l.2/\l.1=aB++dA st.aj.length (kU (es.map gQ.par))/\zh ah st.used es/\(st.used<ah.length->l.2.used<ah.length)/\tO ah st.used es
 | 0,aB,st,l,h,hl=>by
  rw[bE] at h;obtain rfl:=lG h
  exfalso
  have hl:(if st.fE=0 then iA ah 15 st else st).fE=0:=hl
  split at hl
  ·exact su (by decide) hl
  ·rename_i hf;exact hf hl
 | r+1,aB,st,l,h,hl=>by
  rw[bE] at h
  split at h
  ·rename_i hf
   obtain rfl:=lG h;exact absurd hl hf
  ·obtain⟨k,hk,h⟩:=cZ h
   split at h
   ·rename_i hn
    obtain⟨g1,i1,u1⟩:=jA hE (bM hn.2);obtain⟨e,⟨he1,he2,he4⟩,he3,he5⟩:=Nw hE _ _ hk hn.1;obtain⟨es,hne,hlen,hg,hi,hok,hu,hm⟩:=JB hE r _ _ _ h hl
    obtain⟨f,es,rfl⟩:∃ f fs,es=f :: fs:=by cases es with
     | nil=>exact absurd rfl hne
     | cons f fs=>exact⟨f,fs,rfl⟩
    have a1:=he1.len;have a2:=he1.used;have b1:=g1.len;have b2:=g1.used;simp only[eZ,bU,PT.nd,PT.lv,nZ] at a1 a2 b1 b2;refine⟨e :: f :: es,by simp,by simpa using hlen,?_,?_,?_,λq=>hu (by have:=he4 q;omega),?_⟩
    ·rw[lN,lN,tN]
     exact(he1.append g1).append hg
    ·rw[hi,lN (a:=e),lN (a:=f),tN,tC,tC,he2,i1,b1,a1]
     simp only[PT.nd,om,pJ,uD]
     congr 2
     congr 1
     omega
    ·rw[b2,a2] at hok
     exact⟨he3,hok⟩
    ·rw[b2,a2] at hm
     exact⟨he5,λ_=>by have h8:=iX hn.2;rw[a2] at h8;simpa using h8,hm⟩
   ·obtain rfl:=lG h
    obtain⟨e,⟨he1,he2,he4⟩,he3,he5⟩:=Nw hE _ _ hk hl;refine⟨[e],by simp,by simp,by rw[lN,List.map_nil,xL];exact he1,?_,⟨he3,trivial⟩,he4,he5,λq=>absurd rfl q,trivial⟩;rw[lN,List.map_nil,xL,tC,he2];simp[dA]
theorem acp (hE:iQ ah){l:List Int × aK}(h:jW ah (jI ah d g) st=some l)(hl:l.2.fE=0) :
  ∃ es:List gQ,es.length<=8/\fH st (kU (es.map gQ.par)) l.2/\l.1=dA st.aj.length (kU (es.map gQ.par))/\zh ah st.used es/\(st.used<ah.length->l.2.used<ah.length)/\tO ah st.used es:=by
 unfold jW at h
 split at h
 ·obtain rfl:=lG h
  exact⟨[],by simp,by simpa [kU] using fH.nil st,by simp[kU,dA],trivial,id,trivial⟩
 ·obtain⟨es,_,h1,h2,h3,h4,h5,h6⟩:=JB hE _ _ _ _ h hl
  exact⟨es,h1,h2,by rw[h3];simp,h4,h5,h6⟩
theorem ad8 (hE:iQ ah){dp:Nat}(st:aK)(r:Int × aK)(h:yh ah dp g st=some r)(hr:r.2.fE=0)(hc:st.aC=false):∃ d:dV,QT ah st r d.pt/\d.ok ah st.used/\d.marks ah st.used:=by
 unfold yh at h;obtain⟨l,h1,h⟩:=cZ h;obtain⟨t,h2,h⟩:=cZ h;obtain⟨f,h3,h⟩:=cZ h;obtain rfl:=lG h;have z1:=sw hr;obtain⟨m1,m2,m3,m4,m5⟩:=je hE z1;have z2:=(bA ah dp g _ _ _ h3).zero m5;obtain⟨q1,q2,q3,q4,q5⟩:=je hE z2;obtain⟨ty,t1,t2,t3,t4,t5⟩:=Nv hE h2 q5;have z3:=(jU h2).zero q5;obtain⟨c1,c2,c3,c4,c5⟩:=je hE z3;obtain⟨ps,p1,p2,p3,p4,p5,p6⟩:=acp hE h1 c5;have z4:=(mP ah _ kT _ _ h1).zero c5;obtain⟨o1,o2,o3,o4,o5⟩:=je hE (l:=[[40]]) (st:=(lT ah st).2) z4;obtain⟨n1,n2,n3,n4,n5⟩:=zX hE (k:=1) (by decide) (st:=(sQ ah st).2) o5;obtain⟨f1,f2,f3,f4,f5⟩:=je hE (l:=[Ir]) (st:=(oO ah st).2) n5;obtain⟨b,b1,b2,b3,b4⟩:=kN ah hE dp g _ _ _ h3 m5
 have hp:∃ pub:Bool,fH st (if pub=true then [.leaf] else []) (oO ah st).2/\(oO ah st).1=dA st.aj.length (if pub=true then [.leaf] else [])/\(pub=true->aP ah st.used=Bt):=by
  unfold oO
  split
  ·rename_i hx
   obtain⟨l1,l2,_⟩:=jA hE (bM hx);refine⟨true,by simpa using l1,by simp[dA,PT.nd,l2],λ_=>?_⟩
   simpa using iX hx
  ·exact⟨false,by simpa using fH.nil st,by simp[dA],λq=>by cases q⟩
 obtain⟨pub,pb1,pb2,pb3⟩:=hp
 have g1:=(pb1.append f1)
 have g2:=(g1.append n1)
 have g3:=(g2.append o1)
 have g4:=(g3.append p2)
 have g5:=(g4.append c1)
 have g6:=(g5.append t1)
 have g7:=(g6.append q1)
 have g8:=(g7.append b1)
 have g9:=(g8.append m1)
 have u0:=pb1.used;have u1:=f1.used;have u2:=n1.used;have u3:=o1.used;have u4:=p2.used;have u5:=c1.used;have u6:=t1.used;have u7:=q1.used;have k8:=g7.aC;simp only[bU,PT.lv] at u1 u2 u3 u5 u7
 have e3:st.used+bU (dV.lead ⟨pub,ps,ty,b⟩)+3=(jJ ah st).2.used:=by
  rw[show (jJ ah st).2.used=_ from u3,show (lT ah st).2.used=_ from u2,show (sQ ah st).2.used=_ from u1,u0]
  rfl
 have e2:(dV.mk pub ps ty b).at2 st.used=(aJ ah [[41]] l.2).2.used:=by
  rw[u5,u4,show (jJ ah st).2.used=_ from u3,show (lT ah st).2.used=_ from u2,show (sQ ah st).2.used=_ from u1,u0]
  rfl
 refine⟨⟨pub,ps,ty,b⟩,?_,⟨pb3,?_,?_,p1,?_,?_,?_⟩,?_,?_,?_⟩
 ·have hk:(dV.mk pub ps ty b).aB=(if pub=true then [.leaf] else [])++[.leaf]++[.leaf]++[.leaf]++kU (ps.map gQ.par)++[.leaf]++ty.pts++[.leaf]++[b.pt]++[.leaf]:=by
   simp[dV.aB,dV.lead]
  rw[dV.pt,hk];have ig:IG st _ _ _:=(((((((((show IG st _ _ _ from ⟨pb1,pb2⟩).append (IG.leaf f1 f2)).append (IG.leaf n1 n2)).append (IG.leaf o1 o2)).append (show IG _ _ _ _ from ⟨p2,p3⟩)).append (IG.leaf c1 c2)).append (show IG _ _ _ _ from ⟨t1,rfl⟩)).append (IG.leaf q1 q2)).append (IG.res b1 b2)).append (IG.leaf m1 m2);refine g9.Yy (k:=3) ?_ hr (λ_=>by have:=m1.used;simp only[bU,PT.lv] at this;omega);rw[<- ig.2,t2];simp only[om,pJ,uD]
  rfl
 ·show aP ah (st.used+bU (dV.lead _))=Ir
  have:st.used+bU (dV.lead ⟨pub,ps,ty,b⟩)=(oO ah st).2.used:=u0.symm;rw[this]
  simpa using f3
 ·show gW ah (st.used+bU (dV.lead _)+1)=1
  have:st.used+bU (dV.lead ⟨pub,ps,ty,b⟩)+1=(sQ ah st).2.used:=by rw[show (sQ ah st).2.used=_ from u1,u0];rfl
  rw[this];exact n3
 ·show zh ah (st.used+bU (dV.lead _)+3) ps
  rw[e3];exact p4
 ·rw[e2]
  exact t3
 ·have:(dV.mk pub ps ty b).at3 st.used=(aJ ah [[61]] t.2).2.used:=by
   rw[u7,u6,u5,u4,show (jJ ah st).2.used=_ from u3,show (lT ah st).2.used=_ from u2,show (sQ ah st).2.used=_ from u1,u0]
   rfl
  rw[this];have hb:b.ok ah (aJ ah [[61]] t.2).2.aC (aJ ah [[61]] t.2).2.used:=b3;rw[k8,hc] at hb;exact hb
 ·show tO ah (st.used+bU (dV.lead ⟨pub,ps,ty,b⟩)+3) ps
  rw[e3];exact p6
 ·rw[e2,u5]
  simpa using c3
 ·rw[e2]
  exact t5
