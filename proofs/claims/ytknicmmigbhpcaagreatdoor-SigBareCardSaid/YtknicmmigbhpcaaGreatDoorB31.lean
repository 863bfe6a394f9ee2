/- Walks and plain laws: MapS1, MapCopy, MapS2, MapS3, ScopeW1, ScopeW2, ScopeW3. -/
import Derived.Test.YtknicmmigbhpcaaGreatDoorB30
import Derived.Shelf.Spec.SlicesInsert
import Derived.Laws.CopyOwn
set_option maxHeartbeats 16000000
set_option maxRecDepth 100000
set_option linter.unusedVariables false
set_option linter.unusedSimpArgs false
namespace Go.Proofs.YtknicmmigbhpcaaGreatDoor
open Go.RowKit Go
def zG (a b:List UInt8):Int:=if a<b then -1 else if b<a then 1 else 0
theorem Zt {a b:List UInt8}(h:a<b):zG a b=-1:=by unfold zG;rw[if_pos h]
theorem Zu {a b:List UInt8}(h:¬ a<b):0≤zG a b:=by
 unfold zG;rw[if_neg h]
 split<;>omega
theorem Zv {a b:List UInt8}(h:¬ a<b):decide (zG a b=0)=decide (a=b):=by
 unfold zG;rw[if_neg h]
 split
 ·rename_i h2
  rw[decide_eq_false (by omega),decide_eq_false (fun q=>by subst q;exact List.lt_irrefl _ h2)]
 ·rename_i h2
  rw[decide_eq_true rfl,decide_eq_true (nD (List.not_lt.1 h2) (List.not_lt.1 h))]
theorem I4 (x:ByteArray)(w:World):Calls Tryz.prog 217 #[.string x] w fun e w'=>e=.returned (.bool false)∧w'=w:=by
 go_enter Tryz.func217,Tryz.ntmps217;go_wp2;go_ret;exact⟨by simp,rfl⟩
theorem Lp (x y:ByteArray)(w:World):Calls Tryz.prog 139 #[.string x,.string y] w fun e w'=>e=.returned (.int .i64 (zG x.data.toList y.data.toList))∧w'=w:=by
 have h1:Op.bytesLess x.toList y.toList=decide (x.data.toList<y.data.toList):=by simp only[Lib.toList_data,Go.Proofs.bytesLess_eq]
 have h2:Op.bytesLess y.toList x.toList=decide (y.data.toList<x.data.toList):=by simp only[Lib.toList_data,Go.Proofs.bytesLess_eq]
 unfold zG
 by_cases a:x.data.toList<y.data.toList
 ·rw[if_pos a]
  rw[decide_eq_true a] at h1;clear h2 a;go_enter Tryz.func139,Tryz.ntmps139;go_wp2_with (go_at_call 217;refine(I4 _ _).mono ?_;rintro e w' ⟨rfl,rfl⟩);go_ret;exact⟨rfl,rfl⟩
 ·rw[if_neg a]
  rw[decide_eq_false a] at h1
  have h3:(x.toList == y.toList)=decide (x.data.toList=y.data.toList):=by rw[Bool.eq_iff_iff];simp only[Lib.toList_data,beq_iff_eq,decide_eq_true_eq]
  by_cases b:y.data.toList<x.data.toList
  ·rw[if_pos b]
   rw[decide_eq_false (fun q=>by rw[q] at b;exact List.lt_irrefl _ b)] at h3;clear a b h2;go_enter Tryz.func139,Tryz.ntmps139;go_wp2_with (go_at_call 217;refine(I4 _ _).mono ?_;rintro e w' ⟨rfl,rfl⟩);go_ret;exact⟨rfl,rfl⟩
  ·rw[if_neg b]
   rw[decide_eq_true (nD (List.not_lt.1 b) (List.not_lt.1 a))] at h3;clear a b h2;go_enter Tryz.func139,Tryz.ntmps139;go_wp2_with (go_at_call 217;refine(I4 _ _).mono ?_;rintro e w' ⟨rfl,rfl⟩);go_ret;exact⟨rfl,rfl⟩
theorem abr {l:List Value}(h:l.length=4):∃ a b c d,l=[a,b,c,d]:=by
 match l,h with
 | [a,b,c,d],_=>exact⟨a,b,c,d,rfl⟩
theorem Lr {w:World}{b:Nat}{v0 v1 v2 v3 v4:Value}(h:w.heap[b]?=some (.cells #[v0,v1,v2,v3,v4] 170 (0,0))):w.cell? ⟨b,0,none⟩=some v0:=by rw[Lib.cell_of_heap h];rfl
theorem Tryz.OD:∀ args w,(callFunc 138 args).run Tryz.prog w=.ok (.enter 138 args) w:=Go.Proofs.enters_of Tryz.func138 (by kernel_rfl) rfl
theorem Ls (k x:List UInt8)(v1 v2 v3 v4:Value)(w:World) :
  Calls Tryz.prog 138 (#[.agg #[.string ⟨k.toArray⟩,v1,v2,v3,v4],.string ⟨x.toArray⟩]++#[]) w fun e w'=>e=.returned (.int .i64 (zG k x))∧Below w.heap.size w w':=by
 have hal:=aj w (.cells #[.string ⟨k.toArray⟩,v1,v2,v3,v4] 170);have hN:=heap_alloc_new w (.cells #[.string ⟨k.toArray⟩,v1,v2,v3,v4] 170);have HC:=ah (fun W=>Lp ⟨k.toArray⟩ ⟨x.toArray⟩ W);simp only at HC;show Calls Tryz.prog 138 #[.agg #[.string ⟨k.toArray⟩,v1,v2,v3,v4],.string ⟨x.toArray⟩] w _;generalize zG k x=c at *;go_enter Tryz.func138,Tryz.ntmps138
 go_upto_region 1 with fail
 change Code.wp _ _ _ _ (w.alloc (.cells #[.string ⟨k.toArray⟩,v1,v2,v3,v4] 170));generalize w.alloc _=w1 at hal hN ⊢;have c0:=Lr hN;go_wp2_with (go_at_call 139;refine(HC.out _).mono ?_;rintro e w2 ⟨rfl,rfl⟩);go_ret;exact⟨rfl,hal⟩
def WT (w:World)(b off:Nat)(l:ML):Prop:=∀ i,(hi:i<l.length)→∀ j u,(pO l[i])[j]?=some u→w.cell? ⟨b,off+i * 5+j,none⟩=some u
theorem WT.below {w w':World}{b off:Nat}{l:ML}(h:WT w b off l)(hb:Below w.heap.size w w'):WT w' b off l:=fun i hi j u hu=>cell_later hb (h i hi j u hu)
theorem Lu (ao:Option Addr)(cap:Nat)(l:ML)(x:List UInt8)(w:World)(hw:IZ 4 l)(h:0<l.length→∃ b off,ao=some ⟨b,off,none⟩∧WT w b off l)(hn:l.length≤1000000) :
  Calls Tryz.prog 137 #[.slice ao l.length cap,.string ⟨x.toArray⟩,.func (.func 138) #[] #[]] w
   fun e w'=>e=.returned (.tuple #[.int .i64 (cZ l x:Nat),.bool (rF l x)])∧Below w.heap.size w w':=by
 have HW:=ah hw;have HR:=ah h;have hpl:=Gt l x;have HH:=ah (DY hw x);have HI:=ah (fun t (ht:t<l.length)=>wh hw (x:=x) ht);generalize hp:cZ l x=p at *;have HP:=ah hp;generalize rF l x=hs at *;have eg:=Tryz.OD;clear hw h hp;go_enter Tryz.func137,Tryz.ntmps137;go_wp2
 go_loopw [9,10] (fun s9 s10 wr=>∃ lo hi:Nat,s9=.int .i64 lo∧s10=.int .i64 hi∧lo≤p∧p≤hi∧hi≤l.length∧Below w.heap.size w wr) (fun s9 s10 _=>(intOf s10).toNat - (intOf s9).toNat)
 case atStart=>exact⟨0,l.length,rfl,rfl,Nat.zero_le _,hpl,Nat.le_refl _,Below.refl _ _⟩
 case round =>
  obtain⟨lo,hi,rfl,rfl,h1,h2,h3,hb⟩:=hrel;have hz:=hb.size
  by_cases hlt:lo<hi
  ·have hmid:(lo+hi) / 2<l.length:=by omega
   obtain⟨b,off,rfl,hrw⟩:=HR.out (by omega);have hc:=(hrw.below hb) ((lo+hi) / 2) hmid;obtain⟨v1,v2,v3,v4,hv⟩:=abr (HW.out.wid _ (List.getElem_mem hmid));rw[pO,hv] at hc;have x0:=hc 0 _ rfl;have x1:=hc 1 _ rfl;have x2:=hc 2 _ rfl;have x3:=hc 3 _ rfl;have x4:=hc 4 _ rfl;rw[Nat.add_zero] at x0;have hiff:=HI.out _ hmid;generalize l[(lo+hi) / 2].1=k at x0 hiff;have HC:=ah (fun W=>Ls k x v1 v2 v3 v4 W);clear hc hv hrw
   by_cases hm:(lo+hi) / 2<p
   ·have hcv:=Zt (hiff.2 hm)
    rw[hcv] at HC;clear hcv hiff;go_wp2_with (go_at_fn 138;refine(HC.out _).mono ?_;rintro e w2 ⟨rfl,hb2⟩)
    go_roundw
    case rel=>exact⟨(lo+hi) / 2+1,hi,by rw[show ((lo:Int)+(hi:Int)) / 2+1=(((lo+hi) / 2+1:Nat):Int) by omega],rfl,by omega,h2,h3,hb.trans (hb2.mono hz)⟩
    case measure=>simp[intOf];omega
   ·have hcv:=Zu (fun q=>hm (hiff.1 q))
    generalize zG k x=c at HC hcv
    have hcI:¬ (c<0):=by omega
    clear hiff hcv;go_wp2_with (go_at_fn 138;refine(HC.out _).mono ?_;rintro e w2 ⟨rfl,hb2⟩)
    go_roundw
    case rel=>exact⟨lo,(lo+hi) / 2,rfl,by rw[show ((lo:Int)+(hi:Int)) / 2=(((lo+hi) / 2:Nat):Int) by omega],h1,by omega,by omega,hb.trans (hb2.mono hz)⟩
    case measure=>simp[intOf];omega
  ·obtain rfl:lo=hi:=by omega
   obtain rfl:lo=p:=by omega
   by_cases hn2:lo<l.length
   ·obtain⟨b,off,rfl,hrw⟩:=HR.out (by omega)
    have hc:=(hrw.below hb) lo hn2;obtain⟨v1,v2,v3,v4,hv⟩:=abr (HW.out.wid _ (List.getElem_mem hn2));rw[pO,hv] at hc;have x0:=hc 0 _ rfl;have x1:=hc 1 _ rfl;have x2:=hc 2 _ rfl;have x3:=hc 3 _ rfl;have x4:=hc 4 _ rfl;rw[Nat.add_zero] at x0;have hiff:=HI.out _ hn2
    have hhs:hs=decide (l[lo].1=x):=by
     rw[HH.out]
     apply decide_eq_decide.2
     exact⟨fun ⟨_,q⟩=>q,fun q=>⟨hn2,q⟩⟩
    generalize l[lo].1=k at x0 hiff hhs;have hce:=Zv (fun q:k<x=>Nat.lt_irrefl _ (hiff.1 q));rw[← hhs] at hce;have HC:=ah (fun W=>Ls k x v1 v2 v3 v4 W);have HE:Hid (∀ c,zG k x=c→decide (c=0)=hs):=ah (fun c q=>by rw[← q];exact hce);generalize hcc:zG k x=c at HC;have hc0:=HE.out c hcc;clear hc hv hrw hiff hhs hce hcc HE
    have hnI:(lo:Int)<(l.length:Int):=by omega
    go_wp2_with (go_at_fn 138;refine(HC.out _).mono ?_;rintro e w2 ⟨rfl,hb2⟩);go_ret2;exact⟨by rw[← hc0];rfl,hb.trans (hb2.mono hz)⟩
   ·have hhs:hs=false:=by
     rw[HH.out];exact decide_eq_false (fun ⟨q,_⟩=>hn2 q)
    subst hhs
    have hnI:¬ (lo:Int)<(l.length:Int):=by omega
    go_wp2;go_ret2;exact⟨by simp,hb⟩
structure D5 (B mb:Nat) (v:Value) (l:ML) (w:World):Prop where
 wf:IZ 4 l
 box:w.heap[mb]?=some (.cells #[v] 165 (0,0))
 own:w.ownsRow B 170 5 v l.length (Zp l)
theorem D5.below {B mb:Nat}{v:Value}{l:ML}{w w':World}(h:D5 B mb v l w)(hb:Below w.heap.size w w'):D5 B mb v l w' :=
 ⟨h.wf,(hb.block mb (bG h.box).1).trans h.box,own_below h.own hb⟩
theorem D5.slice {B mb:Nat}{v:Value}{l:ML}{w:World}(h:D5 B mb v l w):∃ ao cap,v=.slice ao l.length cap∧(0<l.length→∃ b off,ao=some ⟨b,off,none⟩∧WT w b off l):=by
 obtain⟨ao,cap,hv,hn,hl,hc⟩:=Sl.eZ h.own;refine⟨ao,cap,hv,fun h0=>?_⟩;obtain⟨b,off,e,hlt,hcell⟩:=hc h0;refine⟨b,off,e,fun i hi j u hu=>?_⟩
 have hj:j<5:=by
  rcases Nat.lt_or_ge j 5 with q|q
  ·exact q
  ·rw[List.getElem?_eq_none (by rw[pO,eG,h.wf.wid _ (List.getElem_mem hi)];exact q)] at hu;cases hu
 obtain⟨h',e'⟩:=mR ((Qd h.wf.wid i j hi hj).trans hu);have:=hcell (i * 5+j) h';rw[Nat.add_assoc,this,e']
theorem Aj {w:World}{b:Nat}{v:Value}(h:w.heap[b]?=some (.cells #[v] 165 (0,0))):w.cell? ⟨b,0,none⟩=some v∧w.frozen? ⟨b,0,none⟩=false:=⟨by rw[Lib.cell_of_heap h];rfl,by simp[World.frozen?,h]⟩
theorem SN (B mb:Nat)(v:Value)(l:ML)(x:List UInt8)(w:World)(h:D5 B mb v l w)(hn:l.length≤1000000) :
  Calls Tryz.prog 83 #[.pointer (some ⟨mb,0,none⟩),.string ⟨x.toArray⟩] w
   fun e w'=>e=.returned (.tuple #[.int .i64 (cZ l x:Nat),.bool (rF l x)])∧Below w.heap.size w w':=by
 obtain⟨ao,cap,rfl,hr⟩:=h.slice;have c0:=(Aj h.box).1;have HS:=ah (Lu ao cap l x w h.wf hr hn);generalize cZ l x=p at *;generalize rF l x=q at *;clear h hr;go_enter Tryz.func83,Tryz.ntmps83;go_wp2_with (go_at_call 137;refine HS.out.mono ?_;rintro e w2 ⟨rfl,hb2⟩);go_ret2;exact⟨rfl,hb2⟩
def ny (w:World)(b:Nat)(v0 v1 v2 v3:Value):World:=(((w.setCell ⟨b,0,none⟩ v0).setCell ⟨b,1,none⟩ v1).setCell ⟨b,2,none⟩ v2).setCell ⟨b,3,none⟩ v3
theorem gH {B:Nat}{w0 w:World}(h:Below B w0 w){b:Nat}(hb:B≤b)(v0 v1 v2 v3:Value):Below B w0 (ny w b v0 v1 v2 v3) :=
 (((h.setCell hb _).setCell hb _).setCell hb _).setCell hb _
theorem iB {w:World}{b:Nat}{c0 c1 c2 c3:Value}{T:TypeId}(h:w.heap[b]?=some (.cells #[c0,c1,c2,c3] T (0,0)))(v0 v1 v2 v3:Value) :
  (ny w b v0 v1 v2 v3).heap[b]?=some (.cells #[v0,v1,v2,v3] T (0,0)) :=
 heap_setCell_same _ b 3 _ _ v3 (heap_setCell_same _ b 2 _ _ v2 (heap_setCell_same _ b 1 _ _ v1 (heap_setCell_same w b 0 _ _ v0 h)))
theorem iD {w:World}{b:Nat}{c0 c1 c2 c3:Value}{T:TypeId}(h:w.heap[b]?=some (.cells #[c0,c1,c2,c3] T (0,0))):(w.cell? ⟨b,0,none⟩=some c0∧w.cell? ⟨b,1,none⟩=some c1∧w.cell? ⟨b,2,none⟩=some c2∧w.cell? ⟨b,3,none⟩=some c3)∧(w.frozen? ⟨b,0,none⟩=false∧w.frozen? ⟨b,1,none⟩=false∧w.frozen? ⟨b,2,none⟩=false∧w.frozen? ⟨b,3,none⟩=false):=by
 refine⟨⟨?_,?_,?_,?_⟩,?_,?_,?_,?_⟩
 ·rw[Lib.cell_of_heap h];rfl
 ·rw[Lib.cell_of_heap h];rfl
 ·rw[Lib.cell_of_heap h];rfl
 ·rw[Lib.cell_of_heap h];rfl
 ·simp[World.frozen?,h]
 ·simp[World.frozen?,h]
 ·simp[World.frozen?,h]
 ·simp[World.frozen?,h]
def EL (l:ML)(x:List UInt8)(w:World)(e:Ending)(w':World):Prop :=
 (match su l x with|none=>e=.returned (.tuple #[.agg #[.string ⟨#[]⟩,.slice none 0 0,.int .i64 0,.slice none 0 0],.bool false])|some v=>e=.returned (.tuple #[.agg v.toArray,.bool true]))∧Below w.heap.size w w'
theorem EL.no {l:ML}{x:List UInt8}{w w':World}{e:Ending}(h:su l x=none)(he:e=.returned (.tuple #[.agg #[.string ⟨#[]⟩,.slice none 0 0,.int .i64 0,.slice none 0 0],.bool false]))(hb:Below w.heap.size w w'):EL l x w e w':=⟨by rw[h];exact he,hb⟩
theorem EL.yes {l:ML}{x:List UInt8}{w w':World}{e:Ending}{v:List Value}(h:su l x=some v)(he:e=.returned (.tuple #[.agg v.toArray,.bool true]))(hb:Below w.heap.size w w'):EL l x w e w':=⟨by rw[h];exact he,hb⟩
theorem WU (B mb:Nat)(v:Value)(l:ML)(x:List UInt8)(w:World)(h:D5 B mb v l w)(hn:l.length≤1000000) :
  Calls Tryz.prog 55 #[.pointer (some ⟨mb,0,none⟩),.string ⟨x.toArray⟩] w (EL l x w):=by
 have hal:=aj w (.cells #[.string ⟨#[]⟩,.slice none 0 0,.int .i64 0,.slice none 0 0] 31);have hR:=heap_alloc_new w (.cells #[.string ⟨#[]⟩,.slice none 0 0,.int .i64 0,.slice none 0 0] 31);have h1:=h.below hal;have HM:=ah h1;have HF:=ah (SN B mb v l x (w.alloc (.cells #[.string ⟨#[]⟩,.slice none 0 0,.int .i64 0,.slice none 0 0] 31)) h1 hn);have hmb:=(bG h.box).1;have hpl:=Gt l x;have HH:=ah (DY h.wf x);have HN:=ah (fun (q:rF l x=false)=>SI q);have HG:=ah (fun i (hi:i<l.length) e=>Zr h.wf (x:=x) (i:=i) hi e);clear h h1;generalize hp:cZ l x=p at *;generalize rF l x=q at *;clear hp;go_enter Tryz.func55,Tryz.ntmps55
 go_upto_region 1 with fail
 change Code.wp _ _ _ _ (w.alloc (.cells #[.string ⟨#[]⟩,.slice none 0 0,.int .i64 0,.slice none 0 0] 31))
 have hz:w.heap.size<(w.alloc (.cells #[.string ⟨#[]⟩,.slice none 0 0,.int .i64 0,.slice none 0 0] 31)).heap.size:=by simp
 generalize w.alloc _=w1 at *
 go_upto_region 2 with (go_at_call 83;refine HF.out.mono ?_;rintro e w2 ⟨rfl,hb2⟩)
 have hR2:=(hb2.block _ hz).trans hR;have hM2:=HM.out.below hb2;have hbw:=hal.trans (hb2.mono hal.size);have hz2:=hb2.size;clear HF HM hR hal
 cases q with
 | false =>
  have hnone:=ah (HN.out rfl);clear HN HG HH;have mO:=aj w2 (.cells #[.string ⟨#[]⟩,.slice none 0 0,.int .i64 0,.slice none 0 0] 31);have PN:=heap_alloc_new w2 (.cells #[.string ⟨#[]⟩,.slice none 0 0,.int .i64 0,.slice none 0 0] 31);have Qb:=(mO.block w.heap.size (by omega)).trans hR2
  go_upto_region 4 with fail
  change Code.wp _ _ _ _ (w2.alloc (.cells #[.string ⟨#[]⟩,.slice none 0 0,.int .i64 0,.slice none 0 0] 31));have AB:=hbw.trans (mO.mono hbw.size);generalize w2.alloc _=w3 at *;obtain⟨⟨a0,a1,a2,a3⟩,-⟩:=iD PN;obtain⟨⟨c0,c1,c2,c3⟩,f0,f1,f2,f3⟩:=iD Qb;go_wp2;change bodyPost _ _ _ _ _ (ny w3 w.heap.size (.string ⟨#[]⟩) (.slice none 0 0) (.int .i64 0) (.slice none 0 0));have hP:=iB Qb (.string ⟨#[]⟩) (.slice none 0 0) (.int .i64 0) (.slice none 0 0);have I5:=gH AB (Nat.le_refl _) (.string ⟨#[]⟩) (.slice none 0 0) (.int .i64 0) (.slice none 0 0);generalize ny w3 _ _ _ _ _=w4 at *;obtain⟨⟨d0,d1,d2,d3⟩,-⟩:=iD hP;exact bodyPost_ret (v:=.tuple #[.agg #[.string ⟨#[]⟩,.slice none 0 0,.int .i64 0,.slice none 0 0],.bool false]) (by simp[results,Tryz.results55,go_sem,d0,d1,d2,d3]) rfl (EL.no hnone.out rfl I5)
 | true =>
  have hq:=HH.out;obtain⟨hpn,hpx⟩:=of_decide_eq_true hq.symm;have hg:=HG.out p hpn hpx;obtain⟨ao,cap,rfl,hr⟩:=hM2.slice;obtain⟨b,off,rfl,hrw⟩:=hr (by omega);have hc:=hrw p hpn;obtain⟨v1,v2,v3,v4,hv⟩:=abr (hM2.wf.wid _ (List.getElem_mem hpn));rw[hv] at hg;rw[pO,hv] at hc;have x1:=hc 1 _ rfl;have x2:=hc 2 _ rfl;have x3:=hc 3 _ rfl;have x4:=hc 4 _ rfl;have m0:=(Aj hM2.box).1;have hG:=ah hg;have ho:=hM2.wf.one _ (List.getElem_mem hpn);rw[hv] at ho
  have s1:=fun a m W=>run_store Tryz.prog W a v1 m (ho v1 (by simp))
  have s2:=fun a m W=>run_store Tryz.prog W a v2 m (ho v2 (by simp))
  have s3:=fun a m W=>run_store Tryz.prog W a v3 m (ho v3 (by simp))
  have s4:=fun a m W=>run_store Tryz.prog W a v4 m (ho v4 (by simp))
  clear ho;obtain⟨⟨c0,c1,c2,c3⟩,f0,f1,f2,f3⟩:=iD hR2;clear hc hv hg hq HH HG HN hpx hrw hr hM2;go_wp2;change bodyPost _ _ _ _ _ (ny w2 w.heap.size v1 v2 v3 v4);have hP:=iB hR2 v1 v2 v3 v4;have I5:=gH hbw (Nat.le_refl _) v1 v2 v3 v4;generalize ny w2 _ _ _ _ _=w4 at *;obtain⟨⟨d0,d1,d2,d3⟩,-⟩:=iD hP;exact bodyPost_ret (v:=.tuple #[.agg #[v1,v2,v3,v4],.bool true]) (by simp[results,Tryz.results55,go_sem,d0,d1,d2,d3]) rfl (EL.yes hG.out rfl I5)
end Go.Proofs.YtknicmmigbhpcaaGreatDoor

namespace Go.Proofs.YtknicmmigbhpcaaGreatDoor
open Go.RowKit Go
open Go.RowKit Go Go.Lib
open Go.RowKit Go Go.Lib
end Go.Proofs.YtknicmmigbhpcaaGreatDoor

namespace Go.Proofs.YtknicmmigbhpcaaGreatDoor
open Go.RowKit Go
def flE (f:Fl):Int:=match f with
 | none=>0
 | some x=>x.1
def flA (f:Fl):Int:=match f with
 | none=>0
 | some x=>x.2
def nH (f:Fl):Prop:=∀ x,f=some x→x.1≠0
theorem nH.none:nH none:=fun _ h=>by cases h
theorem nH.some {e a:Int}(h:e≠0):nH (some (e,a)):=fun x q=>by injection q with q;subst q;exact h
theorem nH.or {f g:Fl}(h:nH f)(k:nH g):nH (sw f g):=by cases f<;>assumption
structure WV where
 md:List UInt8
 pi:Value
 pd:Value
 fs:Value
 db:Nat
def Zw (C:WV)(im:Value)(f:Fl):Array Value:=#[.string ⟨C.md.toArray⟩,C.pi,C.pd,C.fs,im,.pointer (some ⟨C.db,0,none⟩),.int .i64 (flE f),.int .i64 (flA f)]
def qK (C:WV)(lb:Nat)(im:Value)(f:Fl)(w:World):Prop:=w.heap[lb]?=some (.cells (Zw C im f) 116 (0,0))
theorem qK.cells {C:WV}{lb:Nat}{im:Value}{f:Fl}{w:World}(h:qK C lb im f w):(w.cell? ⟨lb,0,none⟩=some (.string ⟨C.md.toArray⟩)∧w.cell? ⟨lb,1,none⟩=some C.pi∧w.cell? ⟨lb,2,none⟩=some C.pd∧w.cell? ⟨lb,3,none⟩=some C.fs∧w.cell? ⟨lb,4,none⟩=some im∧w.cell? ⟨lb,5,none⟩=some (.pointer (some ⟨C.db,0,none⟩))∧w.cell? ⟨lb,6,none⟩=some (.int .i64 (flE f))∧w.cell? ⟨lb,7,none⟩=some (.int .i64 (flA f)))∧∀ i,w.frozen? ⟨lb,i,none⟩=false:=by
 refine⟨⟨?_,?_,?_,?_,?_,?_,?_,?_⟩,fun i=>by rw[qK] at h;simp[World.frozen?,h]⟩
 all_goals (rw[Lib.cell_of_heap h];rfl)
theorem qK.lt {C:WV}{lb:Nat}{im:Value}{f:Fl}{w:World}(h:qK C lb im f w):lb<w.heap.size:=(bG h).1
theorem qK.below {C:WV}{lb:Nat}{im:Value}{f:Fl}{w w':World}(h:qK C lb im f w)(hb:Below w.heap.size w w'):qK C lb im f w':=(hb.block lb h.lt).trans h
def iq (lb:Nat)(w w':World):Prop:=(∀ B,B≤lb→Below B w w')∧aQ (fun b=>b≠lb) w w'
theorem iq.refl (lb:Nat)(w:World):iq lb w w:=⟨fun B _=>Below.refl B w,aQ.refl _ _⟩
theorem iq.trans {lb:Nat}{a b c:World}(h:iq lb a b)(k:iq lb b c):iq lb a c:=⟨fun B hB=>(h.1 B hB).trans (k.1 B hB),h.2.trans k.2⟩
theorem iq.of {lb:Nat}{w w':World}(h:Below w.heap.size w w')(hl:lb<w.heap.size):iq lb w w':=⟨fun B hB=>h.mono (by omega),aQ.of h⟩
theorem iq.set {lb:Nat}(w:World)(i:Nat)(v:Value):iq lb w (w.setCell ⟨lb,i,none⟩ v):=⟨fun B hB=>(Below.refl B w).setCell hB v,aQ.set v fun b hb=>hb⟩
def I6 (C:WV)(lb:Nat)(im:Value)(f:Fl)(w:World)(r:Ending)(w':World):Prop:=r=.returned (.tuple #[])∧qK C lb im f w'∧iq lb w w'
theorem Gu (C:WV)(lb:Nat)(im:Value)(f:Fl)(e a:Int)(w:World)(h:qK C lb im f w)(hf:nH f) :
  Calls Tryz.prog 56 #[.pointer (some ⟨lb,0,none⟩),.int .i64 e,.int .i64 a] w (I6 C lb im (sw f (some (e,a))) w):=by
 obtain⟨⟨-,-,-,-,-,-,c6,c7⟩,hz⟩:=h.cells;have z6:=hz 6;have z7:=hz 7;have H:=ah h;clear hz h
 cases f with
 | none =>
  simp only[flE,flA] at c6 c7;have h2:qK C lb im (sw none (some (e,a))) ((w.setCell ⟨lb,6,none⟩ (.int .i64 e)).setCell ⟨lb,7,none⟩ (.int .i64 a)):=heap_setCell_same _ lb 7 _ _ _ (heap_setCell_same w lb 6 _ _ _ H.out);have H2:=ah h2;clear h2;go_enter Tryz.func56,Tryz.ntmps56;go_wp2
  go_end0
  exact⟨rfl,H2.out,(iq.set w 6 _).trans (iq.set _ 7 _)⟩
 | some x =>
  have hx:(x.1 == 0)=false:=by
   have:=hf x rfl
   simpa using this
  simp only[flE,flA] at c6 c7;generalize x.1=xe at c6 hx
  have hx':¬ xe=0:=by simpa using hx
  clear hx c7;go_enter Tryz.func56,Tryz.ntmps56;go_wp2
  go_end0
  exact⟨rfl,H.out,iq.refl _ _⟩
def aaq:RK (List UInt8) Unit where
 sz:=2
 cells m _:=[.string ⟨m.toArray⟩,.slice none 0 0]
 inn _ _ _ _:=True
 len _ _:=rfl
 frame _ _:=trivial
 imp _ _:=trivial
theorem OE {w:World}{b:Nat}{u v:Value}(h:w.heap[b]?=some (.cells #[u,v] 27 (0,0))):w.cell? ⟨b,0,none⟩=some u∧w.cell? ⟨b,1,none⟩=some v:=⟨by rw[Lib.cell_of_heap h];rfl,by rw[Lib.cell_of_heap h];rfl⟩
theorem SQ (P:Nat→Prop)(af:Option Addr)(cf:Nat)(ms:List (List UInt8))(m n:List UInt8)(w:World)(h:RowK aaq P w (.slice af ms.length cf) ms)(hl:ms.length≤1000000) :
  Calls Tryz.prog 11 #[.slice af ms.length cf,.string ⟨m.toArray⟩,.string ⟨n.toArray⟩] w fun e w'=>e=.returned (.tuple #[.agg #[.string ⟨#[]⟩,.slice none 0 0,.int .i64 0,.slice none 0 0],.bool false])∧Below w.heap.size w w':=by
 obtain⟨Tv,cap,hv,_,hf⟩:=h.form;simp only[Value.slice.injEq] at hv;obtain⟨rfl,-,rfl⟩:=hv;have hal:=aj w (.cells #[.string ⟨#[]⟩,.slice none 0 0,.int .i64 0,.slice none 0 0] 31);have hR:=heap_alloc_new w (.cells #[.string ⟨#[]⟩,.slice none 0 0,.int .i64 0,.slice none 0 0] 31);have HF:=ah hf;clear h hf;go_enter Tryz.func11,Tryz.ntmps11
 go_upto_region 1 with fail
 change Code.wp _ _ _ _ (w.alloc (.cells #[.string ⟨#[]⟩,.slice none 0 0,.int .i64 0,.slice none 0 0] 31))
 have hz:w.heap.size<(w.alloc (.cells #[.string ⟨#[]⟩,.slice none 0 0,.int .i64 0,.slice none 0 0] 31)).heap.size:=by simp
 generalize w.alloc _=w1 at *;have hz1:=hal.size
 have ada:Hid (∀ W,Below w1.heap.size w1 W→W.heap[w.heap.size]?=some (.cells #[.string ⟨#[]⟩,.slice none 0 0,.int .i64 0,.slice none 0 0] 31 (0,0))∧Below w.heap.size w W):=ah fun W hW=>⟨(hW.block _ hz).trans hR,hal.trans (hW.mono hz1)⟩
 clear hR;go_wp2
 go_loopw [9,11,14] (fun _ _ q wr=>∃ k:Nat,k≤ms.length∧q=.int .i64 k∧Below w1.heap.size w1 wr) (fun _ _ q _=>ms.length - (intOf q).toNat)
 case atStart=>exact⟨0,Nat.zero_le _,rfl,Below.refl _ _⟩
 case round =>
  obtain⟨k,hk,rfl,hbl⟩:=hrel;have uL:=hbl.size
  by_cases hlt:k<ms.length
  ·obtain⟨b,off,rfl,_,hbw,hcell⟩:=HF.out (by omega)
   obtain⟨_,_,hc⟩:=hcell k hlt;have x0:=((hal.trans (hbl.mono hz1)).cell (p:=⟨b,off+k * 2+0,none⟩) hbw).trans (hc 0 _ rfl);have x1:=((hal.trans (hbl.mono hz1)).cell (p:=⟨b,off+k * 2+1,none⟩) hbw).trans (hc 1 _ rfl);rw[Nat.add_zero] at x0
   have oH:(k:Int)<(ms.length:Int):=by omega
   clear hc hcell;generalize ms[k]=y at *;have bC:=aj wr (.cells #[.string ⟨y.toArray⟩,.slice none 0 0] 27);have hN:=heap_alloc_new wr (.cells #[.string ⟨y.toArray⟩,.slice none 0 0] 27)
   go_upto_region 4 with fail
   change Code.wp _ _ _ _ (wr.alloc (.cells #[.string ⟨y.toArray⟩,.slice none 0 0] 27));clear x0 x1;generalize wr.alloc (.cells #[.string ⟨y.toArray⟩,.slice none 0 0] 27)=w2 at *;have hb2:=hbl.trans (bC.mono uL);obtain⟨y0,y1⟩:=OE hN
   go_upto_if 21 with fail
   cases hym:y == m with
   | false =>
    clear hym;go_wp2
    go_roundw
    case rel=>exact⟨k+1,by omega,by go_num,hb2⟩
    case measure=>simp[intOf];omega
   | true =>
    clear hym;obtain⟨hRr,hbw2⟩:=ada.out w2 hb2;obtain⟨⟨c0,c1,c2,c3⟩,f0,f1,f2,f3⟩:=iD hRr;go_wp2
    go_loopw [25] (fun q wr=>q=.int .i64 0∧wr=w2) (fun q _=>0)
    case atStart=>exact⟨rfl,rfl⟩
    case round =>
     obtain⟨rfl,rfl⟩:=hrel;go_wp2;change bodyPost _ _ _ _ _ (ny wr w.heap.size (.string ⟨#[]⟩) (.slice none 0 0) (.int .i64 0) (.slice none 0 0));have hP:=iB hRr (.string ⟨#[]⟩) (.slice none 0 0) (.int .i64 0) (.slice none 0 0);have I5:=gH hbw2 (Nat.le_refl _) (.string ⟨#[]⟩) (.slice none 0 0) (.int .i64 0) (.slice none 0 0);generalize ny wr _ _ _ _ _=w4 at *;obtain⟨⟨d0,d1,d2,d3⟩,-⟩:=iD hP;exact bodyPost_ret (v:=.tuple #[.agg #[.string ⟨#[]⟩,.slice none 0 0,.int .i64 0,.slice none 0 0],.bool false]) (by simp[results,Tryz.results11,go_sem,d0,d1,d2,d3]) rfl ⟨rfl,I5⟩
  ·obtain rfl:k=ms.length:=by omega
   have oH:decide ((ms.length:Int)<(ms.length:Int))=false:=decide_eq_false (by omega);obtain⟨hRr,hbw⟩:=ada.out wr hbl;obtain⟨⟨c0,c1,c2,c3⟩,f0,f1,f2,f3⟩:=iD hRr;go_wp2;change bodyPost _ _ _ _ _ (ny wr w.heap.size (.string ⟨#[]⟩) (.slice none 0 0) (.int .i64 0) (.slice none 0 0));have hP:=iB hRr (.string ⟨#[]⟩) (.slice none 0 0) (.int .i64 0) (.slice none 0 0);have I5:=gH hbw (Nat.le_refl _) (.string ⟨#[]⟩) (.slice none 0 0) (.int .i64 0) (.slice none 0 0);generalize ny wr _ _ _ _ _=w4 at *;obtain⟨⟨d0,d1,d2,d3⟩,-⟩:=iD hP;exact bodyPost_ret (v:=.tuple #[.agg #[.string ⟨#[]⟩,.slice none 0 0,.int .i64 0,.slice none 0 0],.bool false]) (by simp[results,Tryz.results11,go_sem,d0,d1,d2,d3]) rfl ⟨rfl,I5⟩
def abt:Option (List Value)→Option Nat→Prop
 | none,none=>True
 | some vs,some n=>∃ s a c b u,vs=[s,.slice a n c,b,u]
 | _,_=>False
structure ScM (E:SE) (C:WV) (lb B:Nat) (im:Value) (w:World):Prop where
 map:∃ mv ml,D5 B C.db mv ml w∧ml.length≤1000000∧∀ nm,abt (su ml nm) (E.arity nm)
 imps:bJ (fun b=>b≠lb) w im E.imps
 rise:E.imps.Pairwise (· < ·)
 few:E.imps.length≤500000
 faces:∃ ms:List (List UInt8),ms.length≤1000000∧RowK aaq (fun b=>b≠lb) w C.fs ms
 ext:E.ext=fun _ _=>none
theorem Zx {P:Nat→Prop}{B e sz n:Nat}{w w':World}{v:Value}{xs:List Value}(h:w.ownsRow B e sz v n xs)(ha:aQ P w w')(hP:∀ b,some b=v.ownBlock→P b):w'.ownsRow B e sz v n xs:=by
 obtain⟨hl,h⟩:=h;refine⟨hl,?_⟩
 rcases h with h|⟨g,cap,cur,rfl,hg,hh,hn⟩
 ·exact .inl h
 ·exact .inr ⟨g,cap,cur,rfl,hg,(ha.2 g (hP g rfl) (bG hh).1).trans hh,hn⟩
theorem D5.alk {P:Nat→Prop}{B mb:Nat}{v:Value}{l:ML}{w w':World}(h:D5 B mb v l w)(ha:aQ P w w')(hm:P mb)(hP:∀ b,some b=v.ownBlock→P b):D5 B mb v l w' :=
 ⟨h.wf,(ha.2 mb hm (bG h.box).1).trans h.box,Zx h.own ha hP⟩
theorem ScM.keep {E:SE}{C:WV}{lb B:Nat}{im:Value}{f:Fl}{w w':World}(h:ScM E C lb B im w)(hl:qK C lb im f w)(ha:aQ (fun b=>b≠lb) w w'):ScM E C lb B im w':=by
 obtain⟨⟨mv,ml,h1,h2,h3⟩,h4,h5,h6,⟨ms,h7,h8⟩,h9⟩:=h;refine⟨⟨mv,ml,h1.alk ha (fun q=>?_) (fun b hb q=>?_),h2,h3⟩,h4.frame ha,h5,h6,⟨ms,h7,h8.frame ha⟩,h9⟩
 ·have h0:=h1.box
  rw[q,hl] at h0;simp only[Option.some.injEq,Obj.cells.injEq] at h0;exact absurd h0.2.1 (by decide)
 ·subst q
  exact own_ne h1.own hl (by decide) hb
theorem WW {l:ML}{x:List UInt8}{k:Nat}(hw:IZ k l){ar:Option Nat}(h:abt (su l x) ar):∃ (s b u:Value) (a:Option Addr) (n c:Nat) (fd:Bool),(∀ W e w',EL l x W e w'→e=.returned (.tuple #[.agg #[s,.slice a n c,b,u],.bool fd])∧Below W.heap.size W w')∧(s.oneCell'=true∧b.oneCell'=true∧u.oneCell'=true)∧∀ kn at_,CZ ar kn at_=if fd=true then (if n=kn then none else some (32,at_)) else some (31,at_):=by
 cases hg:su l x with
 | none =>
  rw[hg] at h
  cases ar with
  | some n=>exact h.elim
  | none =>
   refine⟨.string ⟨#[]⟩,.int .i64 0,.slice none 0 0,none,0,0,false,fun W e w' q=>?_,⟨rfl,rfl,rfl⟩,fun kn at_=>rfl⟩;unfold EL at q;rw[hg] at q;exact q
 | some vs =>
  rw[hg] at h
  cases ar with
  | none=>exact h.elim
  | some n =>
   obtain⟨s,a,c,b,u,rfl⟩:=h
   have hone:∀ y∈[s,Value.slice a n c,b,u],y.oneCell'=true:=by
    unfold su at hg;obtain⟨p,hp,hq⟩:=Option.map_eq_some_iff.1 hg;rw[← hq];exact hw.one p (List.mem_of_find?_eq_some hp)
   refine⟨s,b,u,a,n,c,true,fun W e w' q=>?_,⟨hone s (by simp),hone b (by simp),hone u (by simp)⟩,fun kn at_=>rfl⟩;unfold EL at q;rw[hg] at q;exact q
theorem D6 (w:World)(b k:Nat)(v0 v1 v2 v3:Value)(h:k≠b):(ny w b v0 v1 v2 v3).heap[k]?=w.heap[k]? :=
 (heap_setCell_other _ _ _ _ h).trans ((heap_setCell_other _ _ _ _ h).trans ((heap_setCell_other _ _ _ _ h).trans (heap_setCell_other _ _ _ _ h)))
theorem oD (w:World)(b c i:Nat)(v0 v1 v2 v3:Value)(h:c≠b):((((w.setCell ⟨b,0,none⟩ v0).setCell ⟨b,1,none⟩ v1).setCell ⟨b,2,none⟩ v2).setCell ⟨b,3,none⟩ v3).cell? ⟨c,i,none⟩=w.cell? ⟨c,i,none⟩ :=
 World.cell?_of_block (a:=⟨c,i,none⟩) ((heap_setCell_other _ _ _ _ h).trans ((heap_setCell_other _ _ _ _ h).trans ((heap_setCell_other _ _ _ _ h).trans (heap_setCell_other _ _ _ _ h))))
theorem SS (E:SE)(C:WV)(lb B:Nat)(im:Value)(f:Fl)(op:Int)(nm md:List UInt8)(ng ys:Bool)(mv:Value)(ae:Option Addr)(n ce:Nat)(a_:Int)(w:World)(hL:qK C lb im f w)(hM:ScM E C lb B im w)(hf:nH f) :
  Calls Tryz.prog 142 #[.pointer (some ⟨lb,0,none⟩),.agg (aU op ⟨nm.toArray⟩ ⟨md.toArray⟩ ng mv ys (.slice ae n ce) a_)] w (I6 C lb im (sw f (Gg E nm md n a_)) w):=by
 have hal:=aj w (.cells (aU op ⟨nm.toArray⟩ ⟨md.toArray⟩ ng mv ys (.slice ae n ce) a_) 46);have hN:=heap_alloc_new w (.cells (aU op ⟨nm.toArray⟩ ⟨md.toArray⟩ ng mv ys (.slice ae n ce) a_) 46);have hL1:=hL.below hal;have hM1:=hM.keep hL (aQ.of hal);have hk1:=iq.of hal hL.lt;obtain⟨⟨mv',ml,hm1,hm2,hm3⟩,hi1,hi2,hi3,⟨ms,hs1,hs2⟩,hx⟩:=hM1;obtain⟨s,b,u,a,np,c,fd,hget,⟨o1,o2,o3⟩,har⟩:=WW hm1.wf (hm3 nm);have HG:=ah (fun W (hW:Below (w.alloc (.cells (aU op ⟨nm.toArray⟩ ⟨md.toArray⟩ ng mv ys (.slice ae n ce) a_) 46)).heap.size (w.alloc (.cells (aU op ⟨nm.toArray⟩ ⟨md.toArray⟩ ng mv ys (.slice ae n ce) a_) 46)) W)=>(WU B C.db mv' ml nm W (hm1.below hW) hm2).mono fun e w' q=>hget W e w' q);obtain⟨ai,ci,rfl,-,-⟩:=hi1.slice;have HH:=ah (fun W (hW:Below (w.alloc (.cells (aU op ⟨nm.toArray⟩ ⟨md.toArray⟩ ng mv ys (.slice ae n ce) a_) 46)).heap.size (w.alloc (.cells (aU op ⟨nm.toArray⟩ ⟨md.toArray⟩ ng mv ys (.slice ae n ce) a_) 46)) W)=>yh _ ai ci E.imps ⟨md.toArray⟩ W (hi1.below hW) hi2 (by omega));obtain⟨af,cf,hfs⟩:=hs2.slice;have HF:=ah (fun W (hW:Below (w.alloc (.cells (aU op ⟨nm.toArray⟩ ⟨md.toArray⟩ ng mv ys (.slice ae n ce) a_) 46)).heap.size (w.alloc (.cells (aU op ⟨nm.toArray⟩ ⟨md.toArray⟩ ng mv ys (.slice ae n ce) a_) 46)) W)=>SQ _ af cf ms md nm W (by rw[← hfs];exact hs2.frame (aQ.of hW)) hs1);have HFS:=ah hfs
 have hcf:∀ q,Gg E nm md n q=if md=[] then (if fd=true then (if np=n then none else some (32,q)) else some (31,q)) else if md∈E.imps then some (31,q) else some (33,q):=fun q=>by
  unfold Gg;rw[har,hx]
  rfl
 rw[hcf]
 obtain⟨R,hR⟩:∃ R,R=sw f (if md=[] then (if fd=true then (if np=n then none else some (32,a_)) else some (31,a_)) else if md∈E.imps then some (31,a_) else some (33,a_)):=⟨_,rfl⟩
 rw[← hR];have X5:=ah (fun W (hW:qK C lb (.slice ai E.imps.length ci) f W) (e:Int)=>Gu C lb (.slice ai E.imps.length ci) f e a_ W hW hf);have hbb:=hL.lt;clear hcf har hx hget hm1 hm2 hm3 hi1 hi2 hi3 hs1 hs2 hM hL hfs hf;generalize E.imps=L at *;have HR:=ah hR;clear hR;simp only at HH;go_enter Tryz.func142,Tryz.ntmps142
 go_upto_region 1 with fail
 change Code.wp _ _ _ _ (w.alloc (.cells (aU op ⟨nm.toArray⟩ ⟨md.toArray⟩ ng mv ys (.slice ae n ce) a_) 46))
 have hz:w.heap.size<(w.alloc (.cells (aU op ⟨nm.toArray⟩ ⟨md.toArray⟩ ng mv ys (.slice ae n ce) a_) 46)).heap.size:=by simp
 generalize w.alloc _=w1 at *;obtain⟨⟨k0,k1',k2,k3,k4,k5,k6,k7⟩,kz⟩:=hL1.cells;obtain⟨y0,y1,y2,y3,y4,y5,y6,y7⟩:=aG hN
 have s1:=fun a m W=>run_store Tryz.prog W a s m o1
 have s2:=fun a m W=>run_store Tryz.prog W a b m o2
 have s3:=fun a m W=>run_store Tryz.prog W a u m o3
 have hn1:lb≠w1.heap.size:=by omega
 have hn2:w.heap.size≠w1.heap.size:=by omega
 have HL1:=ah hL1;have HN:=ah hN;clear hL1 hN kz
 go_cut [4,5] (fun p q wc=>∃ Y:Nat,p=.pointer (some ⟨Y,0,none⟩)∧q=.bool fd∧wc.heap[Y]?=some (.cells #[s,.slice a np c,b,u] 31 (0,0))∧w1.heap.size≤Y∧Below w1.heap.size w1 wc)
 case first =>
  go_region_held3 (fun W=>W.cell? ⟨lb,5,none⟩=some (.pointer (some ⟨C.db,0,none⟩))∧W.cell? ⟨w.heap.size,1,none⟩=some (.string ⟨nm.toArray⟩))
   (first|(with_reducible exact p3)|(with_reducible exact And.intro ((oD w2 w1.heap.size lb 5 _ _ _ _ hn1).trans p3.1) ((oD w2 w1.heap.size w.heap.size 1 _ _ _ _ hn2).trans p3.2))|(go_keep;done))
   (first|(go_at_call 55;refine(HG.out _ ?_).mono ?_;(first|exact(Below.refl _ _).drew|exact((Below.refl _ _).alloc (Nat.le_refl _) _).drew);rintro e w2 ⟨rfl,hb2⟩;have hq2:Below w1.heap.size w1 w2:=(by first|exact(Below.refl _ _).drew.trans hb2|exact((Below.refl _ _).alloc (Nat.le_refl _) _).drew.trans (hb2.mono (by simp)));have p3:=And.intro (cell_later hq2 k5) (cell_later hq2 y1);try (have hT:=(hb2.block w1.heap.size (by simp)).trans (heap_alloc_new w1 (.cells #[.string ⟨#[]⟩,.slice none 0 0,.int .i64 0,.slice none 0 0] 31));obtain⟨⟨t0,t1,t2,t3⟩,g0,g1,g2,g3⟩:=iD hT)))
  ·clear s1 s2 s3
   go_wp2_with fail
   go_meet
   exact⟨w2.heap.size,rfl,rfl,heap_alloc_new w2 _,hq2.size,hq2.alloc hq2.size _⟩
  ·clear s1 s2 s3
   go_wp2_with fail
   go_meet
   exact⟨w1.heap.size,rfl,rfl,iB hT s (.slice a np c) b u,Nat.le_refl _,gH hq2 (Nat.le_refl _) s (.slice a np c) b u⟩
 case rest =>
  obtain⟨Y,rfl,rfl,hY,hYw,hqc⟩:=hcut
  obtain⟨w2,rfl⟩:∃ w2:World,w2=wc:=⟨_,rfl⟩
  clear k0 k1' k2 k3 k4 k5 k6 k7 y0 y1 y2 y3 y4 y5 y6 y7;have hL2:=HL1.out.below hqc;have Md:=(hqc.block _ hz).trans HN.out;have hzc:=hqc.size;have hk2:=hk1.trans (iq.of hqc (by omega));obtain⟨⟨k0,k1',k2,k3,k4,k5,k6,k7⟩,kz⟩:=hL2.cells;obtain⟨y0,y1,y2,y3,y4,y5,y6,y7⟩:=aG Md;obtain⟨⟨c0,c1,c2,c3⟩,f0,f1,f2,f3⟩:=iD hY;have HL2:=ah hL2;have HY:=ah hY;have hYl:=(bG hY).1;have HNN:=ah Md;clear hL2 Md hY kz HN
  go_upto_if 18 with fail
  cases hmd:md.isEmpty with
  | true =>
   have HR1:Hid (R=sw f (if fd=true then (if np=n then none else some (32,a_)) else some (31,a_))):=ah (by rw[HR.out,if_pos (List.isEmpty_iff.1 hmd)]);clear hmd s1 s2 s3
   cases fd with
   | false =>
    have HFx:=ah (X5.out w2 HL2.out 31);go_wp2_with (go_at_call 56;refine HFx.out.mono ?_;rintro e w3 ⟨rfl,hl3,hk3⟩)
    go_end0
    exact⟨rfl,by rw[HR1.out];exact hl3,hk2.trans hk3⟩
   | true =>
    by_cases hnp:np=n
    ·subst hnp
     go_wp2
     go_end0
     exact⟨rfl,by have q:=HL2.out;rw[HR1.out];simpa [xU] using q,hk2⟩
    ·have HR2:Hid (R=sw f (some (32,a_))):=ah (by rw[HR1.out,if_pos rfl,if_neg hnp])
     have HFx:=ah (X5.out w2 HL2.out 32);go_wp2_with (go_at_call 56;refine HFx.out.mono ?_;rintro e w3 ⟨rfl,hl3,hk3⟩)
     go_end0
     exact⟨rfl,by rw[HR2.out];exact hl3,hk2.trans hk3⟩
  | false =>
   have hm0:md≠[]:=fun q=>by rw[q] at hmd;cases hmd
   have HHx:=ah (fun W (hW:Below w2.heap.size w2 W)=>HH.out W (hqc.trans (hW.mono hzc)));have HFx:=ah (fun W (hW:Below w2.heap.size w2 W)=>HF.out W (hqc.trans (hW.mono hzc)))
   obtain⟨bb,abu⟩:∃ bb,decide (md∈L)=bb:=⟨_,rfl⟩
   rw[abu] at HHx
   have HR1:Hid (R=sw f (if bb=true then some (31,a_) else some (33,a_))):=ah (by
    rw[HR.out,if_neg hm0,← abu]
    by_cases q:md∈L
    ·rw[if_pos q,if_pos (decide_eq_true q)]
    ·rw[if_neg q,if_neg (by simpa using q)])
   have HN2:=ah (show w2.heap[w.heap.size]?=some (.cells (aU op ⟨nm.toArray⟩ ⟨md.toArray⟩ ng mv ys (.slice ae n ce) a_) 46 (0,0)) from HNN.out);clear abu hm0 s1 s2 s3 HR HH HF
   go_upto_region 3 with fail
   go_cut [26] (fun v wc=>v=.bool (!bb)∧Below w2.heap.size w2 wc)
   case first =>
    go_region_with (go_at_call 60;refine(HHx.out _ (Below.refl _ _).drew).mono ?_;rintro e w3 ⟨rfl,hb3⟩)
    all_goals
     go_wp2_with fail
     go_meet
     exact⟨rfl,(Below.refl _ _).drew.trans hb3⟩
   case rest =>
    obtain⟨rfl,hq3⟩:=hcut
    obtain⟨w3,rfl⟩:∃ w3:World,w3=wc:=⟨_,rfl⟩
    clear k0 k1' k2 k3 k4 k5 k6 k7 y0 y1 y2 y3 y4 y5 y6 y7 c0 c1 c2 c3 f0 f1 f2 f3 HHx;have hL3:=HL2.out.below hq3;have PN:=(hq3.block _ (by omega)).trans HN2.out;have hY3:=(hq3.block _ hYl).trans HY.out;have hz3:=hq3.size;have hk3:=hk2.trans (iq.of hq3 (by omega));obtain⟨⟨k0,k1',k2,k3,k4,k5,k6,k7⟩,kz⟩:=hL3.cells;obtain⟨y0,y1,y2,y3,y4,y5,y6,y7⟩:=aG PN;obtain⟨⟨c0,c1,c2,c3⟩,f0,f1,f2,f3⟩:=iD hY3;have WX:=ah hL3;clear kz
    cases bb with
    | false =>
     have HFx:=ah (X5.out w3 WX.out 33);have HR2:Hid (R=sw f (some (33,a_))):=ah (by have q:=HR1.out;simpa using q);go_wp2_with (go_at_call 56;refine HFx.out.mono ?_;rintro e w4 ⟨rfl,hl4,hk4⟩)
     go_end0
     exact⟨rfl,by rw[HR2.out];exact hl4,hk3.trans hk4⟩
    | true =>
     have HR2:Hid (R=sw f (some (31,a_))):=ah (by have q:=HR1.out;simpa using q);rw[HFS.out] at k3;have HN3:=ah PN;have HY3:=ah hY3;clear HR1 PN hY3;have AB:=hal.trans ((hqc.trans (hq3.mono hzc)).mono hal.size);have aep:w.heap.size≤Y:=Nat.le_trans hal.size hYw
     have abv:Y<w3.heap.size:=by omega
     go_upto_region 5 with fail
     go_cut [5] (fun v wc=>v=.bool false∧qK C lb (.slice ai L.length ci) f wc∧wc.heap[w.heap.size]?=some (.cells (aU op ⟨nm.toArray⟩ ⟨md.toArray⟩ ng mv ys (.slice ae n ce) a_) 46 (0,0))∧Below w.heap.size w wc)
     case first =>
      go_region_with (go_at_call 11;refine(HFx.out _ hq3.drew).mono ?_;rintro e w4 ⟨rfl,hb4⟩;have hY4:=(hb4.block Y abv).trans HY3.out;obtain⟨⟨d0,d1,d2,d3⟩,g0,g1,g2,g3⟩:=iD hY4)
      all_goals
       have zH:Below w3.heap.size w3 w4:=(Below.refl _ _).drew.trans hb4
       have HE:Hid (qK C lb (.slice ai L.length ci) f (ny w4 Y (.string ⟨#[]⟩) (.slice none 0 0) (.int .i64 0) (.slice none 0 0))∧(ny w4 Y (.string ⟨#[]⟩) (.slice none 0 0) (.int .i64 0) (.slice none 0 0)).heap[w.heap.size]?=some (.cells (aU op ⟨nm.toArray⟩ ⟨md.toArray⟩ ng mv ys (.slice ae n ce) a_) 46 (0,0))∧Below w.heap.size w (ny w4 Y (.string ⟨#[]⟩) (.slice none 0 0) (.int .i64 0) (.slice none 0 0))) :=
        ah ⟨(D6 w4 Y lb _ _ _ _ (by omega)).trans (WX.out.below zH),(D6 w4 Y w.heap.size _ _ _ _ (by omega)).trans ((zH.block _ (by omega)).trans HN3.out),gH (AB.trans (zH.mono AB.size)) aep _ _ _ _⟩
       clear d0 d1 d2 d3 g0 g1 g2 g3 hY4 k0 k1' k2 k3 k4 k5 k6 k7 y0 y1 y2 y3 y4 y5 y6 y7 c0 c1 c2 c3 f0 f1 f2 f3 hb4 zH;go_wp2_with fail
       go_meet
       exact⟨rfl,HE.out.1,HE.out.2.1,HE.out.2.2⟩
     case rest =>
      obtain⟨rfl,hl4,Vq,hb4⟩:=hcut
      obtain⟨w4,rfl⟩:∃ w4:World,w4=wc:=⟨_,rfl⟩
      clear k0 k1' k2 k3 k4 k5 k6 k7 y0 y1 y2 y3 y4 y5 y6 y7 c0 c1 c2 c3 f0 f1 f2 f3;obtain⟨y0,y1,y2,y3,y4,y5,y6,y7⟩:=aG Vq;have HFy:=ah (X5.out w4 hl4 31);clear Vq hl4;go_wp2_with (go_at_call 56;refine HFy.out.mono ?_;rintro e w5 ⟨rfl,hl5,hk5⟩)
      go_end0
      exact⟨rfl,by rw[HR2.out];exact hl5,(iq.of hb4 hbb).trans hk5⟩
end Go.Proofs.YtknicmmigbhpcaaGreatDoor
