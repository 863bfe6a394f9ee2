/- Walks and plain laws: TextLen, NineA, TypedW, TypedLawW, ShowLawW. -/
import Derived.Test.YtdednahplodojaaGreatDoorB32
import Derived.Test.YtdednahplodojaaGreatDoorB33
set_option maxHeartbeats 16000000
set_option maxRecDepth 100000
set_option linter.unusedVariables false
set_option linter.unusedSimpArgs false
namespace Go.Proofs.YtdednahplodojaaGreatDoor
theorem signZ_len (op:Int):(signZ op).length≤2:=by
 unfold signZ
 generalize op.toNat - 7=i
 have h:∀ x∈([[43],[45],[42],[47],[37],[61],[60,62],[60],[60,61],[62],[62,61],[38,38],[124,124],[61,62]]:List (List UInt8)),x.length≤2:=by decide
 rw [List.getD_eq_getElem?_getD]
 cases hx:([[43],[45],[42],[47],[37],[61],[60,62],[60],[60,61],[62],[62,61],[38,38],[124,124],[61,62]]:List (List UInt8))[i]? with
 | none=>simp
 | some x=>exact h x (List.mem_of_getElem? hx)
theorem parZ_len (l:Int)(k:Int × List UInt8):(parZ l k).length≤k.2.length+2:=by
 unfold parZ
 split
 ·simp only [List.length_append,List.length_cons,List.length_nil];omega
 ·omega
def sumT:List (Int × List UInt8)→Nat
 | []=>0
 | k :: l=>k.2.length+sumT l
theorem sumT_three:∀ ks:List (Int × List UInt8),(ks.getD 0 (0,[])).2.length+(ks.getD 1 (0,[])).2.length+(ks.getD 2 (0,[])).2.length≤sumT ks
 | []=>by simp [sumT]
 | [a]=>by simp [sumT]
 | [a,b]=>by simp [sumT]
 | a :: b :: c :: l=>by simp [sumT];omega
theorem commaZ_len:∀ ks:List (Int × List UInt8),(commaZ (ks.map Prod.snd)).length≤sumT ks+2 * ks.length
 | []=>by simp [commaZ,sumT]
 | [a]=>by simp [commaZ,sumT]
 | a :: b :: l=>by
  have h:=commaZ_len (b :: l)
  simp only [List.map_cons,commaZ,List.length_append,List.length_cons,List.length_nil,sumT] at h ⊢
  omega
theorem showF_len (op:Int)(nm md:List UInt8)(num:Int)(yes:Bool)(ks:List (Int × List UInt8))(h1:nm.length≤65536)(h2:md.length≤65536)(h3:(intF num).length≤61)(h4:ks.length≤65536):(showF op nm md num yes ks).length≤sumT ks+300000:=by
 have h5:=sumT_three ks
 have h6:=commaZ_len ks
 have h7:=signZ_len op
 have p1:=parZ_len 9 (ks.getD 0 (0,[]))
 have p2:=parZ_len 4 (ks.getD 0 (0,[]))
 have p3:=parZ_len (firstZ op) (ks.getD 0 (0,[]))
 have p4:=parZ_len (thenZ op) (ks.getD 1 (0,[]))
 have hm:(if md=[] then [] else md++[46]).length≤65537:=by
  split
  ·simp
  ·simp only [List.length_append,List.length_cons,List.length_nil];omega
 unfold showF
 generalize (if md=[] then [] else md++[46])=mm at hm ⊢
 repeat' split
 all_goals ((try simp only [List.length_append,List.length_cons,List.length_nil]);omega)
theorem decF_len:∀ (k n:Nat),n<10 ^ (k+1)→(decF n).length≤k+1
 | 0,n,h=>by
  rw [decF,dif_pos (by omega)]
  simp
 | k+1,n,h=>by
  rw [decF]
  split
  ·simp
  ·rw [List.length_append,List.length_singleton]
   have:=decF_len k (n / 10) (by rw [Nat.pow_succ] at h;omega)
   omega
theorem intF_len {n:Int}(h:n.natAbs<10 ^ 60):(intF n).length≤61:=by
 unfold intF
 rw [List.length_append]
 have:=decF_len 59 n.natAbs h
 split
 ·simp only [List.length_cons,List.length_nil];omega
 ·simp only [List.length_nil];omega
mutual
theorem PZ.text_small:∀ e:PZ,e.fit→e.text.length≤300000 * e.size
 | .mk op nm md num yes kids at_,h=>by
  rw [PZ.fit] at h
  obtain ⟨h1,h2,h3,h4,h5⟩:=h
  have hs:=textsZ_small kids h5
  have hl:(textsZ kids).length=kids.length:=by rw [textsZ_map,List.length_map]
  have:=showF_len op nm md num yes (textsZ kids) h1 h2 (intF_len h3) (by omega)
  rw [PZ.text,PZ.size]
  omega
theorem textsZ_small:∀ l:List PZ,fitZ l→sumT (textsZ l)≤300000 * sizeZ l
 | [],_=>by simp [textsZ,sumT]
 | e :: l,h=>by
  rw [fitZ] at h
  have h1:=PZ.text_small e h.1
  have h2:=textsZ_small l h.2
  rw [textsZ,sumT,sizeZ]
  simp only
  omega
end
theorem bothF_text {t:List CellZ}{e:PZ}(h:bothF t=some e):e.text.length≤9000000:=by
 have h1:=PZ.text_small e (bothF_fit h)
 have h2:=bothF_size h
 omega
end Go.Proofs.YtdednahplodojaaGreatDoor

namespace Go.Proofs.YtdednahplodojaaGreatDoor
open Go.RowKit Go
def resZ:PZ:=.mk 4 [] [] 0 false [] 0
theorem resZ_right:resZ.right false=false:=by
 unfold resZ
 simp only [PZ.right,headB,mayB]
 rfl
theorem resZ_at (B:Nat)(w:World):ZAt YA (fun b=>b<B) w (.slice none 0 0) (.slice none 0 0) resZ:=by
 unfold resZ
 rw [ZAt]
 exact ⟨NumAt.zero _ _,[],SlP.nil _ _ _,by rw [ZAtL]⟩
theorem anchor9_any (w:World):Calls Tryz.prog 17 #[] w fun r w'=>r=.returned (.bool true)∧Below w.heap.size w w':=by
 have HR:=Lib.hid (fun W=>nine_good ⟨#[110,111,116,40,97,38,38,45,40,98,43,49,41,60,99,41]⟩ W (by decide) nineT ((aloneT nineC).em 0 0) nineC nine_form nine_fgood)
 have hz:=nine_z
 obtain ⟨x,hx⟩:∃ x,x=nineC.pe nineT 0:=⟨_,rfl⟩
 rw [← hx] at HR hz
 have HF:Hid (∀ (B:Nat) (am:Option Addr) (wn cm:Nat) (ae:Option Addr) (ce:Nat) (W:World),EAt XA (fun b=>b<B) W (.slice am wn cm) (.slice ae x.kids.length ce) x→B≤W.heap.size→Calls Tryz.prog 19 #[.agg #[.int .i64 x.op,.string ⟨x.name.toArray⟩,.string ⟨x.module.toArray⟩,.bool (decide (x.num<0)),.slice am wn cm,.bool x.yes,.slice ae x.kids.length ce,.int .i64 x.at_]] W fun r w'=>r=.returned (.tuple #[.string ⟨#[110,111,116,32,40,97,32,38,38,32,45,40,98,32,43,32,49,41,32,60,32,99,41]⟩,.int .i64 0])∧Below W.heap.size W w'):=Lib.hid fun B am wn cm ae ce W hE hB=>by
  have h:=ZAt.ofE hE
  rw [hz] at h
  have hd:=PE.z_def x
  rw [hz] at hd
  have d1:nineZ.op=(x.op:Int):=congrArg PZ.op hd
  have d2:nineZ.name=x.name:=congrArg PZ.name hd
  have d3:nineZ.module=x.module:=congrArg PZ.module hd
  have d4:nineZ.num=x.num:=congrArg PZ.num hd
  have d5:nineZ.yes=x.yes:=congrArg PZ.yes hd
  have d6:nineZ.kids.length=x.kids.length:=(congrArg (fun z:PZ=>z.kids.length) hd).trans (by show (x.kids.map PE.z).length=_;rw [List.length_map])
  have d7:nineZ.at_=(x.at_:Int):=congrArg PZ.at_ hd
  have hq:=sformula_any nineZ B am wn cm ae ce W ⟨by rw [d6];exact h,hB,nine_fit⟩ (by rw [nine_text];decide)
  unfold ShowPost at hq
  rw [d1,d2,d3,d4,d5,d6,d7,nine_right,nine_text] at hq
  exact hq
 have HB4:Hid (∀ W,Calls Tryz.prog 20 #[.agg #[.int .i64 4,.string ⟨#[]⟩,.string ⟨#[]⟩,.bool false,.slice none 0 0,.bool false,.slice none 0 0,.int .i64 0]] W fun r w'=>r=.returned (.tuple #[.string ⟨#[]⟩,.int .i64 10])∧Below W.heap.size W w'):=Lib.hid fun W=>by
  have hq:=sbody_any resZ W.heap.size none 0 0 none 0 W ⟨resZ_at _ _,Nat.le_refl _,by unfold resZ;simp only [PZ.fit,fitZ];decide⟩ (by unfold resZ;simp only [PZ.text,showF];decide)
  unfold ShowPost at hq
  rw [resZ_right] at hq
  exact hq
 clear hx hz
 go_enter Tryz.func17,Tryz.ntmps17
 go_upto_region 2 with (go_at_call 41;refine (HR.out _).mono ?_;rintro r w1 ⟨am,wn,cm,ae,ce,rfl,hE,hb1⟩)
 have hbn:=below_new w1 (.cells (boxZ x.op ⟨x.name.toArray⟩ ⟨x.module.toArray⟩ (decide (x.num<0)) (.slice am wn cm) x.yes (.slice ae x.kids.length ce) x.at_) 40)
 have hX:=heap_alloc_new w1 (.cells (boxZ x.op ⟨x.name.toArray⟩ ⟨x.module.toArray⟩ (decide (x.num<0)) (.slice am wn cm) x.yes (.slice ae x.kids.length ce) x.at_) 40)
 have hE2:=(hE.imp (Q:=fun b=>b<w1.heap.size) fun b _ hl=>hl).frame (Alk.of hbn)
 have hb2:=hb1.trans (hbn.mono hb1.size)
 have hz2:=hbn.size
 change Code.wp _ _ _ _ (w1.alloc (.cells (boxZ x.op ⟨x.name.toArray⟩ ⟨x.module.toArray⟩ (decide (x.num<0)) (.slice am wn cm) x.yes (.slice ae x.kids.length ce) x.at_) 40))
 generalize w1.alloc (.cells (boxZ x.op ⟨x.name.toArray⟩ ⟨x.module.toArray⟩ (decide (x.num<0)) (.slice am wn cm) x.yes (.slice ae x.kids.length ce) x.at_) 40)=w2 at hX hE2 hb2 hz2 ⊢
 have HF2:=Lib.hid (HF.out w1.heap.size am wn cm ae ce w2 hE2 hz2)
 obtain ⟨y0,y1,y2,y3,y4,y5,y6,y7⟩:=boxZ_cells hX
 clear hE hE2 hbn hX hb1 HF HR
 go_wp2_with (first|(go_at_call 19;refine HF2.out.mono ?_;rintro r w3 ⟨rfl,hb3⟩)|(go_at_call 20;refine (HB4.out _).mono ?_;rintro r w4 ⟨rfl,hb4⟩))
 go_ret
 exact ⟨rfl,(hb2.trans (hb3.mono hb2.size)).trans (hb4.mono (hb2.trans (hb3.mono hb2.size)).size)⟩
def clausesB (base:Int)(ks:List PZ):Bool:=(decide (base=1) || decide (base=2)) && (decide (ks.length≤1) && rightsZ true ks)
def baseT (base:Int):List UInt8:=if base=2 then [98,111,111,108] else [105,110,116]
def clauseT:List PZ→List UInt8
 | []=>[]
 | e :: l=>[32,123]++e.text++[125]++clauseT l
def typedT (base:Int)(ks:List PZ):List UInt8:=baseT base++clauseT ks
theorem clauseT_append:∀ a b:List PZ,clauseT (a++b)=clauseT a++clauseT b
 | [],b=>rfl
 | e :: a,b=>by rw [List.cons_append,clauseT,clauseT,clauseT_append a b];simp
theorem clauseT_take {ks:List PZ}{k:Nat}(h:k<ks.length):clauseT (ks.take (k+1))=clauseT (ks.take k)++([32,123]++ks[k].text++[125]):=by
 rw [List.take_succ_eq_append_getElem h,clauseT_append]
 simp [clauseT]
theorem clauseT_le (ks:List PZ)(k:Nat):(clauseT (ks.take k)).length≤(clauseT ks).length:=by
 conv=>rhs;rw [← List.take_append_drop k ks,clauseT_append,List.length_append]
 omega
theorem KidsZ.below {B:Nat}{w W:World}{ae:Option Addr}{ks:List PZ}(h:KidsZ B w ae ks)(hW:Below w.heap.size w W):KidsZ B W ae ks:=fun h0=>by
 obtain ⟨b,off,q1,q2,q3,q4⟩:=h h0
 refine ⟨b,off,q1,q2,Nat.lt_of_lt_of_le q3 hW.size,fun i hi=>?_⟩
 obtain ⟨am',wn',cm',ak',ck',q5,q6⟩:=q4 i hi
 exact ⟨am',wn',cm',ak',ck',q5.frame (Alk.of hW),fun j u hu=>(hW.cell (p:=⟨b,off+i * 8+j,none⟩) q3).trans (q6 j u hu)⟩
theorem clausec_any (x:PZ)(hf:x.fit)(B:Nat)(w:World)(hB:B≤w.heap.size):AskZ 91 #[] (fun x=>!x.right true) B w x:=by
 intro W am wn cm ak ck hW hE
 have hs:=hW.size
 have hz:=(PZ.fit_def hf).2.2.2.1
 have hbx:=below_new W (.cells (boxZ x.op ⟨x.name.toArray⟩ ⟨x.module.toArray⟩ (decide (x.num<0)) (.slice am wn cm) x.yes (.slice ak x.kids.length ck) x.at_) 40)
 have HX:=Lib.hid (rightZ_any true _ x (Nat.lt_succ_self _) hf B am wn cm ak ck (W.alloc (.cells (boxZ x.op ⟨x.name.toArray⟩ ⟨x.module.toArray⟩ (decide (x.num<0)) (.slice am wn cm) x.yes (.slice ak x.kids.length ck) x.at_) 40)) (hE.frame (Alk.of hbx)) (by simp;omega) (by omega))
 have hN:=heap_alloc_new W (.cells (boxZ x.op ⟨x.name.toArray⟩ ⟨x.module.toArray⟩ (decide (x.num<0)) (.slice am wn cm) x.yes (.slice ak x.kids.length ck) x.at_) 40)
 show Calls _ _ #[_] _ fun r w'=>r=.returned (.bool (!x.right true))∧Below W.heap.size W w'
 generalize x.right true=rb at *
 clear hE hz hf
 go_enter Tryz.func91,Tryz.ntmps91
 go_upto_region 1 with fail
 change Code.wp _ _ _ _ (W.alloc (.cells (boxZ x.op ⟨x.name.toArray⟩ ⟨x.module.toArray⟩ (decide (x.num<0)) (.slice am wn cm) x.yes (.slice ak x.kids.length ck) x.at_) 40))
 generalize W.alloc _=w0 at hbx hN HX ⊢
 obtain ⟨y0,y1,y2,y3,y4,y5,y6,y7⟩:=boxZ_cells hN
 go_wp2_with (go_at_call 87;refine HX.out.mono ?_;rintro r w1 ⟨rfl,hb1⟩)
 go_ret
 exact ⟨rfl,hbx.trans (hb1.mono hbx.size)⟩
theorem clauses_any (base:Int)(B:Nat)(ae:Option Addr)(ce:Nat)(ks:List PZ)(w:World)(hk:KidsZ B w ae ks)(hB:B≤w.heap.size)(hn:ks.length≤1099511627776)(hf:∀ x∈ks,x.fit) :
  Calls Tryz.prog 51 #[.int .i64 base,.slice ae ks.length ce] w fun r w'=>r=.returned (.bool (clausesB base ks))∧Below w.heap.size w w':=by
 have HC:=Lib.hid (fun W (hW:Below w.heap.size w W)=>containsZ_any 91 #[] (fun x=>!x.right true) (enters_of Tryz.func91 (by kernel_rfl) rfl) B ae ce ks W (hk.below hW) (Nat.le_trans hB hW.size) hn fun x hx=>clausec_any x (hf x hx) B W (Nat.le_trans hB hW.size))
 have hdef:clausesB base ks=((decide (base=1) || decide (base=2)) && (decide (ks.length≤1) && !(ks.any fun x=>!x.right true))):=by rw [clausesB,rights_any]
 rw [hdef]
 clear hdef hk hf
 generalize (ks.any fun x=>!x.right true)=an at *
 generalize ks.length=n at *
 by_cases h1:n≤1
 ·have h1I:(n:Int)≤1:=by omega
  rw [decide_eq_true h1,Bool.true_and]
  clear h1
  by_cases hb1:base=1
  ·subst hb1
   rw [decide_eq_true rfl,Bool.true_or,Bool.true_and]
   go_enter Tryz.func51,Tryz.ntmps51
   go_wp2_with (go_at_call 90;refine (HC.out _ (Below.refl _ _)).mono ?_;rintro r w5 ⟨rfl,hb5⟩)
   go_ret
   exact ⟨rfl,hb5⟩
  ·have ht1:(base == 1)=false:=beq_eq_false_iff_ne.2 hb1
   by_cases hb2:base=2
   ·subst hb2
    rw [decide_eq_false (by decide),decide_eq_true rfl,Bool.false_or,Bool.true_and]
    clear hb1
    go_enter Tryz.func51,Tryz.ntmps51
    go_wp2_with (go_at_call 90;refine (HC.out _ (Below.refl _ _)).mono ?_;rintro r w5 ⟨rfl,hb5⟩)
    go_ret
    exact ⟨rfl,hb5⟩
   ·have ht2:(base == 2)=false:=beq_eq_false_iff_ne.2 hb2
    rw [decide_eq_false hb1,decide_eq_false hb2,Bool.false_or,Bool.false_and]
    clear hb1 hb2 HC
    go_enter Tryz.func51,Tryz.ntmps51
    go_wp2
    go_ret
    exact ⟨rfl,Below.refl _ _⟩
 ·have h1I:(1:Int)<(n:Int):=by omega
  rw [decide_eq_false h1,Bool.false_and,Bool.and_false]
  clear h1 HC
  by_cases hb1:base=1
  ·subst hb1
   go_enter Tryz.func51,Tryz.ntmps51
   go_wp2
   go_ret
   exact ⟨rfl,Below.refl _ _⟩
  ·have ht1:(base == 1)=false:=beq_eq_false_iff_ne.2 hb1
   by_cases hb2:base=2
   ·subst hb2
    clear hb1
    go_enter Tryz.func51,Tryz.ntmps51
    go_wp2
    go_ret
    exact ⟨rfl,Below.refl _ _⟩
   ·have ht2:(base == 2)=false:=beq_eq_false_iff_ne.2 hb2
    clear hb1 hb2
    go_enter Tryz.func51,Tryz.ntmps51
    go_wp2
    go_ret
    exact ⟨rfl,Below.refl _ _⟩
theorem base_index1 (w:World):(Instr.index 162 (.agg #[.string ⟨#[]⟩,.string ⟨#[105,110,116]⟩,.string ⟨#[98,111,111,108]⟩]) (.int .i64 1)).run Tryz.prog w=.ok (.string ⟨#[105,110,116]⟩) w:=by kernel_rfl
theorem base_index2 (w:World):(Instr.index 162 (.agg #[.string ⟨#[]⟩,.string ⟨#[105,110,116]⟩,.string ⟨#[98,111,111,108]⟩]) (.int .i64 2)).run Tryz.prog w=.ok (.string ⟨#[98,111,111,108]⟩) w:=by kernel_rfl
theorem base_index {base:Int}(h:base=1∨base=2):∀ w:World,(Instr.index 162 (.agg #[.string ⟨#[]⟩,.string ⟨#[105,110,116]⟩,.string ⟨#[98,111,111,108]⟩]) (.int .i64 base)).run Tryz.prog w=.ok (.string ⟨(baseT base).toArray⟩) w:=by
 rcases h with rfl|rfl
 ·exact base_index1
 ·exact base_index2
theorem typed_any (base:Int)(hbase:base=1∨base=2)(ks:List PZ)(B B' b:Nat)(ae:Option Addr)(ce:Nat)(acc:List UInt8)(w:World)(hk:∀ x∈ks,ShDoes x)(h:KidsZ B w ae ks)(hBB:B≤B')(hbd:Bld B' b acc w 116)(hB:B'≤w.heap.size)(hn:acc.length+(typedT base ks).length≤1099511627776)(hkl:ks.length≤1000000) :
  Calls Tryz.prog 52 #[.pointer (some ⟨b,0,none⟩),.int .i64 base,.slice ae ks.length ce] w (WrPost B' b (acc++typedT base ks) w):=by
 have HH:=Lib.hid h
 have HK:=Lib.hid hk
 have hix:=base_index hbase
 have hw1:=Lib.hid (word1_any ⟨(baseT base).toArray⟩ B' b acc w hbd hB (by rw [typedT,List.length_append] at hn;show acc.length+(baseT base).toArray.size≤_;simp only [List.size_toArray];omega))
 have hn2:(acc++baseT base).length+(clauseT ks).length≤1099511627776:=by rw [typedT,List.length_append] at hn;rw [List.length_append];omega
 have hfin:acc++typedT base ks=(acc++baseT base)++clauseT ks:=by rw [typedT,List.append_assoc]
 rw [hfin]
 clear hfin hn h hk hbase
 have hbs:(ByteArray.mk (baseT base).toArray).data.toList=baseT base:=rfl
 rw [hbs] at hw1
 clear hbs
 have HBD:=Lib.hid hbd
 clear hbd
 generalize ByteArray.mk (baseT base).toArray=BS at hix hw1
 generalize acc++baseT base=acc1 at *
 go_enter Tryz.func52,Tryz.ntmps52
 go_upto_region 1 with (go_at_call 56;refine hw1.out.mono ?_;rintro r w1 h1;obtain rfl:=h1.eq)
 have hs1:=(ShSt.start HBD.out).write h1
 have H1:=Lib.hid h1
 have HS1:=Lib.hid (ShSt.start hs1.bld)
 have hz1:=hs1.bel.size
 clear hs1 h1 hix hw1
 go_wp2
 go_loopw [16] (fun q wr=>∃ k:Nat,k≤ks.length∧q=.int .i64 k∧ShSt w1 B' b (acc1++clauseT (ks.take k)) wr) (fun q _=>ks.length - (intOf q).toNat)
 case atStart=>exact ⟨0,Nat.zero_le _,rfl,by simpa [clauseT] using HS1.out⟩
 case round =>
  obtain ⟨k,hkk,rfl,st⟩:=hrel
  have hz:=st.bel.size
  by_cases hlt:k<ks.length
  ·have hsn:=clauseT_take hlt
   have hle:=clauseT_le ks (k+1)
   rw [hsn] at hle
   have HD:=Lib.hid (HK.out _ (List.getElem_mem hlt))
   obtain ⟨kb,off,am1,wn1,cm1,ak1,ck1,rfl,hkB,hE,x0,x1,x2,x3,x4,x5,x6,x7⟩:=HH.out.at ((H1.out.2.2.1.trans st.bel).mono hBB) hlt
   have HSN:=Lib.hid hsn
   have HST:=Lib.hid st
   clear hsn st
   generalize clauseT (ks.take k)=c at hle HSN HST
   generalize ks[k]=x at *
   have hkI:(k:Int)<(ks.length:Int):=by omega
   simp only [List.length_append,List.length_cons,List.length_nil] at hle
   have hl1:(acc1++c).length+2≤1099511627776:=by rw [List.length_append];omega
   have hl2:(acc1++c++[32,123]).length+x.text.length+1≤1099511627776:=by simp only [List.length_append,List.length_cons,List.length_nil];omega
   have hal:=below_new wr (.cells (boxZ x.op ⟨x.name.toArray⟩ ⟨x.module.toArray⟩ (decide (x.num<0)) (.slice am1 wn1 cm1) x.yes (.slice ak1 x.kids.length ck1) x.at_) 40)
   have hN:=heap_alloc_new wr (.cells (boxZ x.op ⟨x.name.toArray⟩ ⟨x.module.toArray⟩ (decide (x.num<0)) (.slice am1 wn1 cm1) x.yes (.slice ak1 x.kids.length ck1) x.at_) 40)
   have s1:=HST.out.below hal (by omega)
   have hE1:=hE.frame (Alk.ofB (hal.mono (by omega:B'≤wr.heap.size)) (fun b hb=>by omega:∀ b,b<B→b<B'))
   clear hle hE
   go_upto_region 4 with fail
   change Code.wp _ _ _ _ (wr.alloc (.cells (boxZ x.op ⟨x.name.toArray⟩ ⟨x.module.toArray⟩ (decide (x.num<0)) (.slice am1 wn1 cm1) x.yes (.slice ak1 x.kids.length ck1) x.at_) 40))
   clear x0 x1 x2 x3 x4 x5 x6 x7
   generalize wr.alloc _=w2 at hal hN s1 hE1 ⊢
   have hz2:=hal.size
   go_upto_region 5 with (go_at_call 56;refine (word1_any ⟨#[32,123]⟩ B' b (acc1++c) w2 s1.bld (by omega) hl1).mono ?_;rintro r w3 h3;obtain rfl:=h3.eq)
   have s3:=s1.write h3
   have hz3:=s3.bel.size
   have hN3:=s1.bld.block h3.2.2.2 hN (by decide) (by decide)
   obtain ⟨y0,y1,y2,y3,y4,y5,y6,y7⟩:=boxZ_cells hN3
   have hlx:=h3.2.2.1.size
   have HX:=Lib.hid (HD.out B B' b am1 wn1 cm1 ak1 ck1 (acc1++c++[32,123]) w3 (hE1.frame (Alk.ofB h3.2.2.1 fun b hb=>by omega)) hBB s3.bld (by omega) (by omega))
   have HS3:=Lib.hid s3
   clear HST HD hal hN hN3 s1 hE1 s3 h3
   go_upto_region 6 with (go_at_call 88;refine HX.out.mono ?_;rintro r w4 h4;obtain rfl:=h4.eq)
   have s4:=HS3.out.write h4
   have hz4:=s4.bel.size
   have HS4:=Lib.hid s4
   have HW4:=Lib.hid (word1_any ⟨#[125]⟩ B' b (acc1++c++[32,123]++x.text) w4 s4.bld (by omega) (by rw [List.length_append];show _+1≤_;omega))
   clear HX HS3 s4 h4 y0 y1 y2 y3 y4 y5 y6 y7
   go_wp2_with (go_at_call 56;refine HW4.out.mono ?_;rintro r w5 h5;obtain rfl:=h5.eq)
   refine ⟨⟨k+1,by omega,by go_num,?_⟩,by simp [intOf];omega⟩
   have:=HS4.out.write h5
   rw [HSN.out]
   simpa [List.append_assoc] using this
  ·obtain rfl:k=ks.length:=by omega
   have hkI:decide ((ks.length:Int)<(ks.length:Int))=false:=decide_eq_false (by omega)
   rw [List.take_length] at st
   have HST:=Lib.hid st
   clear st
   go_wp2
   go_end0
   exact ⟨rfl,HST.out.bld,H1.out.2.2.1.trans HST.out.bel,H1.out.2.2.2.trans HST.out.kept⟩
def TypedPost (base:Int)(ks:List PZ)(w:World)(r:Ending)(w':World):Prop:=(r=.returned (.tuple #[.string ⟨(if clausesB base ks=true then typedT base ks else []).toArray⟩,.int .i64 (if clausesB base ks=true then 0 else 10)]))∧Below w.heap.size w w'
theorem baseT_ne (base:Int)(ks:List PZ):typedT base ks≠[]:=by
 unfold typedT baseT
 split <;> simp
theorem styped_any (base:Int)(ks:List PZ)(B:Nat)(ae:Option Addr)(ce:Nat)(w:World)(h:KidsZ B w ae ks)(hB:B≤w.heap.size)(hf:∀ x∈ks,x.fit)(hkl:ks.length≤1000000)(hn:(typedT base ks).length≤1099511627776) :
  Calls Tryz.prog 23 #[.int .i64 base,.slice ae ks.length ce] w (TypedPost base ks w):=by
 have HC:=Lib.hid (clauses_any base B ae ce ks w h hB (by omega) hf)
 unfold TypedPost
 cases hc:clausesB base ks with
 | false =>
  rw [hc] at HC
  simp only [Bool.false_eq_true,if_false]
  clear h hf hn hc
  go_enter Tryz.func23,Tryz.ntmps23
  go_wp2_with (go_at_call 51;refine HC.out.mono ?_;rintro r w1 ⟨rfl,hb1⟩)
  go_ret2
  exact ⟨rfl,hb1⟩
 | true =>
  rw [hc] at HC
  simp only [if_true]
  have hc':=hc
  unfold clausesB at hc'
  simp only [Bool.and_eq_true,Bool.or_eq_true,decide_eq_true_eq] at hc'
  have hne:=baseT_ne base ks
  have HT:=Lib.hid (fun (w2:World) (hW:Below w.heap.size w w2)=>typed_any base hc'.1 ks B w2.heap.size w2.heap.size ae ce [] (w2.alloc (.cells #[.pointer none,.slice none 0 0] 116)) (fun x hx=>exprZ_any _ x (Nat.lt_succ_self _) (rightsZ_all.1 hc'.2.2 x hx) (hf x hx)) ((h.below hW).below (below_new w2 _)) (Nat.le_trans hB hW.size) (Bld.fresh (T:=116) w2) (by simp) (by simpa using hn) hkl)
  clear h hf hn hc hc'
  generalize typedT base ks=out at *
  go_enter Tryz.func23,Tryz.ntmps23
  go_upto_region 3 with (go_at_call 51;refine HC.out.mono ?_;rintro r w2 ⟨rfl,hb2⟩)
  have HT2:=Lib.hid (HT.out w2 hb2)
  have hz2:=hb2.size
  have hb3:=hb2.alloc hz2 (.cells #[.pointer none,.slice none 0 0] 116)
  have hz3:w2.heap.size<(w2.alloc (.cells #[.pointer none,.slice none 0 0] 116)).heap.size:=by simp
  clear HC HT
  go_upto_region 4 with fail
  change Code.wp _ _ _ _ (w2.alloc (.cells #[.pointer none,.slice none 0 0] 116))
  generalize w2.alloc _=w3 at HT2 hb3 hz3 ⊢
  go_upto_region 5 with (go_at_call 52;refine HT2.out.mono ?_;rintro r w4 h4;obtain rfl:=h4.eq)
  have hbd4:=h4.2.1
  rw [List.nil_append] at hbd4
  have hbw4:=hb3.trans (h4.2.2.1.mono hz2)
  have hlt4:(⟨w2.heap.size,0,none⟩:Addr).block<w4.heap.size:=hbd4.lt
  have HS:=Lib.hid (bstringT w2.heap.size w2.heap.size out w4 hbd4 hne)
  clear hbd4 h4 HT2
  go_wp2_with (go_at_call 40;refine HS.out.mono ?_;rintro r w5 ⟨rfl,hb5⟩)
  go_ret2
  exact ⟨rfl,hbw4.trans (hb5.mono hz2)⟩
def TermsAt (B:Nat)(w:World)(ao:Option Addr)(ts:List (List CellZ)):Prop:=0<ts.length→∃ b off,ao=some ⟨b,off,none⟩∧b<B∧b<w.heap.size∧∀ i,(hi:i<ts.length)→∃ a c,w.cell? ⟨b,off+i,none⟩=some (.slice a ts[i].length c)∧TermAt B w a ts[i]
theorem TermAt.below {B:Nat}{w W:World}{ao:Option Addr}{t:List CellZ}(h:TermAt B w ao t)(hW:Below w.heap.size w W):TermAt B W ao t:=fun h0=>by
 obtain ⟨b,off,h1,h2,h3,h4⟩:=h h0
 exact ⟨b,off,h1,h2,Nat.lt_of_lt_of_le h3 hW.size,fun i hi j u hu=>(hW.cell (p:=⟨b,off+i * 6+j,none⟩) h3).trans (h4 i hi j u hu)⟩
theorem kidsZ_row {B:Nat}{w:World}{kv:Value}{zs:List PZ}(h:RowK (ZK YA) (fun b=>b<B) w kv zs):∃ ao cap,kv=.slice ao zs.length cap∧KidsZ B w ao zs:=by
 obtain ⟨ao,cap,hv,_,hf⟩:=h.form
 refine ⟨ao,cap,hv,fun h0=>?_⟩
 obtain ⟨b,off,h1,h2,h3,h4⟩:=hf h0
 refine ⟨b,off,h1,h2,h3,fun i hi=>?_⟩
 obtain ⟨x,h5,h6⟩:=h4 i hi
 have h5':ZAt YA (fun b=>b<B) w x.1 x.2 zs[i]:=h5
 obtain ⟨am,wn,cm,ak,ck,e1,e2⟩:=h5'.slX
 refine ⟨am,wn,cm,ak,ck,by rw [← e1,← e2];exact h5',fun j u hu=>h6 j u ?_⟩
 show (YA.cells zs[i] x.1 x.2)[j]?=some u
 rw [e1,e2]
 exact hu
theorem typedT_snoc (base:Int)(xs:List PZ)(e:PZ):typedT base (xs++[e])=typedT base xs++([32,123]++e.text++[125]):=by
 rw [typedT,typedT,clauseT_append];simp [clauseT]
theorem clauseT_small:∀ {xs:List PZ},(∀ x∈xs,x.text.length≤9000000)→(clauseT xs).length≤xs.length * 9000003
 | [],_=>by simp [clauseT]
 | x :: xs,h=>by
  have h1:=h x (by simp)
  have h2:=clauseT_small (xs:=xs) fun y hy=>h y (List.mem_cons_of_mem _ hy)
  simp only [clauseT,List.length_append,List.length_cons,List.length_nil]
  omega
theorem typedT_small (base:Int){xs:List PZ}(h:∀ x∈xs,x.text.length≤9000000)(hl:xs.length≤3):(typedT base xs).length≤30000000:=by
 have h1:=clauseT_small h
 have h2:(baseT base).length≤4:=by unfold baseT;split <;> decide
 have h3:xs.length * 9000003≤3 * 9000003:=Nat.mul_le_mul_right _ hl
 rw [typedT,List.length_append]
 omega
theorem rights_snoc (fm:Bool)(xs:List PZ)(e:PZ):rightsZ fm (xs++[e])=(rightsZ fm xs && e.right fm):=by
 rw [rights_any,rights_any,List.any_append]
 simp only [List.any_cons,List.any_nil,Bool.or_false]
 cases xs.any (fun x=>!x.right fm) <;> cases e.right fm <;> rfl
structure LawSt (w1:World) (base:Int) (ok0:Bool) (xs:List PZ) (kv:Value) (okv:Bool) (S:ByteArray) (W:World):Prop where
 own:OwnQ (ZK YA) (fun _=>True) w1.heap.size 40 W kv xs
 ok:okv=(ok0 && rightsZ true xs)
 want:okv=true→S=⟨(typedT base xs).toArray⟩
 fit:∀ x∈xs,x.fit∧x.text.length≤9000000
 bel:Below w1.heap.size w1 W
theorem showTyped_any (base:Int)(B:Nat)(ao:Option Addr)(ct:Nat)(ts:List (List CellZ))(w:World)(h:TermsAt B w ao ts)(hB:B≤w.heap.size) :
  Calls Tryz.prog 5 #[.int .i64 base,.slice ao ts.length ct] w fun r w'=>r=.returned (.bool true)∧Below w.heap.size w w':=by
 obtain ⟨ia,hia,ha0,ha1,ha2⟩:=info_parts Tryz.infoAE
 have HT:=Lib.hid h
 clear h
 by_cases h3:3<ts.length
 ·have h3I:(3:Int)<(ts.length:Int):=by omega
  clear HT h3
  go_enter Tryz.func5,Tryz.ntmps5
  go_wp2_with (go_at_call 17;refine (anchor9_any _).mono ?_;rintro r w1 ⟨rfl,hb1⟩)
  go_ret
  exact ⟨rfl,hb1⟩
 have h3I:(ts.length:Int)≤3:=by omega
 obtain ⟨ok0,hok0⟩:∃ b:Bool,b=((decide (base=1) || decide (base=2)) && decide (ts.length≤1)):=⟨_,rfl⟩
 have HOK:=Lib.hid hok0
 have hrest:∀ w1:World,Below w.heap.size w w1→∀ xs:List PZ,xs.length=ts.length→(∀ x∈xs,x.fit∧x.text.length≤9000000)→clausesB base xs=(ok0 && rightsZ true xs):=fun w1 _ xs hl _=>by
  rw [clausesB,hok0,hl,Bool.and_assoc]
 have HREST:=Lib.hid hrest
 clear hrest hok0
 go_enter Tryz.func5,Tryz.ntmps5
 go_upto_region 6 with (go_at_call 17;refine (anchor9_any _).mono ?_;rintro r w1 ⟨rfl,hb1⟩)
 have hz1:=hb1.size
 go_cut [6] (fun v wc=>v=.bool ok0∧wc=w1)
 case first =>
  have HO:=HOK
  by_cases h1:ts.length≤1
  ·have h1I:(ts.length:Int)≤1:=by omega
   by_cases hb:base=1
   ·subst hb
    have HO2:Hid (ok0=true):=Lib.hid (by rw [HO.out,decide_eq_true h1];rfl)
    clear HO HOK HREST h1
    go_wp2
    go_meet
    exact ⟨(by first|(rw [HO2.out];done)|(rw [HO2.out];rfl)|(rw [HO2.out,decide_eq_false (by omega)])),rfl⟩
   ·have ht1:(base == 1)=false:=beq_eq_false_iff_ne.2 hb
    by_cases hb2:base=2
    ·subst hb2
     have HO2:Hid (ok0=true):=Lib.hid (by rw [HO.out,decide_eq_true h1];rfl)
     clear HO HOK HREST h1 hb
     go_wp2
     go_meet
     exact ⟨(by first|(rw [HO2.out];done)|(rw [HO2.out];rfl)|(rw [HO2.out,decide_eq_false (by omega)])),rfl⟩
    ·have ht2:(base == 2)=false:=beq_eq_false_iff_ne.2 hb2
     have HO2:Hid (ok0=false):=Lib.hid (by rw [HO.out,decide_eq_false hb,decide_eq_false hb2];rfl)
     clear HO HOK HREST h1 hb hb2
     go_wp2
     go_meet
     exact ⟨(by first|(rw [HO2.out];done)|(rw [HO2.out];rfl)|(rw [HO2.out,decide_eq_false (by omega)])),rfl⟩
  ·have h1I:(1:Int)<(ts.length:Int):=by omega
   have HO2:Hid (ok0=false):=Lib.hid (by rw [HO.out,decide_eq_false h1,Bool.and_false])
   by_cases hb:base=1
   ·subst hb
    clear HO HOK HREST h1
    go_wp2
    go_meet
    exact ⟨(by first|(rw [HO2.out];done)|(rw [HO2.out];rfl)|(rw [HO2.out,decide_eq_false (by omega)])),rfl⟩
   ·have ht1:(base == 1)=false:=beq_eq_false_iff_ne.2 hb
    by_cases hb2:base=2
    ·subst hb2
     clear HO HOK HREST h1 hb
     go_wp2
     go_meet
     exact ⟨(by first|(rw [HO2.out];done)|(rw [HO2.out];rfl)|(rw [HO2.out,decide_eq_false (by omega)])),rfl⟩
    ·have ht2:(base == 2)=false:=beq_eq_false_iff_ne.2 hb2
     clear HO HOK HREST h1 hb hb2
     go_wp2
     go_meet
     exact ⟨(by first|(rw [HO2.out];done)|(rw [HO2.out];rfl)|(rw [HO2.out,decide_eq_false (by omega)])),rfl⟩
 obtain ⟨rfl,rfl⟩:=hcut
 clear HOK
 have hst0:LawSt wc base ok0 [] (.slice none 0 0) ok0 ⟨(baseT base).toArray⟩ wc:=⟨OwnQ.nil _ _ _ _ _,by rw [rightsZ,Bool.and_true],fun _=>by simp [typedT,clauseT],(fun x hx=>by cases hx),Below.refl _ _⟩
 have HST0:=Lib.hid hst0
 clear hst0
 go_upto_region 8 with fail
 go_upto_if 32 with fail
 generalize ht:(base == 2)=tt
 go_cut [7] (fun v wc'=>v=.string ⟨(baseT base).toArray⟩∧wc'=wc)
 case first =>
  by_cases hb2:base=2
  ·rw [beq_iff_eq.2 hb2] at ht
   obtain rfl:tt=true:=ht.symm
   have hS:Hid (baseT base=[98,111,111,108]):=Lib.hid (by rw [baseT,if_pos hb2])
   clear ht hb2 HREST HST0
   go_wp2
   go_meet
   exact ⟨by rw [hS.out],rfl⟩
  ·rw [beq_eq_false_iff_ne.2 hb2] at ht
   obtain rfl:tt=false:=ht.symm
   have hS:Hid (baseT base=[105,110,116]):=Lib.hid (by rw [baseT,if_neg hb2])
   clear ht hb2 HREST HST0
   go_wp2
   go_meet
   exact ⟨by rw [hS.out],rfl⟩
 clear ht
 obtain ⟨rfl,rfl⟩:=hcut
 have hBw:=Nat.le_trans hB hz1
 have hTw:TermsAt B wc ao ts:=fun h0=>by
  obtain ⟨b,off,q1,q2,q3,q4⟩:=HT.out h0
  refine ⟨b,off,q1,q2,Nat.lt_of_lt_of_le q3 hz1,fun i hi=>?_⟩
  obtain ⟨a,c,q5,q6⟩:=q4 i hi
  exact ⟨a,c,(hb1.cell (p:=⟨b,off+i,none⟩) q3).trans q5,q6.below hb1⟩
 have HTW:=Lib.hid hTw
 clear hTw HT
 obtain ⟨S0,hS0⟩:∃ S:ByteArray,S=⟨(baseT base).toArray⟩:=⟨_,rfl⟩
 rw [← hS0] at HST0 ⊢
 clear hS0
 go_wp2
 go_loopw [5,6,7,35] (fun kv okv sv q wr=>∃ (k:Nat) (xs:List PZ) (al:Option Addr) (cl:Nat) (o:Bool) (S:ByteArray),k≤ts.length∧q=.int .i64 k∧kv=.slice al k cl∧okv=.bool o∧sv=.string S∧xs.length=k∧LawSt wc base ok0 xs (.slice al k cl) o S wr) (fun _ _ _ q _=>ts.length - (intOf q).toNat)
 case atStart=>exact ⟨0,[],none,0,ok0,S0,Nat.zero_le _,rfl,rfl,rfl,rfl,rfl,HST0.out⟩
 case round =>
  obtain ⟨k,xs,al,cl,o,S,hkl,rfl,rfl,rfl,rfl,hxl,st⟩:=hrel
  have hbl:=st.bel
  have hzr:=hbl.size
  have HS:=Lib.hid st
  clear st HST0
  by_cases hlt:k<ts.length
  ·obtain ⟨tb,off,rfl,htB,htw,htc⟩:=HTW.out (by omega)
   obtain ⟨ta,tc,hc0,htm⟩:=htc k hlt
   have hx0:=(hbl.cell (p:=⟨tb,off+k,none⟩) htw).trans hc0
   have hkI:(k:Int)<(ts.length:Int):=by omega
   have hb:=both_any B ta tc ts[k] wr (htm.below hbl) (by omega)
   unfold BothPost at hb
   have hk3:k≤2:=by omega
   have hxl3:xs.length≤2:=by omega
   clear htc htm hc0
   generalize ts[k]=t at *
   have hbw:Below w.heap.size w wr:=hb1.trans (hbl.mono hz1)
   cases he:bothF t with
   | none =>
    rw [he] at hb
    have HB:=Lib.hid hb
    clear hb he HS HREST HTW htw htB
    go_wp2_with (go_at_call 18;refine HB.out.mono ?_;rintro r w2 ⟨hb2,rfl⟩)
    go_ret
    exact ⟨rfl,((hbw.trans (hb2.mono hbw.size)).alloc (by have:=hbw.size;have:=hb2.size;omega) _).alloc (by have:=hbw.size;have:=hb2.size;simp;omega) _⟩
   | some e =>
    rw [he] at hb
    have HB:=Lib.hid hb
    have hf:=bothF_fit he
    have ht:=bothF_text he
    clear hb he HTW htw htB
    go_upto_region 14 with (go_at_call 18;refine HB.out.mono ?_;rintro r w2 ⟨hb2,am,wn,cm,ae,ce,m,ak,ck,rfl,hZ,hY⟩)
    have hba:=(below_new w2 (.cells (boxZ e.op ⟨e.name.toArray⟩ ⟨e.module.toArray⟩ (decide (e.num<0)) (.slice am wn cm) e.yes (.slice ae e.kids.length ce) e.at_) 40)).alloc (by simp) (.cells (boxY e.op ⟨e.name.toArray⟩ ⟨e.module.toArray⟩ ⟨(intF e.num).toArray⟩ e.yes (.slice ak e.kids.length ck) e.at_) 55)
    have hX:=(Lib.alloc_old (w2.alloc (.cells (boxZ e.op ⟨e.name.toArray⟩ ⟨e.module.toArray⟩ (decide (e.num<0)) (.slice am wn cm) e.yes (.slice ae e.kids.length ce) e.at_) 40)) (.cells (boxY e.op ⟨e.name.toArray⟩ ⟨e.module.toArray⟩ ⟨(intF e.num).toArray⟩ e.yes (.slice ak e.kids.length ck) e.at_) 55) w2.heap.size (by simp)).trans (heap_alloc_new w2 (.cells (boxZ e.op ⟨e.name.toArray⟩ ⟨e.module.toArray⟩ (decide (e.num<0)) (.slice am wn cm) e.yes (.slice ae e.kids.length ce) e.at_) 40))
    have hYb:=heap_alloc_new (w2.alloc (.cells (boxZ e.op ⟨e.name.toArray⟩ ⟨e.module.toArray⟩ (decide (e.num<0)) (.slice am wn cm) e.yes (.slice ae e.kids.length ce) e.at_) 40)) (.cells (boxY e.op ⟨e.name.toArray⟩ ⟨e.module.toArray⟩ ⟨(intF e.num).toArray⟩ e.yes (.slice ak e.kids.length ck) e.at_) 55)
    rw [World.size_alloc] at hYb
    have hZ3:=hZ.frame (Alk.of hba)
    have hY3:=hY.frame (Alk.of hba)
    have hbr3:=hb2.trans (hba.mono hb2.size)
    have hz3:=hba.size
    have hz2:=hb2.size
    change Code.wp _ _ _ _ ((w2.alloc (.cells (boxZ e.op ⟨e.name.toArray⟩ ⟨e.module.toArray⟩ (decide (e.num<0)) (.slice am wn cm) e.yes (.slice ae e.kids.length ce) e.at_) 40)).alloc (.cells (boxY e.op ⟨e.name.toArray⟩ ⟨e.module.toArray⟩ ⟨(intF e.num).toArray⟩ e.yes (.slice ak e.kids.length ck) e.at_) 55))
    generalize ((w2.alloc (.cells (boxZ e.op ⟨e.name.toArray⟩ ⟨e.module.toArray⟩ (decide (e.num<0)) (.slice am wn cm) e.yes (.slice ae e.kids.length ce) e.at_) 40)).alloc (.cells (boxY e.op ⟨e.name.toArray⟩ ⟨e.module.toArray⟩ ⟨(intF e.num).toArray⟩ e.yes (.slice ak e.kids.length ck) e.at_) 55))=w3 at hba hX hYb hZ3 hY3 hbr3 hz3 ⊢
    clear hba hZ hY HB hx0
    have hzr3:=hbr3.size
    obtain ⟨x0,x1,x2,x3,x4,x5,x6,x7⟩:=boxZ_cells hX
    have HX:=Lib.hid hX
    have HYb:=Lib.hid hYb
    have HZ3:=Lib.hid hZ3
    have HY3:=Lib.hid hY3
    obtain ⟨lrow,h1,hown,hes⟩:=HS.out.own.below hbr3
    rw [hxl] at hown
    have hownlt:=fun b (q:(Value.slice al k cl).ownBlock=some b)=>(hown.lt b q)
    have hownr:∀ b,(Value.slice al k cl).ownBlock=some b→b<wr.heap.size:=by
     obtain ⟨_,_,ho,_⟩:=HS.out.own
     exact fun b q=>(ho.lt b q).2
    have HES:=Lib.hid hes
    have H1:=Lib.hid h1
    have hlX:=(Array.getElem?_eq_some_iff.1 hX).1
    have hlY:=(Array.getElem?_eq_some_iff.1 hYb).1
    clear hX hYb hZ3 hY3 hes h1
    go_upto_region 16 with fail
    go_wp2_with (at_builtin;refine wpList_append_lies _ rfl _ _ 38 rfl wc.heap.size 40 ia _ 8 112 Tryz.underlying38 hia ha0 ha1 ha2 rfl (by decide) _ k _ rfl (hown.alloc _) ⟨w3.heap.size,0,none⟩ 1 1 [.int .i64 e.op,.string ⟨e.name.toArray⟩,.string ⟨e.module.toArray⟩,.bool (decide (e.num<0)),.slice am wn cm,.bool e.yes,.slice ae e.kids.length ce,.int .i64 e.at_] rfl rfl ?u1 ?u2 ?u3 ?u4 ?u5 ?u6 (w3.heap.size+1) (by simp) ?_)
    case u2=>simp [Value.oneCell']
    case u4=>unfold maxLen;omega
    case u5=>omega
    case u6=>omega
    intro gg cap5 w5 hown5 hgrow5 hat5 hlt5
    have hb4:Below w3.heap.size w3 (w3.alloc (.cells #[.int .i64 e.op,.string ⟨e.name.toArray⟩,.string ⟨e.module.toArray⟩,.bool (decide (e.num<0)),.slice am wn cm,.bool e.yes,.slice ae e.kids.length ce,.int .i64 e.at_] 40)):=below_new w3 _
    have hb5:Below wc.heap.size wc w5:=((hbl.trans (hbr3.mono hzr)).trans (hb4.mono (by omega))).grown hgrow5 (by simp;omega) (fun b q=>(hownlt b q).1)
    have hneY:some (w2.heap.size+1)≠(Value.slice al k cl).ownBlock:=fun q=>by have:=hownr _ q.symm;omega
    have hY5:=(hgrow5.block (w2.heap.size+1) (by simp;omega) hneY).trans ((Lib.alloc_old w3 _ (w2.heap.size+1) hlY).trans HYb.out)
    have hnext:OwnQ (ZK YA) (fun _=>True) wc.heap.size 40 w5 (.slice (some ⟨gg,0,none⟩) (k+1) cap5) (xs++[e]):=OwnQ.snoc (K:=ZK YA) (w:=w3.alloc (.cells #[.int .i64 e.op,.string ⟨e.name.toArray⟩,.string ⟨e.module.toArray⟩,.bool (decide (e.num<0)),.slice am wn cm,.bool e.yes,.slice ae e.kids.length ce,.int .i64 e.at_] 40)) (kv:=.slice al k cl) (a:=e) (x:=(.slice am wn cm,.slice ae e.kids.length ce)) (H:=w3.heap.size+1) (g:=gg) H1.out (fun p hp=>(ZK YA).frame (HES.out p hp) (Alk.of hb4)) ((ZK YA).frame ((ZK YA).imp (show (ZK YA).inn _ w3 _ (_,_) from HZ3.out) (fun b hb _=>⟨trivial,fun q=>by have:=hownr _ q.symm;omega⟩)) (Alk.of hb4)) (by rw [hxl];exact hown5) hgrow5 rfl hat5 (by simp)
    have hYa:Alk (fun b=>wr.heap.size≤b) w3 w5:=(Alk.of hb4).trans (Alk.grown hgrow5 fun b hb q=>by have:=hownr _ q.symm;omega)
    have hY5':ZAt YR (fun b=>b<w5.heap.size) w5 m (.slice ak e.kids.length ck) e:=(HY3.out.frame hYa).imp fun b _ hl=>hl
    obtain ⟨z0,z1,z2,z3,z4,z5,z6⟩:=boxY_cells hY5
    have HR:=Lib.hid (rrightZ_any true _ e (Nat.lt_succ_self _) hf w5.heap.size m ak ck w5 hY5' (Nat.le_refl _))
    have HTx:Hid (e.right true=true→∀ W,Below w5.heap.size w5 W→Calls Tryz.prog 22 #[.agg #[.int .i64 e.op,.string ⟨e.name.toArray⟩,.string ⟨e.module.toArray⟩,.string ⟨(intF e.num).toArray⟩,.bool e.yes,.slice ak e.kids.length ck,.int .i64 e.at_]] W (StrPost e.text W)):=Lib.hid fun hr W hW=>rtextZ_any _ e (Nat.lt_succ_self _) hr hf w5.heap.size m ak ck W (hY5'.frame (Alk.of hW)) hW.size (by omega)
    have HY5:=Lib.hid hY5
    have hl5:=(Array.getElem?_eq_some_iff.1 hY5).1
    have HNX:=Lib.hid hnext
    have HB5:=Lib.hid hb5
    have hfits:∀ x∈xs++[e],x.fit∧x.text.length≤9000000:=fun x hx=>by
     rcases List.mem_append.1 hx with hx|hx
     ·exact HS.out.fit x hx
     ·rw [List.mem_singleton] at hx;subst hx;exact ⟨hf,ht⟩
    have HFT:=Lib.hid hfits
    have hok:=HS.out.ok
    have hrs:=rights_snoc true xs e
    have HOKK:=Lib.hid hok
    have HRS:=Lib.hid hrs
    have hxe:(xs++[e]).length=k+1:=by rw [List.length_append,List.length_singleton,hxl]
    have HXE:=Lib.hid hxe
    have hkI2:k+1≤ts.length:=hlt
    clear hnext hYa hY5' hY5 hb5 hown5 hgrow5 hat5 hlt5 hb4 hneY hownlt hownr hown x0 x1 x2 x3 x4 x5 x6 x7 hfits hok hrs hxe hxl hxl3 HES H1 HZ3 HY3 HX HYb
    unfold StrPost at HTx
    cases o with
    | false =>
     have hfin:Hid (LawSt wc base ok0 (xs++[e]) (.slice (some ⟨gg,0,none⟩) (k+1) cap5) false S w5):=Lib.hid ⟨HNX.out,by rw [HRS.out,← Bool.and_assoc,← HOKK.out,Bool.false_and],(fun q=>by cases q),HFT.out,HB5.out⟩
     clear HR HTx HY5 HS HNX HB5 HFT HOKK HRS HREST z0 z1 z2 z3 z4 z5 z6
     go_wp2
     go_roundw
     case rel=>exact ⟨k+1,xs++[e],some ⟨gg,0,none⟩,cap5,false,S,hkI2,by go_num,rfl,rfl,rfl,HXE.out,hfin.out⟩
     case measure=>simp [intOf];omega
    | true =>
     cases hr:e.right true with
     | false =>
      rw [hr] at HR
      have hfin:Hid (∀ W,Below w5.heap.size w5 W→LawSt wc base ok0 (xs++[e]) (.slice (some ⟨gg,0,none⟩) (k+1) cap5) false S W):=Lib.hid fun W hW=>⟨HNX.out.below hW,by rw [HRS.out,hr,Bool.and_false,Bool.and_false],(fun q=>by cases q),HFT.out,HB5.out.trans (hW.mono HB5.out.size)⟩
      clear HTx HY5 HS HNX HB5 HFT HOKK HRS HREST hr
      go_wp2_with (go_at_call 21;refine HR.out.mono ?_;rintro r w6 ⟨rfl,hb6⟩)
      go_roundw
      case rel=>exact ⟨k+1,xs++[e],some ⟨gg,0,none⟩,cap5,false,S,hkI2,by go_num,rfl,rfl,rfl,HXE.out,hfin.out _ hb6⟩
      case measure=>simp [intOf];omega
     | true =>
      rw [hr] at HR
      have HT2:=Lib.hid (HTx.out hr)
      have hSw:=HS.out.want rfl
      have hSs:S.size≤30000000:=by
       rw [hSw]
       have:=typedT_small base (xs:=xs) (fun x hx=>(HS.out.fit x hx).2) (by have:=HXE.out;rw [List.length_append] at this;simp at this;omega)
       rw [← size_list]
       exact this
      obtain ⟨T,eT0,eT⟩:=bytes_of e.text
      have hTs:T.size≤9000000:=by rw [← size_list,eT0];exact ht
      have hST:Hid (S++(⟨#[32,123]⟩++T++⟨#[125]⟩)=⟨(typedT base (xs++[e])).toArray⟩):=Lib.hid (bytes_ext (by rw [hSw,append_list,append_list,append_list,eT0,typedT_snoc]))
      have hfin:Hid (∀ W,Below w5.heap.size w5 W→LawSt wc base ok0 (xs++[e]) (.slice (some ⟨gg,0,none⟩) (k+1) cap5) true (S++(⟨#[32,123]⟩++T++⟨#[125]⟩)) W):=Lib.hid fun W hW=>⟨HNX.out.below hW,by rw [HRS.out,hr,Bool.and_true,← HOKK.out],(fun _=>hST.out),HFT.out,HB5.out.trans (hW.mono HB5.out.size)⟩
      simp only [eT] at HT2
      have hk1:¬ (9223372036854775807<2+T.size):=by omega
      have hk2:¬ (9223372036854775807<2+T.size+1):=by omega
      have hk3:¬ (9223372036854775807<S.size+(2+T.size+1)):=by omega
      clear HTx HS HNX HB5 HFT HOKK HRS HREST hr hSw hST eT eT0
      go_upto_region 19 with (go_at_call 21;refine HR.out.mono ?_;rintro r w6 ⟨rfl,hb6⟩)
      clear z0 z1 z2 z3 z4 z5 z6
      obtain ⟨z0,z1,z2,z3,z4,z5,z6⟩:=boxY_cells ((hb6.block _ hl5).trans HY5.out)
      go_wp2_with (go_at_call 22;refine (HT2.out _ hb6).mono ?_;rintro r w7 ⟨rfl,hb7⟩)
      go_roundw
      case rel=>exact ⟨k+1,xs++[e],some ⟨gg,0,none⟩,cap5,true,_,hkI2,by go_num,rfl,rfl,rfl,HXE.out,hfin.out _ (hb6.trans (hb7.mono hb6.size))⟩
      case measure=>simp [intOf];omega
  ·obtain rfl:k=ts.length:=by omega
   have hkI:decide ((ts.length:Int)<(ts.length:Int))=false:=decide_eq_false (by omega)
   have hcl:=HREST.out wr (hb1.trans (hbl.mono hz1)) xs hxl HS.out.fit
   rw [← HS.out.ok] at hcl
   have hxs3:xs.length≤3:=by omega
   have htl:=typedT_small base (xs:=xs) (fun x hx=>(HS.out.fit x hx).2) hxs3
   obtain ⟨al',cl',hv,hkz⟩:=kidsZ_row (B:=wr.heap.size) ((HS.out.own.row (R:=fun _=>True) (fun _ _=>trivial) (fun _ _ _=>trivial)).imp (fun _ _ hl=>hl))
   simp only [Value.slice.injEq] at hv
   obtain ⟨rfl,-,rfl⟩:=hv
   have HTy:=styped_any base xs wr.heap.size al cl wr hkz (Nat.le_refl _) (fun x hx=>(HS.out.fit x hx).1) (by omega) (by omega)
   unfold TypedPost at HTy
   rw [hcl,hxl] at HTy
   have hwant:=HS.out.want
   have hbw:Below w.heap.size w wr:=hb1.trans (hbl.mono hz1)
   clear HREST HS hcl hkz HTW htl
   cases o with
   | false =>
    simp only [Bool.false_eq_true,if_false] at HTy
    have HT2:=Lib.hid HTy
    clear HTy hwant
    go_wp2_with (go_at_call 23;refine HT2.out.mono ?_;rintro r w7 ⟨rfl,hb7⟩)
    go_ret
    exact ⟨rfl,hbw.trans (hb7.mono hbw.size)⟩
   | true =>
    simp only [if_true] at HTy
    obtain rfl:=hwant rfl
    generalize ByteArray.mk (typedT base xs).toArray=S at *
    have HT2:=Lib.hid HTy
    clear HTy hwant
    go_wp2_with (go_at_call 23;refine HT2.out.mono ?_;rintro r w7 ⟨rfl,hb7⟩)
    go_ret
    exact ⟨rfl,hbw.trans (hb7.mono hbw.size)⟩
end Go.Proofs.YtdednahplodojaaGreatDoor

namespace Go.Proofs.YtdednahplodojaaGreatDoor
open Go.RowKit Go
end Go.Proofs.YtdednahplodojaaGreatDoor
