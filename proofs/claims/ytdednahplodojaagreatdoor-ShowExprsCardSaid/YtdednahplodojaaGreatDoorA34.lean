/- Walks and plain laws: TextLen, NineA, ShowLawW, Open, ShowArgs, Law. -/
import Derived.Test.YtdednahplodojaaGreatDoorA32
import Derived.Test.YtdednahplodojaaGreatDoorA33
import Derived.Deep.Slices
import Derived.Deep.Fields
import Derived.ChangeSame
import Derived.Test.YtdednahplodojaaGreatDoorRows
import Derived.ProofKit
import Derived.OpenShut
import Derived.OpenVars
set_option maxHeartbeats 16000000
set_option maxRecDepth 100000
set_option linter.unusedVariables false
set_option linter.unusedSimpArgs false
namespace Go.Proofs.YtdednahplodojaaGreatDoor
theorem signZ_len (op:Int):(signZ op).length≤2:=by
 unfold signZ
 generalize op.toNat - 7=i
 have h:∀ x∈([[43],[45],[42],[47],[37],[61],[60,62],[60],[60,61],[62],[62,61],[38,38],[124,124],[61,62]]:List (List UInt8)),x.length≤2:=by decide
 rw [List.getD_eq_getElem?_getD]
 cases hx:([[43],[45],[42],[47],[37],[61],[60,62],[60],[60,61],[62],[62,61],[38,38],[124,124],[61,62]]:List (List UInt8))[i]? with
 | none=>simp
 | some x=>exact h x (List.mem_of_getElem? hx)
theorem parZ_len (l:Int)(k:Int × List UInt8):(parZ l k).length≤k.2.length+2:=by
 unfold parZ
 split
 ·simp only [List.length_append,List.length_cons,List.length_nil];omega
 ·omega
def sumT:List (Int × List UInt8)→Nat
 | []=>0
 | k :: l=>k.2.length+sumT l
theorem sumT_three:∀ ks:List (Int × List UInt8),(ks.getD 0 (0,[])).2.length+(ks.getD 1 (0,[])).2.length+(ks.getD 2 (0,[])).2.length≤sumT ks
 | []=>by simp [sumT]
 | [a]=>by simp [sumT]
 | [a,b]=>by simp [sumT]
 | a :: b :: c :: l=>by simp [sumT];omega
theorem commaZ_len:∀ ks:List (Int × List UInt8),(commaZ (ks.map Prod.snd)).length≤sumT ks+2 * ks.length
 | []=>by simp [commaZ,sumT]
 | [a]=>by simp [commaZ,sumT]
 | a :: b :: l=>by
  have h:=commaZ_len (b :: l)
  simp only [List.map_cons,commaZ,List.length_append,List.length_cons,List.length_nil,sumT] at h ⊢
  omega
theorem showF_len (op:Int)(nm md:List UInt8)(num:Int)(yes:Bool)(ks:List (Int × List UInt8))(h1:nm.length≤65536)(h2:md.length≤65536)(h3:(intF num).length≤61)(h4:ks.length≤65536):(showF op nm md num yes ks).length≤sumT ks+300000:=by
 have h5:=sumT_three ks
 have h6:=commaZ_len ks
 have h7:=signZ_len op
 have p1:=parZ_len 9 (ks.getD 0 (0,[]))
 have p2:=parZ_len 4 (ks.getD 0 (0,[]))
 have p3:=parZ_len (firstZ op) (ks.getD 0 (0,[]))
 have p4:=parZ_len (thenZ op) (ks.getD 1 (0,[]))
 have hm:(if md=[] then [] else md++[46]).length≤65537:=by
  split
  ·simp
  ·simp only [List.length_append,List.length_cons,List.length_nil];omega
 unfold showF
 generalize (if md=[] then [] else md++[46])=mm at hm ⊢
 repeat' split
 all_goals ((try simp only [List.length_append,List.length_cons,List.length_nil]);omega)
theorem decF_len:∀ (k n:Nat),n<10 ^ (k+1)→(decF n).length≤k+1
 | 0,n,h=>by
  rw [decF,dif_pos (by omega)]
  simp
 | k+1,n,h=>by
  rw [decF]
  split
  ·simp
  ·rw [List.length_append,List.length_singleton]
   have:=decF_len k (n / 10) (by rw [Nat.pow_succ] at h;omega)
   omega
theorem intF_len {n:Int}(h:n.natAbs<10 ^ 60):(intF n).length≤61:=by
 unfold intF
 rw [List.length_append]
 have:=decF_len 59 n.natAbs h
 split
 ·simp only [List.length_cons,List.length_nil];omega
 ·simp only [List.length_nil];omega
mutual
theorem PZ.text_small:∀ e:PZ,e.fit→e.text.length≤300000 * e.size
 | .mk op nm md num yes kids at_,h=>by
  rw [PZ.fit] at h
  obtain ⟨h1,h2,h3,h4,h5⟩:=h
  have hs:=textsZ_small kids h5
  have hl:(textsZ kids).length=kids.length:=by rw [textsZ_map,List.length_map]
  have:=showF_len op nm md num yes (textsZ kids) h1 h2 (intF_len h3) (by omega)
  rw [PZ.text,PZ.size]
  omega
theorem textsZ_small:∀ l:List PZ,fitZ l→sumT (textsZ l)≤300000 * sizeZ l
 | [],_=>by simp [textsZ,sumT]
 | e :: l,h=>by
  rw [fitZ] at h
  have h1:=PZ.text_small e h.1
  have h2:=textsZ_small l h.2
  rw [textsZ,sumT,sizeZ]
  simp only
  omega
end
theorem bothF_text {t:List CellZ}{e:PZ}(h:bothF t=some e):e.text.length≤9000000:=by
 have h1:=PZ.text_small e (bothF_fit h)
 have h2:=bothF_size h
 omega
end Go.Proofs.YtdednahplodojaaGreatDoor

namespace Go.Proofs.YtdednahplodojaaGreatDoor
open Go.RowKit Go
def resZ:PZ:=.mk 4 [] [] 0 false [] 0
theorem resZ_right:resZ.right false=false:=by
 unfold resZ
 simp only [PZ.right,headB,mayB]
 rfl
theorem resZ_at (B:Nat)(w:World):ZAt YA (fun b=>b<B) w (.slice none 0 0) (.slice none 0 0) resZ:=by
 unfold resZ
 rw [ZAt]
 exact ⟨NumAt.zero _ _,[],SlP.nil _ _ _,by rw [ZAtL]⟩
theorem anchor9_any (w:World):Calls Tryz.prog 17 #[] w fun r w'=>r=.returned (.bool true)∧Below w.heap.size w w':=by
 have HR:=Lib.hid (fun W=>nine_good ⟨#[110,111,116,40,97,38,38,45,40,98,43,49,41,60,99,41]⟩ W (by decide) nineT ((aloneT nineC).em 0 0) nineC nine_form nine_fgood)
 have hz:=nine_z
 obtain ⟨x,hx⟩:∃ x,x=nineC.pe nineT 0:=⟨_,rfl⟩
 rw [← hx] at HR hz
 have HF:Hid (∀ (B:Nat) (am:Option Addr) (wn cm:Nat) (ae:Option Addr) (ce:Nat) (W:World),EAt XA (fun b=>b<B) W (.slice am wn cm) (.slice ae x.kids.length ce) x→B≤W.heap.size→Calls Tryz.prog 19 #[.agg #[.int .i64 x.op,.string ⟨x.name.toArray⟩,.string ⟨x.module.toArray⟩,.bool (decide (x.num<0)),.slice am wn cm,.bool x.yes,.slice ae x.kids.length ce,.int .i64 x.at_]] W fun r w'=>r=.returned (.tuple #[.string ⟨#[110,111,116,32,40,97,32,38,38,32,45,40,98,32,43,32,49,41,32,60,32,99,41]⟩,.int .i64 0])∧Below W.heap.size W w'):=Lib.hid fun B am wn cm ae ce W hE hB=>by
  have h:=ZAt.ofE hE
  rw [hz] at h
  have hd:=PE.z_def x
  rw [hz] at hd
  have d1:nineZ.op=(x.op:Int):=congrArg PZ.op hd
  have d2:nineZ.name=x.name:=congrArg PZ.name hd
  have d3:nineZ.module=x.module:=congrArg PZ.module hd
  have d4:nineZ.num=x.num:=congrArg PZ.num hd
  have d5:nineZ.yes=x.yes:=congrArg PZ.yes hd
  have d6:nineZ.kids.length=x.kids.length:=(congrArg (fun z:PZ=>z.kids.length) hd).trans (by show (x.kids.map PE.z).length=_;rw [List.length_map])
  have d7:nineZ.at_=(x.at_:Int):=congrArg PZ.at_ hd
  have hq:=sformula_any nineZ B am wn cm ae ce W ⟨by rw [d6];exact h,hB,nine_fit⟩ (by rw [nine_text];decide)
  unfold ShowPost at hq
  rw [d1,d2,d3,d4,d5,d6,d7,nine_right,nine_text] at hq
  exact hq
 have HB4:Hid (∀ W,Calls Tryz.prog 20 #[.agg #[.int .i64 4,.string ⟨#[]⟩,.string ⟨#[]⟩,.bool false,.slice none 0 0,.bool false,.slice none 0 0,.int .i64 0]] W fun r w'=>r=.returned (.tuple #[.string ⟨#[]⟩,.int .i64 10])∧Below W.heap.size W w'):=Lib.hid fun W=>by
  have hq:=sbody_any resZ W.heap.size none 0 0 none 0 W ⟨resZ_at _ _,Nat.le_refl _,by unfold resZ;simp only [PZ.fit,fitZ];decide⟩ (by unfold resZ;simp only [PZ.text,showF];decide)
  unfold ShowPost at hq
  rw [resZ_right] at hq
  exact hq
 clear hx hz
 go_enter Tryz.func17,Tryz.ntmps17
 go_upto_region 2 with (go_at_call 41;refine (HR.out _).mono ?_;rintro r w1 ⟨am,wn,cm,ae,ce,rfl,hE,hb1⟩)
 have hbn:=below_new w1 (.cells (boxZ x.op ⟨x.name.toArray⟩ ⟨x.module.toArray⟩ (decide (x.num<0)) (.slice am wn cm) x.yes (.slice ae x.kids.length ce) x.at_) 40)
 have hX:=heap_alloc_new w1 (.cells (boxZ x.op ⟨x.name.toArray⟩ ⟨x.module.toArray⟩ (decide (x.num<0)) (.slice am wn cm) x.yes (.slice ae x.kids.length ce) x.at_) 40)
 have hE2:=(hE.imp (Q:=fun b=>b<w1.heap.size) fun b _ hl=>hl).frame (Alk.of hbn)
 have hb2:=hb1.trans (hbn.mono hb1.size)
 have hz2:=hbn.size
 change Code.wp _ _ _ _ (w1.alloc (.cells (boxZ x.op ⟨x.name.toArray⟩ ⟨x.module.toArray⟩ (decide (x.num<0)) (.slice am wn cm) x.yes (.slice ae x.kids.length ce) x.at_) 40))
 generalize w1.alloc (.cells (boxZ x.op ⟨x.name.toArray⟩ ⟨x.module.toArray⟩ (decide (x.num<0)) (.slice am wn cm) x.yes (.slice ae x.kids.length ce) x.at_) 40)=w2 at hX hE2 hb2 hz2 ⊢
 have HF2:=Lib.hid (HF.out w1.heap.size am wn cm ae ce w2 hE2 hz2)
 obtain ⟨y0,y1,y2,y3,y4,y5,y6,y7⟩:=boxZ_cells hX
 clear hE hE2 hbn hX hb1 HF HR
 go_wp2_with (first|(go_at_call 19;refine HF2.out.mono ?_;rintro r w3 ⟨rfl,hb3⟩)|(go_at_call 20;refine (HB4.out _).mono ?_;rintro r w4 ⟨rfl,hb4⟩))
 go_ret
 exact ⟨rfl,(hb2.trans (hb3.mono hb2.size)).trans (hb4.mono (hb2.trans (hb3.mono hb2.size)).size)⟩
theorem showExprs_any (B:Nat)(ao:Option Addr)(ct:Nat)(t:List CellZ)(w:World)(h:TermAt B w ao t)(hB:B≤w.heap.size) :
  Calls Tryz.prog 4 #[.slice ao t.length ct] w fun r w'=>r=.returned (.bool true)∧Below w.heap.size w w':=by
 have hb:=fun W (hW:Below w.heap.size w W)=>both_any B ao ct t W (fun h0=>by
  obtain ⟨b,off,h1,h2,h3,h4⟩:=h h0
  exact ⟨b,off,h1,h2,Nat.lt_of_lt_of_le h3 hW.size,fun i hi j u hu=>(hW.cell (p:=⟨b,off+i * 6+j,none⟩) h3).trans (h4 i hi j u hu)⟩) (Nat.le_trans hB hW.size)
 unfold BothPost at hb
 cases he:bothF t with
 | none =>
  rw [he] at hb
  have HB:=Lib.hid hb
  clear hb h he
  go_enter Tryz.func4,Tryz.ntmps4
  go_wp2_with (first|(go_at_call 17;refine (anchor9_any _).mono ?_;rintro r w1 ⟨rfl,hb1⟩)|(go_at_call 18;refine (HB.out _ hb1).mono ?_;rintro r w2 ⟨hb2,rfl⟩))
  go_ret
  exact ⟨rfl,((hb1.trans (hb2.mono hb1.size)).alloc (by have:=hb1.size;have:=hb2.size;omega) _).alloc (by have:=hb1.size;have:=hb2.size;simp;omega) _⟩
 | some e =>
  rw [he] at hb
  have HB:=Lib.hid hb
  have hf:=bothF_fit he
  have ht:=bothF_text he
  clear hb h he
  go_enter Tryz.func4,Tryz.ntmps4
  go_upto_region 6 with (first|(go_at_call 17;refine (anchor9_any _).mono ?_;rintro r w1 ⟨rfl,hb1⟩)|(go_at_call 18;refine (HB.out _ hb1).mono ?_;rintro r w2 ⟨hb2,am,wn,cm,ae,ce,m,ak,ck,rfl,hZ,hY⟩))
  have hba:=(below_new w2 (.cells (boxZ e.op ⟨e.name.toArray⟩ ⟨e.module.toArray⟩ (decide (e.num<0)) (.slice am wn cm) e.yes (.slice ae e.kids.length ce) e.at_) 40)).alloc (by simp) (.cells (boxY e.op ⟨e.name.toArray⟩ ⟨e.module.toArray⟩ ⟨(intF e.num).toArray⟩ e.yes (.slice ak e.kids.length ck) e.at_) 55)
  have hX:=(Lib.alloc_old (w2.alloc (.cells (boxZ e.op ⟨e.name.toArray⟩ ⟨e.module.toArray⟩ (decide (e.num<0)) (.slice am wn cm) e.yes (.slice ae e.kids.length ce) e.at_) 40)) (.cells (boxY e.op ⟨e.name.toArray⟩ ⟨e.module.toArray⟩ ⟨(intF e.num).toArray⟩ e.yes (.slice ak e.kids.length ck) e.at_) 55) w2.heap.size (by simp)).trans (heap_alloc_new w2 (.cells (boxZ e.op ⟨e.name.toArray⟩ ⟨e.module.toArray⟩ (decide (e.num<0)) (.slice am wn cm) e.yes (.slice ae e.kids.length ce) e.at_) 40))
  have hYb:=heap_alloc_new (w2.alloc (.cells (boxZ e.op ⟨e.name.toArray⟩ ⟨e.module.toArray⟩ (decide (e.num<0)) (.slice am wn cm) e.yes (.slice ae e.kids.length ce) e.at_) 40)) (.cells (boxY e.op ⟨e.name.toArray⟩ ⟨e.module.toArray⟩ ⟨(intF e.num).toArray⟩ e.yes (.slice ak e.kids.length ck) e.at_) 55)
  rw [World.size_alloc] at hYb
  have hZ3:=(hZ.imp (Q:=fun b=>b<w2.heap.size) fun b _ hl=>hl).frame (Alk.of hba)
  have hY3:=(hY.imp (Q:=fun b=>b<w2.heap.size) fun b _ hl=>hl).frame (Alk.of hba)
  have hb3:=(hb1.trans (hb2.mono hb1.size)).trans (hba.mono (by have:=hb1.size;have:=hb2.size;omega))
  have hz3:=hba.size
  change Code.wp _ _ _ _ ((w2.alloc (.cells (boxZ e.op ⟨e.name.toArray⟩ ⟨e.module.toArray⟩ (decide (e.num<0)) (.slice am wn cm) e.yes (.slice ae e.kids.length ce) e.at_) 40)).alloc (.cells (boxY e.op ⟨e.name.toArray⟩ ⟨e.module.toArray⟩ ⟨(intF e.num).toArray⟩ e.yes (.slice ak e.kids.length ck) e.at_) 55))
  generalize (w2.alloc (.cells (boxZ e.op ⟨e.name.toArray⟩ ⟨e.module.toArray⟩ (decide (e.num<0)) (.slice am wn cm) e.yes (.slice ae e.kids.length ce) e.at_) 40)).alloc (.cells (boxY e.op ⟨e.name.toArray⟩ ⟨e.module.toArray⟩ ⟨(intF e.num).toArray⟩ e.yes (.slice ak e.kids.length ck) e.at_) 55)=w3 at hX hYb hZ3 hY3 hb3 hz3 ⊢
  clear hba hZ hY hb1 hb2 HB
  have HSf:=Lib.hid (fun W (hW:Below w3.heap.size w3 W)=>sformula_any e w2.heap.size am wn cm ae ce W ⟨hZ3.frame (Alk.of hW),Nat.le_trans hz3 hW.size,hf⟩ (by omega))
  have HSb:=Lib.hid (fun W (hW:Below w3.heap.size w3 W)=>sbody_any e w2.heap.size am wn cm ae ce W ⟨hZ3.frame (Alk.of hW),Nat.le_trans hz3 hW.size,hf⟩ (by omega))
  unfold ShowPost at HSf HSb
  have HRt:=Lib.hid (fun W (hW:Below w3.heap.size w3 W)=>rrightZ_any true _ e (Nat.lt_succ_self _) hf w2.heap.size m ak ck W (hY3.frame (Alk.of hW)) (Nat.le_trans hz3 hW.size))
  have HRf:=Lib.hid (fun W (hW:Below w3.heap.size w3 W)=>rrightZ_any false _ e (Nat.lt_succ_self _) hf w2.heap.size m ak ck W (hY3.frame (Alk.of hW)) (Nat.le_trans hz3 hW.size))
  have HR2:=Lib.hid (fun (fm:Bool) W (hW:Below w3.heap.size w3 W)=>rrightZ_any fm _ e (Nat.lt_succ_self _) hf w2.heap.size m ak ck W (hY3.frame (Alk.of hW)) (Nat.le_trans hz3 hW.size))
  have HTx:Hid (∀ fm,e.right fm=true→∀ W,Below w3.heap.size w3 W→Calls Tryz.prog 22 #[.agg #[.int .i64 e.op,.string ⟨e.name.toArray⟩,.string ⟨e.module.toArray⟩,.string ⟨(intF e.num).toArray⟩,.bool e.yes,.slice ak e.kids.length ck,.int .i64 e.at_]] W (StrPost e.text W)):=Lib.hid fun fm hr W hW=>rtextZ_any _ e (Nat.lt_succ_self _) hr hf w2.heap.size m ak ck W (hY3.frame (Alk.of hW)) (Nat.le_trans hz3 hW.size) (by omega)
  obtain ⟨x0,x1,x2,x3,x4,x5,x6,x7⟩:=boxZ_cells hX
  have HX:=Lib.hid hX
  have HYb:=Lib.hid hYb
  clear hX hYb hZ3 hY3
  unfold StrPost at HTx
  obtain ⟨Y,-,eY⟩:=bytes_of e.text
  simp only [eY] at HSf HSb HTx
  cases hrt:e.right true <;> cases hrf:e.right false
  all_goals
   simp only [hrt,if_true,if_false,Bool.false_eq_true] at HSf HRt
   simp only [hrf,if_true,if_false,Bool.false_eq_true] at HSb HRf
   go_upto_region 8 with (first|(go_at_call 19;refine (HSf.out _ (Below.refl _ _)).mono ?_;rintro r w4 ⟨rfl,hb4⟩;obtain ⟨z0,z1,z2,z3,z4,z5,z6,z7⟩:=boxZ_cells ((hb4.block w2.heap.size (Array.getElem?_eq_some_iff.1 HX.out).1).trans HX.out))|(go_at_call 20;refine (HSb.out _ hb4).mono ?_;rintro r w5 ⟨rfl,hb5⟩))
   have hb45:=hb4.trans (hb5.mono hb4.size)
   have hl:=(Array.getElem?_eq_some_iff.1 HYb.out).1
   have HS:=Lib.hid (fun W (hW:Below w3.heap.size w3 W)=>boxY_cells ((hW.block (w2.heap.size+1) hl).trans HYb.out))
   have hq0:=hb45.drew
   have p3:=HS.out w5 hb45
   obtain ⟨s0,s1,s2,s3,s4,s5,s6⟩:=HS.out w5 hb45
   clear x0 x1 x2 x3 x4 x5 x6 x7 z0 z1 z2 z3 z4 z5 z6 z7
   go_cut [10,11] (fun u v wc=>u=.bool (e.right true)∧v=.bool (e.right false)∧Below w3.heap.size w3 wc)
   case first =>
    go_region_held3 (fun W=>W.cell? ⟨w2.heap.size+1,0,none⟩=some (.int .i64 e.op)∧W.cell? ⟨w2.heap.size+1,1,none⟩=some (.string ⟨e.name.toArray⟩)∧W.cell? ⟨w2.heap.size+1,2,none⟩=some (.string ⟨e.module.toArray⟩)∧W.cell? ⟨w2.heap.size+1,3,none⟩=some (.string ⟨(intF e.num).toArray⟩)∧W.cell? ⟨w2.heap.size+1,4,none⟩=some (.bool e.yes)∧W.cell? ⟨w2.heap.size+1,5,none⟩=some (.slice ak e.kids.length ck)∧W.cell? ⟨w2.heap.size+1,6,none⟩=some (.int .i64 e.at_))
     (first|(with_reducible exact p3)|(go_keep;done))
     (first
      | (go_at_call 21;with_reducible refine (HR2.out _ _ hqA).mono ?_;rintro r wB ⟨rfl,hbwB⟩;have hqB:=hqA.trans (hbwB.mono hqA.size);have p3:=HS.out _ hqB)
      | (go_at_call 21;with_reducible refine (HR2.out _ _ hq0).mono ?_;rintro r wA ⟨rfl,hbwA⟩;have hqA:=hq0.trans (hbwA.mono hq0.size);have p3:=HS.out _ hqA))
    all_goals
     go_wp2_with fail
     go_meet
     exact ⟨by first|rfl|rw [hrt],by first|rfl|rw [hrf],hqB⟩
   case rest =>
    obtain ⟨rfl,rfl,hbc⟩:=hcut
    rw [hrt,hrf]
    clear s0 s1 s2 s3 s4 s5 s6 p3
    obtain ⟨s0,s1,s2,s3,s4,s5,s6⟩:=HS.out _ hbc
    have hfin:=Lib.hid (hb3.trans (hbc.mono hb3.size))
    go_wp2_with (first|(go_at_call 22;(first|(with_reducible refine (HTx.out true hrt _ hqS).mono ?_)|(with_reducible refine (HTx.out false hrf _ hqS).mono ?_));rintro r wT ⟨rfl,hbwT⟩;have hqT:=hqS.trans (hbwT.mono hqS.size);obtain ⟨p0,p1,p2,p3,p4,p5,p6⟩:=HS.out _ hqT)|(go_at_call 22;(first|(with_reducible refine (HTx.out true hrt _ hbc).mono ?_)|(with_reducible refine (HTx.out false hrf _ hbc).mono ?_));rintro r wS ⟨rfl,hbwS⟩;have hqS:=hbc.trans (hbwS.mono hbc.size);obtain ⟨p0,p1,p2,p3,p4,p5,p6⟩:=HS.out _ hqS))
    go_ret
    first
     | exact ⟨rfl,hb3.trans (hqT.mono hb3.size)⟩
     | exact ⟨rfl,hb3.trans (hqS.mono hb3.size)⟩
     | exact ⟨rfl,hfin.out⟩
end Go.Proofs.YtdednahplodojaaGreatDoor

namespace Go.Proofs.YtdednahplodojaaGreatDoor
open Go.ChangeShapes Go.WideShapes Go.Deep Go.RowKit
theorem exists_list {α:Type}{Q:Nat→α→Prop}:∀ (n:Nat),(∀ i,i<n→∃ a,Q i a)→∃ l:List α,l.length=n∧∀ i (h:i<l.length),Q i l[i]
 | 0,_=>⟨[],rfl,fun i h=>absurd h (by simp)⟩
 | n+1,h=>by
  obtain ⟨l,hl,hq⟩:=exists_list n (fun i hi=>h i (by omega))
  obtain ⟨a,ha⟩:=h n (by omega)
  refine ⟨l++[a],by simp [hl],fun i hi=>?_⟩
  rcases Nat.lt_or_ge i l.length with h'|h'
  ·rw [List.getElem_append_left h'];exact hq i h'
  ·have:i=n:=by simp at hi;omega
   subst this
   rw [List.getElem_append_right h']
   simp only [hl,Nat.sub_self]
   exact ha
theorem Rec.of {α:Type}{B b off len cap sz:Nat}{w:World}{f:α→List Value}{l:List α}(hf:∀ x,(f x).length=sz)(hl:l.length=len)(hcap:len≤cap)(hb:b<B)(hsz:0<sz)
  (hc:∀ i (h:i<l.length),∀ j u,(f l[i])[j]?=some u→w.cell? ⟨b,off+(i * sz+j),none⟩=some u) :
  Rec B w (.slice (some ⟨b,off,none⟩) len cap) sz f l:=by
 subst hl
 refine ⟨some ⟨b,off,none⟩,cap,rfl,hcap,flat_length hf l,fun _=>⟨b,off,rfl,hb,fun i hi=>?_⟩⟩
 rw [flat_length hf] at hi
 have h1:i / sz<l.length:=Nat.div_lt_of_lt_mul (by rw [Nat.mul_comm];exact hi)
 have h2:i % sz<sz:=Nat.mod_lt _ hsz
 have h3:i / sz * sz+i % sz=i:=by rw [Nat.mul_comm];exact Nat.div_add_mod i sz
 have h4:=flat_at hf l (i / sz) (i % sz) h1 h2
 rw [h3] at h4
 have h5:(f l[i / sz])[i % sz]?=some ((f l[i / sz])[i % sz]'(by rw [hf];exact h2)):=List.getElem?_eq_getElem _
 have h6:=hc (i / sz) h1 (i % sz) _ h5
 rw [h3] at h6
 rw [h6]
 rw [h5] at h4
 obtain ⟨h7,h8⟩:=List.getElem?_eq_some_iff.1 h4
 rw [h8]
theorem Rec.nil {α:Type}{B cap sz:Nat}{w:World}{f:α→List Value}{ao:Option Addr}:Rec B w (.slice ao 0 cap) sz f [] :=
 ⟨ao,cap,rfl,Nat.zero_le _,by simp,fun h=>absurd h (by simp)⟩
theorem add_none (b off n:Nat):(⟨b,off,none⟩:Addr).add n=⟨b,off+n,none⟩:=by
 unfold Addr.add
 split
 ·rename_i h;subst h;rfl
 ·rfl
theorem open_recs {H:Type}{enc:TypeId × Value→H}{P:Program}{w:World}{base:Nat}{spare:Nat→Bool}{held:Bool}{α:Type}{g:α→List Value}{Good:α→Prop}{sz:Nat}{t e:TypeId}{fs:Array Field}{fuel:Nat}{v:Value}{x:DataW H × List MemPlace}
  (ht:P.underlying t=some (.slice e)) (he:P.underlying e=some (.struct fs)) (hone:oneCellFields P fs=true) (hC:P.cellsOf e=sz) (hfs:fs.size=sz) (hg:∀ a,(g a).length=sz) (hsz:0<sz)
  (take:∀ us:List Value,us.length=sz→(∀ (j:Nat) (f:Field),fs[j]?=some f→∃ u n y,us[j]?=some u∧DataW.trod enc P w base spare held n f.type [u]=some y)→∃ a,g a=us∧Good a)
  (h:DataW.trod enc P w base spare held fuel t [v]=some x) :
  ∃ l:List α,Rec w.heap.size w v sz g l∧l.length≤maxLen∧∀ k (hk:k<l.length),Good l[k]:=by
 rcases open_slice ht h with ⟨hcs,_⟩|⟨a,len,cap,m,n,D,Pl,hcs,_,hlc,hcm,hm,_,hi⟩
 ·obtain rfl:v=.slice none 0 0:=by simpa using hcs
  exact ⟨[],Rec.nil,Nat.zero_le _,fun k hk=>absurd hk (by simp)⟩
 obtain rfl:v=.slice (some a) len cap:=by simpa using hcs
 have hlm:len≤m:=by rw [hm];split <;> omega
 have hrow:∀ i,i<len→∃ r:α,(∀ j u,(g r)[j]?=some u→w.cell? ((a.add (i * sz)).add j)=some u)∧Good r:=by
  intro i hil
  obtain ⟨cs,hc,htr⟩:=hi i (by omega)
  rw [hC] at hc
  obtain ⟨_,hlen,hat⟩:=World.cells?_some hc
  obtain ⟨ys,n',_,_,_,hyl,hf⟩:=DataW.trod_struct he htr
  obtain ⟨r,hr,hgood⟩:=take cs hlen (by
   intro j f hj
   have hjl:j<fs.size:=(Array.getElem?_eq_some_iff.1 hj).1
   obtain ⟨ho,hk⟩:=hone_of hone j f hj
   have h1:=hf j f hj
   rw [ho,hk,List.drop_eq_getElem_cons (by omega)] at h1
   refine ⟨cs[j]'(by omega),n',ys[j]'(by omega),List.getElem?_eq_getElem _,?_⟩
   rw [← List.getElem?_eq_getElem]
   exact h1)
  refine ⟨r,fun j u hu=>?_,hgood⟩
  rw [hr] at hu
  obtain ⟨hj,_⟩:=List.getElem?_eq_some_iff.1 hu
  rw [hat j (by omega),hu]
 rcases Nat.eq_zero_or_pos len with h0|h0
 ·subst h0
  exact ⟨[],Rec.nil,Nat.zero_le _,fun k hk=>absurd hk (by simp)⟩
 obtain ⟨b,off,spot⟩:=a
 obtain ⟨r0,hr0,_⟩:=hrow 0 h0
 have hc0:=hr0 0 ((g r0)[0]'(by rw [hg];exact hsz)) (List.getElem?_eq_getElem _)
 rw [Nat.zero_mul] at hc0
 have hc0:w.cell? ⟨b,off,spot⟩=some ((g r0)[0]'(by rw [hg];exact hsz)):=by simpa [Addr.add] using hc0
 have hspot:spot=none:=World.cell?_spot hc0
 subst hspot
 have hb:b<w.heap.size:=World.block_lt_of_cell? w _ hc0
 obtain ⟨l,hl,hq⟩:=exists_list len hrow
 refine ⟨l,Rec.of hg hl hlc hb hsz (fun i h' j u hu=>?_),by omega,fun k hk=>(hq k hk).2⟩
 have:=(hq i h').1 j u hu
 rw [add_none,add_none,Nat.add_assoc] at this
 exact this
theorem open_term {H:Type}{enc:TypeId × Value→H}{w:World}{base:Nat}{spare:Nat→Bool}{held:Bool}{fuel:Nat}{a0:Option Addr}{n0 c0:Nat}{x:DataW H × List MemPlace}
  (h:DataW.trod enc Tryz.prog w base spare held fuel 52 [.slice a0 n0 c0]=some x) :
  ∃ (t:List CellZ) (n:Nat),Value.slice a0 n0 c0=.slice a0 t.length c0∧TermAt w.heap.size w a0 t:=by
 obtain ⟨l,h1,_,_⟩:=open_recs (g:=fun c=>(cellC c).toList) (Good:=fun _:CellZ=>True) Tryz.underlying52 Tryz.underlying104 (by kernel_rfl) (by kernel_rfl) rfl (fun _=>rfl) (by decide) (by
  intro us hlen hf
  obtain ⟨u0,n0,y0,h0,t0⟩:=hf 0 _ rfl
  obtain ⟨u1,n1,y1,h1,t1⟩:=hf 1 _ rfl
  obtain ⟨u2,n2,y2,h2,t2⟩:=hf 2 _ rfl
  obtain ⟨u3,n3,y3,h3,t3⟩:=hf 3 _ rfl
  obtain ⟨u4,n4,y4,h4,t4⟩:=hf 4 _ rfl
  obtain ⟨u5,n5,y5,h5,t5⟩:=hf 5 _ rfl
  obtain ⟨i0,e0,_,_⟩:=DataW.trod_int Tryz.underlying3 t0
  obtain ⟨i1,e1,_,_⟩:=DataW.trod_int Tryz.underlying3 t1
  obtain ⟨s2,e2,_,_⟩:=DataW.trod_string Tryz.underlying9 t2
  obtain ⟨s3,e3,_,_⟩:=DataW.trod_string Tryz.underlying9 t3
  obtain ⟨s4,e4,_,_⟩:=DataW.trod_string Tryz.underlying9 t4
  obtain ⟨b5,e5,_⟩:=DataW.trod_bool Tryz.underlying4 t5
  match us,hlen with
  | [c0,c1,c2,c3,c4,c5],_ =>
   simp only [List.cons.injEq,and_true] at e0 e1 e2 e3 e4 e5
   simp at h0 h1 h2 h3 h4 h5
   subst h0 h1 h2 h3 h4 h5 e0 e1 e2 e3 e4 e5
   exact ⟨⟨i0,i1,s2.data.toList,s3.data.toList,s4.data.toList,b5⟩,rfl,trivial⟩) h
 obtain ⟨ao,cap,hv,_,hc⟩:=Rec.form h1 (fun _=>rfl)
 simp only [Value.slice.injEq] at hv
 obtain ⟨rfl,rfl,rfl⟩:=hv
 refine ⟨l,0,rfl,fun h0=>?_⟩
 obtain ⟨b,off,h2,h3,h4⟩:=hc h0
 exact ⟨b,off,h2,h3,h3,fun i hi j u hu=>h4 i j u hi (by rw [Array.getElem?_toList];exact hu)⟩
end Go.Proofs.YtdednahplodojaaGreatDoor

namespace Go.Proofs.YtdednahplodojaaGreatDoor
open Go.ChangeShapes Go.WideShapes Go.ChangeAt Go.RowKit
theorem trodAll_below {H:Type}{enc:TypeId × Value→H}{P:Program}(hl:laidOutB P=true){W W':World}(hb:Below W.heap.size W W'):∀ {ts:List TypeId} {vs:List Value} {ds:List (DataW H)} {ps:List MemPlace},
  ts.all (fun t=>P.readableRec t && decide (t<P.types.size))=true→DataW.TrodAll enc P W 0 (fun _=>true) true ts vs ds ps→(∀ x∈ps,x.block<W.heap.size) →
  DataW.TrodAll enc P W' 0 (fun b=>decide (b<W.heap.size)) true ts vs ds ps
 | [],[],[],_,_,h,_=>h
 | [],_ :: _,_,_,_,h,_=>h.elim
 | [],[],_ :: _,_,_,h,_=>h.elim
 | _ :: _,[],_,_,_,h,_=>h.elim
 | _ :: _,_ :: _,[],_,_,h,_=>h.elim
 | t :: ts,v :: vs,d :: ds,_,ha,h,hlt=>by
  obtain ⟨p,q,h1,h2,rfl⟩:=h
  simp only [List.all_cons,Bool.and_eq_true,decide_eq_true_eq] at ha
  exact ⟨p,q,Below.trod hl ha.1.1 ha.1.2 h1 hb (fun x hx=>hlt x (List.mem_append_left _ hx)),trodAll_below hl hb ha.2 h2 (fun x hx=>hlt x (List.mem_append_right _ hx)),rfl⟩
theorem law_post {H:Type}{enc:TypeId × Value→H}{P:Program}{f:Func}{s:ChangeSpec}{W W':World}{args:Array Value}{ds gs:List (DataW H)}{before:List MemPlace}{tb:TypeId}
  (hl:laidOutB P=true) (hp:f.params.toList.all (fun t=>P.readableRec t && decide (t<P.types.size))=true) (hv:varsRowed P s.vars=true) (hr:f.resultTypes=#[tb]) (htb:P.underlying tb=some .bool)
  (hW:DataW.Whole enc P f.params.toList s.vars false W args.toList ds gs before) (hf1:(s.fn H (ds++gs)).results=[.lit (.bool true)]) (hf2:(s.fn H (ds++gs)).args=ds) (hf3:(s.fn H (ds++gs)).vars=gs)
  (hb:Below W.heap.size W W'):s.post enc P f false true false false W args (.bool true) W':=by
 have hlt:=hW.lt
 have hW':=hW
 obtain ⟨p,q,hA,hV,rfl,hfz,hnd⟩:=hW
 refine ⟨ds,gs,p++q,[]++[],p,q,hW',?_,?_,?_,hb.frame _,fun h=>by cases h⟩
 ·rw [hr,hf1]
  exact ⟨[],[],shut_bool htb true,rfl,rfl⟩
 ·rw [hf2]
  exact trodAll_below hl hb hp hA (fun x hx=>hlt x (List.mem_append_left _ hx))
 ·rw [hf3]
  exact Below.trodVars hl hb hv hV
end Go.Proofs.YtdednahplodojaaGreatDoor
