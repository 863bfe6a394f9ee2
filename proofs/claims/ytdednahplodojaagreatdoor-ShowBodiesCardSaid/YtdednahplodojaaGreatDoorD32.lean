/- Walks and plain laws: TextLen, NineA, PrintParse, PrintParse2. -/
import Derived.Test.YtdednahplodojaaGreatDoorD28
import Derived.Test.YtdednahplodojaaGreatDoorD31
set_option maxHeartbeats 16000000
set_option maxRecDepth 100000
set_option linter.unusedVariables false
set_option linter.unusedSimpArgs false
namespace Go.Proofs.YtdednahplodojaaGreatDoor
theorem signZ_len (op:Int):(signZ op).length≤2:=by
 unfold signZ
 generalize op.toNat - 7=i
 have h:∀ x∈([[43],[45],[42],[47],[37],[61],[60,62],[60],[60,61],[62],[62,61],[38,38],[124,124],[61,62]]:List (List UInt8)),x.length≤2:=by decide
 rw [List.getD_eq_getElem?_getD]
 cases hx:([[43],[45],[42],[47],[37],[61],[60,62],[60],[60,61],[62],[62,61],[38,38],[124,124],[61,62]]:List (List UInt8))[i]? with
 | none=>simp
 | some x=>exact h x (List.mem_of_getElem? hx)
theorem parZ_len (l:Int)(k:Int × List UInt8):(parZ l k).length≤k.2.length+2:=by
 unfold parZ
 split
 ·simp only [List.length_append,List.length_cons,List.length_nil];omega
 ·omega
def sumT:List (Int × List UInt8)→Nat
 | []=>0
 | k :: l=>k.2.length+sumT l
theorem sumT_three:∀ ks:List (Int × List UInt8),(ks.getD 0 (0,[])).2.length+(ks.getD 1 (0,[])).2.length+(ks.getD 2 (0,[])).2.length≤sumT ks
 | []=>by simp [sumT]
 | [a]=>by simp [sumT]
 | [a,b]=>by simp [sumT]
 | a :: b :: c :: l=>by simp [sumT];omega
theorem commaZ_len:∀ ks:List (Int × List UInt8),(commaZ (ks.map Prod.snd)).length≤sumT ks+2 * ks.length
 | []=>by simp [commaZ,sumT]
 | [a]=>by simp [commaZ,sumT]
 | a :: b :: l=>by
  have h:=commaZ_len (b :: l)
  simp only [List.map_cons,commaZ,List.length_append,List.length_cons,List.length_nil,sumT] at h ⊢
  omega
theorem showF_len (op:Int)(nm md:List UInt8)(num:Int)(yes:Bool)(ks:List (Int × List UInt8))(h1:nm.length≤65536)(h2:md.length≤65536)(h3:(intF num).length≤61)(h4:ks.length≤65536):(showF op nm md num yes ks).length≤sumT ks+300000:=by
 have h5:=sumT_three ks
 have h6:=commaZ_len ks
 have h7:=signZ_len op
 have p1:=parZ_len 9 (ks.getD 0 (0,[]))
 have p2:=parZ_len 4 (ks.getD 0 (0,[]))
 have p3:=parZ_len (firstZ op) (ks.getD 0 (0,[]))
 have p4:=parZ_len (thenZ op) (ks.getD 1 (0,[]))
 have hm:(if md=[] then [] else md++[46]).length≤65537:=by
  split
  ·simp
  ·simp only [List.length_append,List.length_cons,List.length_nil];omega
 unfold showF
 generalize (if md=[] then [] else md++[46])=mm at hm ⊢
 repeat' split
 all_goals ((try simp only [List.length_append,List.length_cons,List.length_nil]);omega)
theorem decF_len:∀ (k n:Nat),n<10 ^ (k+1)→(decF n).length≤k+1
 | 0,n,h=>by
  rw [decF,dif_pos (by omega)]
  simp
 | k+1,n,h=>by
  rw [decF]
  split
  ·simp
  ·rw [List.length_append,List.length_singleton]
   have:=decF_len k (n / 10) (by rw [Nat.pow_succ] at h;omega)
   omega
theorem intF_len {n:Int}(h:n.natAbs<10 ^ 60):(intF n).length≤61:=by
 unfold intF
 rw [List.length_append]
 have:=decF_len 59 n.natAbs h
 split
 ·simp only [List.length_cons,List.length_nil];omega
 ·simp only [List.length_nil];omega
mutual
theorem PZ.text_small:∀ e:PZ,e.fit→e.text.length≤300000 * e.size
 | .mk op nm md num yes kids at_,h=>by
  rw [PZ.fit] at h
  obtain ⟨h1,h2,h3,h4,h5⟩:=h
  have hs:=textsZ_small kids h5
  have hl:(textsZ kids).length=kids.length:=by rw [textsZ_map,List.length_map]
  have:=showF_len op nm md num yes (textsZ kids) h1 h2 (intF_len h3) (by omega)
  rw [PZ.text,PZ.size]
  omega
theorem textsZ_small:∀ l:List PZ,fitZ l→sumT (textsZ l)≤300000 * sizeZ l
 | [],_=>by simp [textsZ,sumT]
 | e :: l,h=>by
  rw [fitZ] at h
  have h1:=PZ.text_small e h.1
  have h2:=textsZ_small l h.2
  rw [textsZ,sumT,sizeZ]
  simp only
  omega
end
theorem bothF_text {t:List CellZ}{e:PZ}(h:bothF t=some e):e.text.length≤9000000:=by
 have h1:=PZ.text_small e (bothF_fit h)
 have h2:=bothF_size h
 omega
end Go.Proofs.YtdednahplodojaaGreatDoor

namespace Go.Proofs.YtdednahplodojaaGreatDoor
open Go.RowKit Go
def resZ:PZ:=.mk 4 [] [] 0 false [] 0
theorem resZ_right:resZ.right false=false:=by
 unfold resZ
 simp only [PZ.right,headB,mayB]
 rfl
theorem resZ_at (B:Nat)(w:World):ZAt YA (fun b=>b<B) w (.slice none 0 0) (.slice none 0 0) resZ:=by
 unfold resZ
 rw [ZAt]
 exact ⟨NumAt.zero _ _,[],SlP.nil _ _ _,by rw [ZAtL]⟩
theorem anchor9_any (w:World):Calls Tryz.prog 17 #[] w fun r w'=>r=.returned (.bool true)∧Below w.heap.size w w':=by
 have HR:=Lib.hid (fun W=>nine_good ⟨#[110,111,116,40,97,38,38,45,40,98,43,49,41,60,99,41]⟩ W (by decide) nineT ((aloneT nineC).em 0 0) nineC nine_form nine_fgood)
 have hz:=nine_z
 obtain ⟨x,hx⟩:∃ x,x=nineC.pe nineT 0:=⟨_,rfl⟩
 rw [← hx] at HR hz
 have HF:Hid (∀ (B:Nat) (am:Option Addr) (wn cm:Nat) (ae:Option Addr) (ce:Nat) (W:World),EAt XA (fun b=>b<B) W (.slice am wn cm) (.slice ae x.kids.length ce) x→B≤W.heap.size→Calls Tryz.prog 19 #[.agg #[.int .i64 x.op,.string ⟨x.name.toArray⟩,.string ⟨x.module.toArray⟩,.bool (decide (x.num<0)),.slice am wn cm,.bool x.yes,.slice ae x.kids.length ce,.int .i64 x.at_]] W fun r w'=>r=.returned (.tuple #[.string ⟨#[110,111,116,32,40,97,32,38,38,32,45,40,98,32,43,32,49,41,32,60,32,99,41]⟩,.int .i64 0])∧Below W.heap.size W w'):=Lib.hid fun B am wn cm ae ce W hE hB=>by
  have h:=ZAt.ofE hE
  rw [hz] at h
  have hd:=PE.z_def x
  rw [hz] at hd
  have d1:nineZ.op=(x.op:Int):=congrArg PZ.op hd
  have d2:nineZ.name=x.name:=congrArg PZ.name hd
  have d3:nineZ.module=x.module:=congrArg PZ.module hd
  have d4:nineZ.num=x.num:=congrArg PZ.num hd
  have d5:nineZ.yes=x.yes:=congrArg PZ.yes hd
  have d6:nineZ.kids.length=x.kids.length:=(congrArg (fun z:PZ=>z.kids.length) hd).trans (by show (x.kids.map PE.z).length=_;rw [List.length_map])
  have d7:nineZ.at_=(x.at_:Int):=congrArg PZ.at_ hd
  have hq:=sformula_any nineZ B am wn cm ae ce W ⟨by rw [d6];exact h,hB,nine_fit⟩ (by rw [nine_text];decide)
  unfold ShowPost at hq
  rw [d1,d2,d3,d4,d5,d6,d7,nine_right,nine_text] at hq
  exact hq
 have HB4:Hid (∀ W,Calls Tryz.prog 20 #[.agg #[.int .i64 4,.string ⟨#[]⟩,.string ⟨#[]⟩,.bool false,.slice none 0 0,.bool false,.slice none 0 0,.int .i64 0]] W fun r w'=>r=.returned (.tuple #[.string ⟨#[]⟩,.int .i64 10])∧Below W.heap.size W w'):=Lib.hid fun W=>by
  have hq:=sbody_any resZ W.heap.size none 0 0 none 0 W ⟨resZ_at _ _,Nat.le_refl _,by unfold resZ;simp only [PZ.fit,fitZ];decide⟩ (by unfold resZ;simp only [PZ.text,showF];decide)
  unfold ShowPost at hq
  rw [resZ_right] at hq
  exact hq
 clear hx hz
 go_enter Tryz.func17,Tryz.ntmps17
 go_upto_region 2 with (go_at_call 41;refine (HR.out _).mono ?_;rintro r w1 ⟨am,wn,cm,ae,ce,rfl,hE,hb1⟩)
 have hbn:=below_new w1 (.cells (boxZ x.op ⟨x.name.toArray⟩ ⟨x.module.toArray⟩ (decide (x.num<0)) (.slice am wn cm) x.yes (.slice ae x.kids.length ce) x.at_) 40)
 have hX:=heap_alloc_new w1 (.cells (boxZ x.op ⟨x.name.toArray⟩ ⟨x.module.toArray⟩ (decide (x.num<0)) (.slice am wn cm) x.yes (.slice ae x.kids.length ce) x.at_) 40)
 have hE2:=(hE.imp (Q:=fun b=>b<w1.heap.size) fun b _ hl=>hl).frame (Alk.of hbn)
 have hb2:=hb1.trans (hbn.mono hb1.size)
 have hz2:=hbn.size
 change Code.wp _ _ _ _ (w1.alloc (.cells (boxZ x.op ⟨x.name.toArray⟩ ⟨x.module.toArray⟩ (decide (x.num<0)) (.slice am wn cm) x.yes (.slice ae x.kids.length ce) x.at_) 40))
 generalize w1.alloc (.cells (boxZ x.op ⟨x.name.toArray⟩ ⟨x.module.toArray⟩ (decide (x.num<0)) (.slice am wn cm) x.yes (.slice ae x.kids.length ce) x.at_) 40)=w2 at hX hE2 hb2 hz2 ⊢
 have HF2:=Lib.hid (HF.out w1.heap.size am wn cm ae ce w2 hE2 hz2)
 obtain ⟨y0,y1,y2,y3,y4,y5,y6,y7⟩:=boxZ_cells hX
 clear hE hE2 hbn hX hb1 HF HR
 go_wp2_with (first|(go_at_call 19;refine HF2.out.mono ?_;rintro r w3 ⟨rfl,hb3⟩)|(go_at_call 20;refine (HB4.out _).mono ?_;rintro r w4 ⟨rfl,hb4⟩))
 go_ret
 exact ⟨rfl,(hb2.trans (hb3.mono hb2.size)).trans (hb4.mono (hb2.trans (hb3.mono hb2.size)).size)⟩
end Go.Proofs.YtdednahplodojaaGreatDoor

namespace Go.Proofs.YtdednahplodojaaGreatDoor
def AtP (toks:List Tok)(u:Nat)(l:List Pc):Prop:=u+l.length<toks.length∧∀ i,(h:i<l.length)→kindAt toks (u+i)=l[i].kind∧textAt toks (u+i)=l[i].text
theorem AtP.left {toks:List Tok}{u:Nat}{a b:List Pc}(h:AtP toks u (a++b)):AtP toks u a :=
 ⟨by have:=h.1;rw [List.length_append] at this;omega,fun i hi=>by have:=h.2 i (by rw [List.length_append];omega);rwa [List.getElem_append_left hi] at this⟩
theorem AtP.right {toks:List Tok}{u:Nat}{a b:List Pc}(h:AtP toks u (a++b)):AtP toks (u+a.length) b :=
 ⟨by have:=h.1;rw [List.length_append] at this;omega,fun i hi=>by
  have:=h.2 (a.length+i) (by rw [List.length_append];omega)
  rw [List.getElem_append_right (by omega)] at this
  rw [Nat.add_assoc]
  simpa using this⟩
theorem AtP.sp {toks:List Tok}{u:Nat}{l:List Pc}(h:AtP toks u (spP l)):AtP toks u l:=by
 cases l with
 | nil=>exact h
 | cons p l =>
  refine ⟨by have:=h.1;simpa [spP] using this,fun i hi=>?_⟩
  have:=h.2 i (by simpa [spP] using hi)
  cases i with
  | zero=>exact this
  | succ i=>exact this
theorem AtP.head {toks:List Tok}{u:Nat}{p:Pc}{l:List Pc}(h:AtP toks u (p :: l)):kindAt toks u=p.kind∧textAt toks u=p.text∧u+1<toks.length:=by
 have h1:=h.2 0 (by simp)
 have h2:=h.1
 rw [List.length_cons] at h2
 exact ⟨h1.1,h1.2,by omega⟩
theorem AtP.tail {toks:List Tok}{u:Nat}{p:Pc}{l:List Pc}(h:AtP toks u (p :: l)):AtP toks (u+1) l:=AtP.right (a:=[p]) h
theorem sp_len (l:List Pc):(spP l).length=l.length:=by cases l <;> rfl
def Stop (toks:List Tok)(u:Nat)(l:List (List UInt8)):Prop:=(kindAt toks u=2∨kindAt toks u=4)→textAt toks u ∉ l
theorem Stop.no {toks:List Tok}{st:PSt}{L l:List (List UInt8)}(h:Stop toks st.used L)(hl:∀ x∈l,x∈L):nextF toks st l=false:=by
 rw [← Bool.not_eq_true]
 intro q
 simp only [nextF,Bool.and_eq_true,Bool.or_eq_true,beq_iff_eq,decide_eq_true_eq] at q
 exact h q.1 (hl _ q.2)
theorem next_yes {toks:List Tok}{st:PSt}{l:List (List UInt8)}(hk:kindAt toks st.used=2∨kindAt toks st.used=4)(ht:textAt toks st.used∈l):nextF toks st l=true:=by
 simp only [nextF,Bool.and_eq_true,Bool.or_eq_true,beq_iff_eq,decide_eq_true_eq]
 exact ⟨hk,ht⟩
theorem next_no {toks:List Tok}{st:PSt}{l:List (List UInt8)}(ht:textAt toks st.used ∉ l):nextF toks st l=false:=by
 rw [← Bool.not_eq_true]
 exact fun q=>ht (next_text q)
def contL (k:Nat):List (List UInt8) :=
 (if k≤1 then [[61,62]] else [])++(if k≤2 then [[124,124]] else [])++(if k≤3 then [[38,38]] else [])++(if k≤5 then [[61],[60,62],[60],[60,61],[62],[62,61]] else [])++(if k≤6 then [[43],[45]] else [])++(if k≤7 then [[42],[47],[37]] else [])++[[46],[40]]
theorem contL_mono {k j:Nat}(h:k≤j):∀ x∈contL j,x∈contL k:=by
 intro x hx
 simp only [contL,List.mem_append] at hx ⊢
 rcases hx with (((((h1|h1)|h1)|h1)|h1)|h1)|h1
 ·split at h1
  ·rw [if_pos (by omega:k≤1)];simp [h1]
  ·cases h1
 ·split at h1
  ·rw [if_pos (by omega:k≤2)];simp [h1]
  ·cases h1
 ·split at h1
  ·rw [if_pos (by omega:k≤3)];simp [h1]
  ·cases h1
 ·split at h1
  ·rw [if_pos (by omega:k≤5)];simp only [h1,or_true,true_or]
  ·cases h1
 ·split at h1
  ·rw [if_pos (by omega:k≤6)];simp only [h1,or_true,true_or]
  ·cases h1
 ·split at h1
  ·rw [if_pos (by omega:k≤7)];simp only [h1,or_true,true_or]
  ·cases h1
 ·exact .inr h1
theorem Stop.mono {toks:List Tok}{u:Nat}{k j:Nat}(h:Stop toks u (contL k))(hkj:k≤j):Stop toks u (contL j):=fun q r=>h q (contL_mono hkj _ r)
def tk:Nat→Nat→Task
 | 0,n=>.expr n
 | 1,n=>.formula n
 | 2,n=>.row 0 n
 | 3,n=>.row 1 n
 | 4,n=>.neg n
 | 5,n=>.row 2 n
 | 6,n=>.row 3 n
 | 7,n=>.row 4 n
 | 8,n=>.factor n
 | _,n=>.atom n
def rowK:Nat→Nat
 | 0=>2
 | 1=>3
 | 2=>5
 | 3=>6
 | _=>7
def Fin (toks:List Tok)(st:PSt)(r:Int × PSt)(c:CE):Prop:=r.2.fE=23∨(r.2.fE=0∧Res toks st r c)
structure Pars (toks:List Tok) (d:Nat) (fm:Bool) (l:List Pc) (c:CE) (k:Nat):Prop where
 len:c.pt.lv=l.length
 does:∀ g nest st r,run toks d g (tk k nest) st=some r→st.fE=0→st.clause=fm→AtP toks st.used l→Stop toks (st.used+l.length) (contL k)→Fin toks st r c
structure Rows (toks:List Tok) (d:Nat) (fm:Bool) (l:List Pc) (c:CE) (j:Nat):Prop where
 len:c.pt.lv=l.length
 does:∀ g nest st r,run toks d g (.row j nest) st=some r→st.fE=0→st.clause=fm→AtP toks st.used l→Stop toks (st.used+l.length) (contL (rowK j+1)) →
  r.2.fE=23∨∃ a g',a.2.fE=0∧Res toks st a c∧run toks d g' (.loop j nest a.1) a.2=some r
def Hd (l:List Pc)(k:Nat):Prop:=∃ p r,l=p :: r∧p.text≠[41]∧(0<k→p.text ∉ [tLet,tIf,tAssert])∧(4<k→p.text≠tNot)∧(8<k→p.text≠[45])
theorem Hd.mono {l:List Pc}{k j:Nat}(h:Hd l k)(hj:j≤k):Hd l j:=by
 obtain ⟨p,r,e,h0,h1,h2,h3⟩:=h
 exact ⟨p,r,e,h0,fun q=>h1 (by omega),fun q=>h2 (by omega),fun q=>h3 (by omega)⟩
theorem Res.end_ {toks:List Tok}{st:PSt}{r:Int × PSt}{c:CE}(h:Res toks st r c):r.2.used=st.used+c.pt.lv:=by
 have:=h.1.used
 simpa [lvL] using this
theorem Res.cl {toks:List Tok}{st:PSt}{r:Int × PSt}{c:CE}(h:Res toks st r c):r.2.clause=st.clause:=h.1.clause
theorem part_tk {toks:List Tok}{d g j nest:Nat}{st:PSt}{a:Int × PSt}(hj:j≤4)(h:run toks d g (.part j nest) st=some a):∃ g',run toks d g' (tk (rowK j+1) nest) st=some a:=by
 cases g with
 | zero=>rw [run] at h;cases h
 | succ g =>
  rw [run] at h
  have:j=0∨j=1∨j=2∨j=3∨j=4:=by omega
  rcases this with rfl|rfl|rfl|rfl|rfl <;> exact ⟨g,h⟩
theorem loop_fault {toks:List Tok}{d g j nest:Nat}{a:Int}{st:PSt}{r:Int × PSt}(h:run toks d g (.loop j nest a) st=some r)(hf:st.fE=23):r.2.fE=23:=by
 have:=(run_ext toks d g _ _ _ h).2.1 (by rw [hf];decide)
 rw [this,hf]
theorem Pars.rows {toks:List Tok}{d:Nat}{fm:Bool}{l:List Pc}{c:CE}{j:Nat}(hj:j≤4)(h:Pars toks d fm l c (rowK j+1)):Rows toks d fm l c j:=⟨h.len,fun g nest st r hr hf hc hA hS=>by
 cases g with
 | zero=>rw [run] at hr;cases hr
 | succ g =>
  rw [run] at hr
  obtain ⟨a,ha,hr⟩:=Option.bind_eq_some_iff.1 hr
  obtain ⟨g',ha⟩:=part_tk hj ha
  rcases h.does g' nest st a ha hf hc hA hS with h1|h1
  ·exact .inl (loop_fault hr h1)
  ·exact .inr ⟨a,g,h1.1,h1.2,hr⟩⟩
theorem signs_cont (j:Nat)(hj:j≤4):∀ x∈signsF j,x∈contL (rowK j)∧x ∉ contL (rowK j+1):=by
 have:j=0∨j=1∨j=2∨j=3∨j=4:=by omega
 rcases this with rfl|rfl|rfl|rfl|rfl <;> decide
theorem Rows.stop {toks:List Tok}{d:Nat}{fm:Bool}{l:List Pc}{c:CE}{j:Nat}(hj:j≤4)(h:Rows toks d fm l c j):Pars toks d fm l c (rowK j):=⟨h.len,fun g nest st r hr hf hc hA hS=>by
 have hr':run toks d g (.row j nest) st=some r:=by
  have:j=0∨j=1∨j=2∨j=3∨j=4:=by omega
  rcases this with rfl|rfl|rfl|rfl|rfl <;> exact hr
 rcases h.does g nest st r hr' hf hc hA (hS.mono (by omega)) with h1|⟨a,g',h0,h1,h2⟩
 ·exact .inl h1
 ·have hu:=h1.end_
  rw [h.len] at hu
  cases g' with
  | zero=>rw [run] at h2;cases h2
  | succ g' =>
   rw [run,if_neg] at h2
   ·injection h2 with h2
    subst h2
    exact .inr ⟨h0,h1⟩
   ·rintro ⟨-,q⟩
    rw [← hu] at hS
    rw [hS.no fun x hx=>(signs_cont j hj x hx).1] at q
    cases q⟩
def Lay (st:PSt)(l:List PT)(ids:List Int)(cur:PSt):Prop:=Grew st l cur∧ids=idsL st.nodes.length l
theorem Lay.nil (st:PSt):Lay st [] [] st:=⟨Grew.nil st,rfl⟩
theorem Lay.leaf {toks:List Tok}(hE:EndOk toks){st cur:PSt}{l:List PT}{ids:List Int}(h:Lay st l ids cur)(hk:kindAt toks cur.used≠5):Lay st (l++[.leaf]) (ids++[(leafM toks cur).1]) (leafM toks cur).2:=by
 obtain ⟨g,i,_⟩:=leaf_ok hE hk
 refine ⟨h.1.append g,?_⟩
 rw [idsL_append,h.2,i,h.1.len]
 simp [idsL,PT.nd]
theorem Lay.sub {toks:List Tok}{st cur:PSt}{l:List PT}{ids:List Int}{b:Int × PSt}{c:CE}(h:Lay st l ids cur)(hb:Res toks cur b c):Lay st (l++[c.pt]) (ids++[b.1]) b.2:=by
 refine ⟨h.1.append hb.1,?_⟩
 rw [idsL_append,h.2,hb.2.1,h.1.len]
 simp [idsL]
theorem Lay.node {toks:List Tok}{st cur:PSt}{l:List PT}{ids:List Int}{c:CE}(k:Nat)(h:Lay st l ids cur)(hf:st.fE=0)(hc:c.pt=.node k l)(hok:c.ok toks st.clause st.used)(hu:cur.used<toks.length):Fin toks st (nodeM k ids cur) c:=by
 have h0:cur.fE=0:=by rw [h.1.fE,hf]
 obtain ⟨n1,n2⟩:=h.1.node h0 k
 rw [← h.2] at n1 n2
 have hnf:(nodeM k ids cur).2.fE=0:=by rw [n1.fE,hf]
 exact .inr ⟨hnf,h.1.res h.2 hc hok hnf fun _=>hu⟩
theorem Lay.fE {st cur:PSt}{l:List PT}{ids:List Int}(h:Lay st l ids cur):cur.fE=st.fE:=h.1.fE
theorem Lay.cl {st cur:PSt}{l:List PT}{ids:List Int}(h:Lay st l ids cur):cur.clause=st.clause:=h.1.clause
theorem Lay.used {st cur:PSt}{l:List PT}{ids:List Int}(h:Lay st l ids cur):cur.used=st.used+lvL l:=h.1.used
theorem Rows.bin {toks:List Tok}(hE:EndOk toks){d:Nat}{fm:Bool}{la lb:List Pc}{ca cb:CE}{j:Nat}{s:List UInt8}(hj:j≤4)(h2:j≠2)(ha:Rows toks d fm la ca j)(hb:Pars toks d fm lb cb (rowK j+1))(hs:s∈signsF j) :
  Rows toks d fm (la++(spP [sgnP s]++spP lb)) (.bin ca cb) j:=⟨by
 rw [CE.pt,PT.lv,lvL,lvL,lvL,lvL,PT.lv,ha.len,hb.len,List.length_append,List.length_append,sp_len,sp_len];simp <;> omega,fun g nest st r hr hf hc hA hS=>by
 obtain ⟨k1,t1,u1⟩:=(hA.right.left.sp).head
 have hs2:=signs_cont j hj s hs
 rcases ha.does g nest st r hr hf hc hA.left (fun _ q=>hs2.2 (by rw [t1] at q;exact q)) with h1|⟨a,g',h0,h1,h3⟩
 ·exact .inl h1
 ·have hu:=h1.end_
  rw [ha.len] at hu
  cases g' with
  | zero=>rw [run] at h3;cases h3
  | succ g' =>
   have hn:nextF toks a.2 (signsF j)=true:=next_yes (.inr (by rw [hu,k1];rfl)) (by rw [hu,t1];exact hs)
   rw [run,if_pos ⟨h0,hn⟩] at h3
   obtain ⟨b,hbr,h3⟩:=Option.bind_eq_some_iff.1 h3
   rw [if_neg h2] at h3
   obtain ⟨g2,hbr⟩:=part_tk hj hbr
   obtain ⟨gl,il,ul⟩:=leaf_ok hE (next_kind hn)
   have hlu:=gl.used
   simp only [lvL,PT.lv,Nat.add_zero] at hlu
   have hb1:=hb.does g2 nest _ b hbr (by rw [gl.fE,h0]) (by rw [gl.clause,h1.cl,hc]) (by rw [hlu,hu];exact hA.right.right.sp) (by
    rw [hlu,hu]
    have e:st.used+(la++(spP [sgnP s]++spP lb)).length=st.used+la.length+1+lb.length:=by rw [List.length_append,List.length_append,sp_len,sp_len];simp <;> omega
    rw [e] at hS
    exact hS)
   rcases hb1 with h4|⟨h40,h4⟩
   ·left
    have h5:=(nodeM_ext 10 [a.1,(leafM toks a.2).1,b.1] b.2).2.1 (by rw [h4];decide)
    exact loop_fault h3 (by rw [h5,h4])
   ·right
    have L3:=(((Lay.nil st).sub h1).leaf hE (next_kind hn)).sub h4
    obtain ⟨n1,n2⟩:=L3.1.node h40 10
    rw [← L3.2] at n1 n2
    have hnf:(nodeM 10 [a.1,(leafM toks a.2).1,b.1] b.2).2.fE=0:=by rw [show (nodeM 10 [a.1,(leafM toks a.2).1,b.1] b.2).2.fE=st.fE from n1.fE,hf]
    refine ⟨_,g',hnf,L3.1.res L3.2 (by simp [CE.pt]) ?_ hnf (fun _=>?_),h3⟩
    ·refine ⟨?_,h1.2.2.1,?_⟩
     ·rw [ha.len,t1];exact signs_bin j s hs
     ·have:=h4.2.2.1
      rw [gl.clause,h1.cl,hlu,hu] at this
      rw [ha.len];exact this
    ·exact h4.2.2.2 (by rw [hlu];omega)⟩
theorem Pars.down {toks:List Tok}{d:Nat}{fm:Bool}{l:List Pc}{c:CE}:∀ {k:Nat},k<9→Pars toks d fm l c (k+1)→Hd l (k+1)→Pars toks d fm l c k
 | 0,_,h,hd=>⟨h.len,fun g nest st r hr hf hc hA hS=>by
  obtain ⟨p,q,rfl,h0,h1,h2,h3⟩:=hd
  obtain ⟨k1,t1,u1⟩:=hA.head
  cases g with
  | zero=>rw [tk,run] at hr;cases hr
  | succ g =>
   rw [tk,run] at hr
   by_cases hd:d<nest
   ·have e:(deepM toks d nest st).fE=23:=by rw [deepM,if_pos hd,failM,if_pos hf]
    rw [if_pos (by rw [e];decide)] at hr
    injection hr with hr
    subst hr
    exact .inl e
   ·have e:deepM toks d nest st=st:=by rw [deepM,if_neg hd]
    rw [e,if_neg (by rw [hf];decide)] at hr
    have hF:∀ r,run toks d g (.formula nest) st=some r→Fin toks st r c:=fun r hr=>h.does g nest st r hr hf hc hA (hS.mono (by omega))
    have hno:∀ x,x∈[tLet,tIf,tAssert]→nextF toks st [x]=false:=fun x hx=>next_no (by
     rw [t1,List.mem_singleton]
     rintro e
     exact h1 (by omega) (by rw [e];exact hx))
    split at hr
    ·exact hF r hr
    rw [hno tLet (by decide),hno tIf (by decide),hno tAssert (by decide)] at hr
    simp only [Bool.false_eq_true,if_false] at hr
    exact hF r hr⟩
 | 1,_,h,_=>⟨h.len,fun g nest st r hr hf hc hA hS=>by
  cases g with
  | zero=>rw [tk,run] at hr;cases hr
  | succ g =>
   rw [tk,run] at hr
   obtain ⟨a,ha,hr⟩:=Option.bind_eq_some_iff.1 hr
   have h1:=h.does g nest st a ha hf hc hA (hS.mono (by omega))
   rw [if_neg] at hr
   ·injection hr with hr
    subst hr
    exact h1
   ·rintro ⟨q1,q2⟩
    rcases h1 with h1|h1
    ·rw [h1] at q1;cases q1
    ·have hu:=h1.2.end_
     rw [h.len] at hu
     rw [← hu] at hS
     rw [hS.no (by decide)] at q2
     cases q2⟩
 | 2,_,h,_=>(Pars.rows (j:=0) (by omega) h).stop (by omega)
 | 3,_,h,_=>(Pars.rows (j:=1) (by omega) h).stop (by omega)
 | 4,_,h,hd=>⟨h.len,fun g nest st r hr hf hc hA hS=>by
  obtain ⟨p,q,rfl,h0,h1,h2,h3⟩:=hd
  obtain ⟨k1,t1,u1⟩:=hA.head
  cases g with
  | zero=>rw [tk,run] at hr;cases hr
  | succ g =>
   rw [tk,run,if_neg] at hr
   ·exact h.does g nest st r hr hf hc hA (hS.mono (by omega))
   ·rintro ⟨-,q⟩
    have:=next_text q
    rw [t1,List.mem_singleton] at this
    exact h2 (by omega) this⟩
 | 5,_,h,_=>(Pars.rows (j:=2) (by omega) h).stop (by omega)
 | 6,_,h,_=>(Pars.rows (j:=3) (by omega) h).stop (by omega)
 | 7,_,h,_=>(Pars.rows (j:=4) (by omega) h).stop (by omega)
 | 8,_,h,hd=>⟨h.len,fun g nest st r hr hf hc hA hS=>by
  obtain ⟨p,q,rfl,h0,h1,h2,h3⟩:=hd
  obtain ⟨k1,t1,u1⟩:=hA.head
  cases g with
  | zero=>rw [tk,run] at hr;cases hr
  | succ g =>
   rw [tk,run,if_neg] at hr
   ·exact h.does g nest st r hr hf hc hA (hS.mono (by omega))
   ·rintro ⟨-,q⟩
    have:=next_text q
    rw [t1,List.mem_singleton] at this
    exact h3 (by omega) this⟩
 | k+9,hk,_,_=>absurd hk (by omega)
theorem Pars.to {toks:List Tok}{d:Nat}{fm:Bool}{l:List Pc}{c:CE}{k:Nat}(h:Pars toks d fm l c k)(hk:k≤9)(hd:Hd l k):∀ {j:Nat},j≤k→Pars toks d fm l c j:=by
 intro j hj
 obtain ⟨n,rfl⟩:∃ n,k=j+n:=⟨k - j,by omega⟩
 induction n with
 | zero=>exact h
 | succ n ih=>exact ih (Pars.down (by omega) h hd) (by omega) (hd.mono (by omega)) (by omega)
theorem must_yes {toks:List Tok}{st:PSt}{l:List (List UInt8)}(hf:st.fE=0)(hn:nextF toks st l=true):mustM toks l st=leafM toks st:=by unfold mustM;rw [if_pos ⟨hf,hn⟩]
theorem kind_yes {toks:List Tok}{st:PSt}{k:Nat}(hf:st.fE=0)(hn:kindAt toks st.used=k):kindM toks k st=leafM toks st:=by unfold kindM;rw [if_pos ⟨hf,hn⟩]
theorem node_fault {k:Int}{l:List Int}{st:PSt}(h:st.fE=23):(nodeM k l st).2.fE=23:=by rw [(nodeM_ext k l st).2.1 (by rw [h];decide),h]
theorem tk9 (n:Nat):tk 9 n=.atom n:=rfl
theorem Pars.num (toks:List Tok)(hE:EndOk toks)(d:Nat)(fm:Bool)(t:List UInt8):Pars toks d fm [numP t] .num 9:=⟨by simp [CE.pt,PT.lv,lvL],fun g nest st r hr hf hc hA hS=>by
 obtain ⟨k1,t1,u1⟩:=hA.head
 have hk:kindAt toks st.used=3:=k1
 cases g with
 | zero=>rw [tk9,run] at hr;cases hr
 | succ g =>
  rw [tk9,run,if_neg (by rw [hf];decide),if_pos (show (peekF toks st.used).kind=3 from hk)] at hr
  injection hr with hr
  subst hr
  have L:=(Lay.nil st).leaf hE (by rw [hk];decide)
  exact L.node 15 hf (by simp [CE.pt]) hk (by rw [L.used];simpa [lvL,PT.lv] using u1)⟩
theorem word_kind {t:List UInt8}(h:t∈keyL):(wordP t).kind=2:=by rw [wordP,if_pos h]
theorem Pars.truth (toks:List Tok)(hE:EndOk toks)(d:Nat)(fm:Bool)(t:List UInt8)(ht:t=tTrue∨t=tFalse):Pars toks d fm [wordP t] .truth 9:=⟨by simp [CE.pt,PT.lv,lvL],fun g nest st r hr hf hc hA hS=>by
 obtain ⟨k1,t1,u1⟩:=hA.head
 have hk:kindAt toks st.used=2:=by rw [k1];exact word_kind (by rcases ht with rfl|rfl <;> decide)
 have ht1:textAt toks st.used=t:=t1
 have hn:nextF toks st [tTrue,tFalse]=true:=next_yes (.inl hk) (by rw [ht1];rcases ht with rfl|rfl <;> decide)
 cases g with
 | zero=>rw [tk9,run] at hr;cases hr
 | succ g =>
  rw [tk9,run,if_neg (by rw [hf];decide),if_neg (by show ¬ kindAt toks st.used=3;rw [hk];decide),if_pos hn] at hr
  injection hr with hr
  subst hr
  have L:=(Lay.nil st).leaf hE (by rw [hk];decide)
  exact L.node 16 hf (by simp [CE.pt]) (by rw [CE.ok,ht1];exact ht) (by rw [L.used];simpa [lvL,PT.lv] using u1)⟩
theorem Pars.res (toks:List Tok)(hE:EndOk toks)(d:Nat):Pars toks d true [wordP tRes] .res 9:=⟨by simp [CE.pt,PT.lv,lvL],fun g nest st r hr hf hc hA hS=>by
 obtain ⟨k1,t1,u1⟩:=hA.head
 have hk:kindAt toks st.used=2:=by rw [k1];decide
 have ht1:textAt toks st.used=tRes:=t1
 have hn:nextF toks st [tTrue,tFalse]=false:=next_no (by rw [ht1];decide)
 have hn2:nextF toks st [tRes]=true:=next_yes (.inl hk) (by rw [ht1];decide)
 cases g with
 | zero=>rw [tk9,run] at hr;cases hr
 | succ g =>
  rw [tk9,run,if_neg (by rw [hf];decide),if_neg (by show ¬ kindAt toks st.used=3;rw [hk];decide),if_neg (by rw [hn];decide),if_pos ⟨hc,hn2⟩] at hr
  injection hr with hr
  subst hr
  have L:=(Lay.nil st).leaf hE (by rw [hk];decide)
  exact L.node 17 hf (by simp [CE.pt]) ⟨hc,ht1⟩ (by rw [L.used];simpa [lvL,PT.lv] using u1)⟩
theorem name_word {t:List UInt8}(h:nameB t=true):(wordP t).kind=1∧(wordP t).text=t:=by rw [(name_piece h).1];exact ⟨rfl,rfl⟩
theorem atom_name {toks:List Tok}{d g nest:Nat}{st:PSt}{r:Int × PSt}(h:run toks d (g+1) (.atom nest) st=some r)(hf:st.fE=0)(hk:kindAt toks st.used=1):run toks d g (.name nest) st=some r:=by
 have hno:∀ l,nextF toks st l=false:=fun l=>by
  rw [← Bool.not_eq_true]
  intro q
  simp only [nextF,Bool.and_eq_true,Bool.or_eq_true,beq_iff_eq] at q
  rcases q.1 with q|q <;> rw [show (peekF toks st.used).kind=1 from hk] at q <;> cases q
 rw [run,if_neg (by rw [hf];decide),if_neg (by show ¬ kindAt toks st.used=3;rw [hk];decide),if_neg (by rw [hno];decide),if_neg (by rw [hno];simp),if_neg (by rw [hno];decide),if_pos (show (peekF toks st.used).kind=1 from hk)] at h
 exact h
theorem Pars.nam (toks:List Tok)(hE:EndOk toks)(d:Nat)(fm:Bool)(t:List UInt8)(ht:nameB t=true):Pars toks d fm [wordP t] .nam 9:=⟨by simp [CE.pt,PT.lv,lvL],fun g nest st r hr hf hc hA hS=>by
 obtain ⟨k1,t1,u1⟩:=hA.head
 rw [(name_word ht).1] at k1
 cases g with
 | zero=>rw [tk9,run] at hr;cases hr
 | succ g =>
  have hr:=atom_name hr hf k1
  cases g with
  | zero=>rw [run] at hr;cases hr
  | succ g =>
   have L:=(Lay.nil st).leaf hE (by rw [k1];decide)
   have hu:=L.used
   simp only [lvL,PT.lv,List.nil_append,Nat.add_zero] at hu
   have hn:nextF toks (leafM toks st).2 [[46],[40]]=false:=Stop.no (L:=contL 9) (by rw [hu];exact hS) (by decide)
   rw [run,if_pos (.inr hn)] at hr
   injection hr with hr
   subst hr
   exact L.node 14 hf (by simp [CE.pt]) k1 (by rw [hu];exact u1)⟩
theorem stop_text {toks:List Tok}{u:Nat}{t:List UInt8}(h:textAt toks u=t)(ht:t ∉ contL 0):Stop toks u (contL 0):=fun _ q=>ht (by rw [← h];exact q)
theorem Pars.group {toks:List Tok}(hE:EndOk toks){d:Nat}{fm:Bool}{l:List Pc}{c:CE}(h:Pars toks d fm l c 0):Pars toks d fm (sgnP [40] :: (l++[sgnP [41]])) (.group c) 9:=⟨by
 rw [CE.pt,PT.lv,lvL,lvL,lvL,lvL,PT.lv,h.len];simp <;> omega,fun g nest st r hr hf hc hA hS=>by
 obtain ⟨k1,t1,u1⟩:=hA.head
 have hk:kindAt toks st.used=4:=k1
 have ht:textAt toks st.used=[40]:=t1
 have hB:=hA.tail
 have hC:=hB.right
 obtain ⟨k2,t2,u2⟩:=hC.head
 cases g with
 | zero=>rw [tk9,run] at hr;cases hr
 | succ g =>
  have hno:∀ x,x≠[40]→nextF toks st [x]=false:=fun x hx=>next_no (by rw [ht,List.mem_singleton];exact fun q=>hx q.symm)
  have hn:nextF toks st [[40]]=true:=next_yes (.inr hk) (by rw [ht];decide)
  have hn1:nextF toks st [tTrue,tFalse]=false:=next_no (by rw [ht];decide)
  rw [tk9,run,if_neg (by rw [hf];decide),if_neg (by show ¬ kindAt toks st.used=3;rw [hk];decide),if_neg (by rw [hn1];decide),if_neg (by rw [hno tRes (by decide)];simp),if_pos hn] at hr
  obtain ⟨b,hb,hr⟩:=Option.bind_eq_some_iff.1 hr
  injection hr with hr
  subst hr
  have L:=(Lay.nil st).leaf hE (by rw [hk];decide)
  have hu:=L.used
  simp only [lvL,PT.lv,List.nil_append,Nat.add_zero] at hu
  have h1:=h.does g (nest+1) _ b hb (by rw [L.fE,hf]) (by rw [L.cl,hc]) (by rw [hu];exact hB.left) (by rw [hu];exact stop_text t2 (by decide))
  rcases h1 with h1|⟨h0,h1⟩
  ·left
   have:=(mustM_ext toks [[41]] b.2).2.1 (by rw [h1];decide)
   exact node_fault (by rw [this,h1])
  ·have L2:=L.sub h1
   have hu2:=h1.end_
   rw [hu,h.len] at hu2
   have hm:mustM toks [[41]] b.2=leafM toks b.2:=must_yes h0 (next_yes (.inr (by rw [hu2];exact k2)) (by rw [hu2,t2];decide))
   rw [hm]
   have L3:=L2.leaf hE (by rw [hu2,k2];decide)
   refine L3.node 12 hf (by simp [CE.pt]) ⟨ht,?_⟩ ?_
   ·have:=h1.2.2.1
    rwa [L.cl,hu] at this
   ·rw [L3.used]
    simp only [lvL,lvL_append,PT.lv,List.nil_append]
    rw [h.len]
    omega⟩
theorem deep_case (toks:List Tok)(d n:Nat){st:PSt}(hf:st.fE=0):(deepM toks d n st).fE=23∨deepM toks d n st=st:=by
 unfold deepM
 split
 ·left;rw [failM,if_pos hf]
 ·exact .inr rfl
theorem Pars.cmp {toks:List Tok}(hE:EndOk toks){d:Nat}{fm:Bool}{la lb:List Pc}{ca cb:CE}{s:List UInt8}(ha:Pars toks d fm la ca 6)(hb:Pars toks d fm lb cb 6)(hs:s∈signsF 2) :
  Pars toks d fm (la++(spP [sgnP s]++spP lb)) (.bin ca cb) 5:=⟨by
 rw [CE.pt,PT.lv,lvL,lvL,lvL,lvL,PT.lv,ha.len,hb.len,List.length_append,List.length_append,sp_len,sp_len];simp <;> omega,fun g nest st r hr hf hc hA hS=>by
 obtain ⟨k1,t1,u1⟩:=(hA.right.left.sp).head
 have hs2:=signs_cont 2 (by omega) s hs
 have R:=Pars.rows (j:=2) (by omega) ha
 rcases R.does g nest st r hr hf hc hA.left (fun _ q=>hs2.2 (by rw [t1] at q;exact q)) with h1|⟨a,g',h0,h1,h3⟩
 ·exact .inl h1
 ·have hu:=h1.end_
  rw [ha.len] at hu
  cases g' with
  | zero=>rw [run] at h3;cases h3
  | succ g' =>
   have hn:nextF toks a.2 (signsF 2)=true:=next_yes (.inr (by rw [hu,k1];rfl)) (by rw [hu,t1];exact hs)
   rw [run,if_pos ⟨h0,hn⟩] at h3
   obtain ⟨b,hbr,h3⟩:=Option.bind_eq_some_iff.1 h3
   rw [if_pos rfl] at h3
   injection h3 with h3
   subst h3
   obtain ⟨g2,hbr⟩:=part_tk (by omega) hbr
   have L1:=(Lay.nil st).sub h1
   have L2:=L1.leaf hE (next_kind hn)
   have hu2:=L2.used
   simp only [List.nil_append,List.cons_append,lvL,PT.lv,Nat.add_zero] at hu2
   rw [ha.len] at hu2
   have hb1:=hb.does g2 nest _ b hbr (by rw [L2.fE,hf]) (by rw [L2.cl,hc]) (by rw [hu2];exact hA.right.right.sp) (by
    rw [hu2]
    have e:st.used+(la++(spP [sgnP s]++spP lb)).length=st.used+(la.length+1)+lb.length:=by rw [List.length_append,List.length_append,sp_len,sp_len];simp <;> omega
    rw [e] at hS
    exact hS.mono (by omega))
   rcases hb1 with h4|⟨h40,h4⟩
   ·exact .inl (node_fault h4)
   ·have L3:=L2.sub h4
    refine L3.node 10 hf (by simp [CE.pt]) ⟨?_,h1.2.2.1,?_⟩ (h4.2.2.2 (by rw [hu2];omega))
    ·rw [ha.len,t1];exact signs_bin 2 s hs
    ·have:=h4.2.2.1
     rw [L2.cl,hu2] at this
     rw [ha.len];exact this⟩
theorem Pars.imp {toks:List Tok}(hE:EndOk toks){d:Nat}{fm:Bool}{la lb:List Pc}{ca cb:CE}(ha:Pars toks d fm la ca 2)(hb:Pars toks d fm lb cb 1) :
  Pars toks d fm (la++(spP [sgnP [61,62]]++spP lb)) (.bin ca cb) 1:=⟨by
 rw [CE.pt,PT.lv,lvL,lvL,lvL,lvL,PT.lv,ha.len,hb.len,List.length_append,List.length_append,sp_len,sp_len];simp <;> omega,fun g nest st r hr hf hc hA hS=>by
 obtain ⟨k1,t1,u1⟩:=(hA.right.left.sp).head
 cases g with
 | zero=>rw [tk,run] at hr;cases hr
 | succ g =>
  rw [tk,run] at hr
  obtain ⟨a,har,hr⟩:=Option.bind_eq_some_iff.1 hr
  rcases ha.does g nest st a har hf hc hA.left (fun _ q=>by rw [t1] at q;exact absurd q (by decide)) with h1|⟨h0,h1⟩
  ·rw [if_neg (by rintro ⟨q,-⟩;rw [h1] at q;cases q)] at hr
   injection hr with hr
   subst hr
   exact .inl h1
  ·have hu:=h1.end_
   rw [ha.len] at hu
   have hn:nextF toks a.2 [[61,62]]=true:=next_yes (.inr (by rw [hu,k1];rfl)) (by rw [hu,t1];decide)
   rw [if_pos ⟨h0,hn⟩] at hr
   have L1:=(Lay.nil st).sub h1
   have L2:=L1.leaf hE (next_kind hn)
   have hu2:=L2.used
   simp only [List.nil_append,List.cons_append,lvL,PT.lv,Nat.add_zero] at hu2
   rw [ha.len] at hu2
   rcases deep_case toks d (nest+1) (st:=(leafM toks a.2).2) (by rw [L2.fE,hf]) with e|e
   ·rw [if_pos (by rw [e];decide)] at hr
    injection hr with hr
    subst hr
    exact .inl e
   ·rw [e,if_neg (by rw [L2.fE,hf];decide)] at hr
    obtain ⟨b,hbr,hr⟩:=Option.bind_eq_some_iff.1 hr
    injection hr with hr
    subst hr
    have hb1:=hb.does g (nest+1) _ b hbr (by rw [L2.fE,hf]) (by rw [L2.cl,hc]) (by rw [hu2];exact hA.right.right.sp) (by
     rw [hu2]
     have e:st.used+(la++(spP [sgnP [61,62]]++spP lb)).length=st.used+(la.length+1)+lb.length:=by rw [List.length_append,List.length_append,sp_len,sp_len];simp <;> omega
     rw [e] at hS
     exact hS)
    rcases hb1 with h4|⟨h40,h4⟩
    ·exact .inl (node_fault h4)
    ·have L3:=L2.sub h4
     refine L3.node 10 hf (by simp [CE.pt]) ⟨?_,h1.2.2.1,?_⟩ (h4.2.2.2 (by rw [hu2];omega))
     ·rw [ha.len,t1];show [61,62]∈binL;decide
     ·have:=h4.2.2.1
      rw [L2.cl,hu2] at this
      rw [ha.len];exact this⟩
theorem Pars.un {toks:List Tok}(hE:EndOk toks){d:Nat}{fm:Bool}{p:Pc}{l:List Pc}{c:CE}{k:Nat}(hp:(k=4∧p=wordP tNot)∨(k=8∧p=sgnP [45]))(h:Pars toks d fm l c k):Pars toks d fm (p :: l) (.un c) k:=⟨by
 rw [CE.pt,PT.lv,lvL,lvL,lvL,PT.lv,h.len];simp <;> omega,fun g nest st r hr hf hc hA hS=>by
 obtain ⟨k1,t1,u1⟩:=hA.head
 cases g with
 | zero=>rcases hp with ⟨rfl,-⟩|⟨rfl,-⟩ <;> (rw [tk,run] at hr;cases hr)
 | succ g =>
  have hne:kindAt toks st.used≠5:=by rcases hp with ⟨-,rfl⟩|⟨-,rfl⟩ <;> (rw [k1];decide)
  have L:=(Lay.nil st).leaf hE hne
  have hu:=L.used
  simp only [lvL,PT.lv,List.nil_append,Nat.add_zero] at hu
  have key:(deepM toks d (nest+1) (leafM toks st).2).fE≠0∧r=(0,deepM toks d (nest+1) (leafM toks st).2)∨∃ b,deepM toks d (nest+1) (leafM toks st).2=(leafM toks st).2∧run toks d g (tk k (nest+1)) (leafM toks st).2=some b∧r=nodeM 11 [(leafM toks st).1,b.1] b.2:=by
   rcases hp with ⟨rfl,rfl⟩|⟨rfl,rfl⟩
   ·have hn:nextF toks st [tNot]=true:=next_yes (.inl k1) (by rw [t1];decide)
    rw [tk,run,if_pos ⟨hf,hn⟩] at hr
    rcases deep_case toks d (nest+1) (st:=(leafM toks st).2) (by rw [L.fE,hf]) with e|e
    ·rw [if_pos (by rw [e];decide)] at hr
     injection hr with hr
     exact .inl ⟨by rw [e];decide,hr.symm⟩
    ·rw [e,if_neg (by rw [L.fE,hf];decide)] at hr
     obtain ⟨b,hb,hr⟩:=Option.bind_eq_some_iff.1 hr
     injection hr with hr
     exact .inr ⟨b,e,hb,hr.symm⟩
   ·have hn:nextF toks st [[45]]=true:=next_yes (.inr k1) (by rw [t1];decide)
    rw [tk,run,if_pos ⟨hf,hn⟩] at hr
    rcases deep_case toks d (nest+1) (st:=(leafM toks st).2) (by rw [L.fE,hf]) with e|e
    ·rw [if_pos (by rw [e];decide)] at hr
     injection hr with hr
     exact .inl ⟨by rw [e];decide,hr.symm⟩
    ·rw [e,if_neg (by rw [L.fE,hf];decide)] at hr
     obtain ⟨b,hb,hr⟩:=Option.bind_eq_some_iff.1 hr
     injection hr with hr
     exact .inr ⟨b,e,hb,hr.symm⟩
  rcases key with ⟨e,rfl⟩|⟨b,e,hb,rfl⟩
  ·rcases deep_case toks d (nest+1) (st:=(leafM toks st).2) (by rw [L.fE,hf]) with q|q
   ·exact .inl q
   ·rw [q,L.fE] at e;exact absurd hf e
  ·have e2:st.used+(p :: l).length=st.used+1+l.length:=by rw [List.length_cons];omega
   have h1:=h.does g (nest+1) _ b hb (by rw [L.fE,hf]) (by rw [L.cl,hc]) (by rw [hu];exact hA.tail) (by rw [hu,← e2];exact hS)
   rcases h1 with h1|⟨h0,h1⟩
   ·exact .inl (node_fault h1)
   ·have L2:=L.sub h1
    refine L2.node 11 hf (by simp [CE.pt]) ⟨?_,?_⟩ (h1.2.2.2 (by rw [hu];omega))
    ·rw [t1];rcases hp with ⟨-,rfl⟩|⟨-,rfl⟩
     ·exact .inl rfl
     ·exact .inr rfl
    ·have:=h1.2.2.1
     rwa [L.cl,hu] at this⟩
end Go.Proofs.YtdednahplodojaaGreatDoor
