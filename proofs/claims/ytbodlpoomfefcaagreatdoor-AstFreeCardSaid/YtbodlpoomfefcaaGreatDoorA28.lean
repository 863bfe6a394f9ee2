/- Walks and plain laws: AstW1, OfL, ProgItems, ProgMem. -/
import Derived.Test.YtbodlpoomfefcaaGreatDoorA27
set_option maxHeartbeats 16000000
set_option maxRecDepth 100000
set_option linter.unusedVariables false
set_option linter.unusedSimpArgs false
namespace Go.Proofs.YtbodlpoomfefcaaGreatDoor
open Go.RowKit Go
theorem int_beq {a b:Nat}(h:a=b):((a:Int) == (b:Int))=true:=by rw [h];exact beq_self_eq_true _
theorem anchor_any (w:World):Calls Tryz.prog 10 #[] w fun e w'=>e=.returned (.bool true)∧Below w.heap.size w w':=by
 obtain ⟨toks,nodes,hform,F,hd,hsz,hat⟩:∃ toks nodes,formF (ByteArray.mk #[40,120,41,43,49]).data.toList 9=.good toks nodes∧FGood (ByteArray.mk #[40,120,41,43,49]).data.toList toks nodes exC∧(exC.pe toks 0).dump=[91,55,32,91,51,32,120,93,32,91,49,32,49,93,93]∧(exC.pe toks 0).size=3∧(exC.pe toks 0).at_=3:=⟨exF,_,exF_form,ex_good,ex_dump,ex_size,by rw [ex_pe];rfl⟩
 have HF:=Lib.hid (fun W=>formula_any ⟨#[40,120,41,43,49]⟩ 9 W (by omega) (by omega) (by decide))
 rw [hform] at HF
 have hfit:=F.fits
 have HFo:=Lib.hid (fun B at_ ct an cn W hT hB=>formulaOf_yes B at_ ct an cn ⟨#[40,120,41,43,49]⟩ toks nodes exC W hT hB F)
 generalize exC.pe toks 0=x at HFo hd hsz hat hfit
 have HDX:Hid (∀ (B:Nat) (am:Option Addr) (wn cm:Nat) (ae:Option Addr) (ce:Nat) (W:World),EAt XA (fun b=>b<B) W (.slice am wn cm) (.slice ae x.kids.length ce) x→B≤W.heap.size→Calls Tryz.prog 37 #[.agg #[.int .i64 x.op,.string ⟨x.name.toArray⟩,.string ⟨x.module.toArray⟩,.bool (decide (x.num<0)),.slice am wn cm,.bool x.yes,.slice ae x.kids.length ce,.int .i64 x.at_]] W fun e w'=>e=.returned (.string ⟨#[91,55,32,91,51,32,120,93,32,91,49,32,49,93,93]⟩)∧Below W.heap.size W w'):=Lib.hid (fun B am wn cm ae ce W hE hB=>(dumpX_any x hfit B am wn cm ae ce W hE hB (by rw [hd];decide) (by omega)).mono fun e w' h=>⟨by rw [h.1,hd],h.2⟩)
 have HSX:=Lib.hid (fun B am wn cm ae ce W hE hB=>size_any (SizeOf.sizeOf x+1) x (by omega) B am wn cm ae ce W hE hB (by omega))
 have h3a:((x.at_:Int) == 3)=true:=int_beq hat
 have h3s:((x.size:Int) == 3)=true:=int_beq hsz
 clear hform hfit hd hsz hat F
 go_enter Tryz.func10,Tryz.ntmps10
 go_upto_region 2 with (go_at_call 36;refine (HF.out _).mono ?_;rintro e w1 ⟨hb1,at_,ct,an,cn,rfl,hty⟩)
 have hb2:=(below_new w1 (.cells #[.slice at_ toks.length ct,.slice an nodes.length cn] 25)).alloc (by simp) (.cells #[.int .i64 0,.int .i64 0] 44)
 have hT:=(hty.at).below hb2
 have e1:=(Lib.alloc_old (w1.alloc (.cells #[.slice at_ toks.length ct,.slice an nodes.length cn] 25)) (.cells #[.int .i64 0,.int .i64 0] 44) w1.heap.size (by simp)).trans (heap_alloc_new w1 (.cells #[.slice at_ toks.length ct,.slice an nodes.length cn] 25))
 have hbw:=hb1.trans (hb2.mono hb1.size)
 have hs2:=hb2.size
 clear hty hb1 hb2 HF
 generalize (w1.alloc _).alloc _=w3 at hT e1 hbw hs2 ⊢
 obtain ⟨c0,c1⟩:=tree_cells e1
 have HFx:=Lib.hid (HFo.out w1.heap.size at_ ct an cn w3 hT hs2)
 clear HFo hT e1
 go_upto_region 3 with (go_at_call 13;refine HFx.out.mono ?_;rintro e w4 ⟨am,wn,cm,ae,ce,rfl,hx4,hb4⟩)
 have hb5:=(hb4.alloc hb4.size (.cells (boxA x.op ⟨x.name.toArray⟩ ⟨x.module.toArray⟩ (decide (x.num<0)) (.slice am wn cm) x.yes (.slice ae x.kids.length ce) x.at_) 40))
 have hbox:=heap_alloc_new w4 (.cells (boxA x.op ⟨x.name.toArray⟩ ⟨x.module.toArray⟩ (decide (x.num<0)) (.slice am wn cm) x.yes (.slice ae x.kids.length ce) x.at_) 40)
 have hx5:EAt XA (fun b=>b<w4.heap.size) (w4.alloc (.cells (boxA x.op ⟨x.name.toArray⟩ ⟨x.module.toArray⟩ (decide (x.num<0)) (.slice am wn cm) x.yes (.slice ae x.kids.length ce) x.at_) 40)) (.slice am wn cm) (.slice ae x.kids.length ce) x:=(hx4.imp (fun b _ h=>h)).frame ⟨by simp,fun b _ hb=>Lib.alloc_old _ _ _ hb⟩
 have hs5:w4.heap.size≤(w4.alloc (.cells (boxA x.op ⟨x.name.toArray⟩ ⟨x.module.toArray⟩ (decide (x.num<0)) (.slice am wn cm) x.yes (.slice ae x.kids.length ce) x.at_) 40)).heap.size:=by simp
 have hbw5:=hbw.trans (hb5.mono hbw.size)
 clear hx4 hb4 hb5 hbw HFx c0 c1
 change Code.wp _ _ _ _ (w4.alloc (.cells (boxA x.op ⟨x.name.toArray⟩ ⟨x.module.toArray⟩ (decide (x.num<0)) (.slice am wn cm) x.yes (.slice ae x.kids.length ce) x.at_) 40))
 generalize hbs:w4.heap.size=bs at hbox hx5 hs5 ⊢
 clear hbs
 generalize w4.alloc _=w5 at hbox hx5 hs5 hbw5 ⊢
 obtain ⟨y0,y1,y2,y3,y4,y5,y6,y7⟩:=boxA_cells hbox
 have HD5:=Lib.hid (HDX.out bs am wn cm ae ce w5 hx5 hs5)
 have HE5:=Lib.hid hx5
 have HB5:=Lib.hid hbox
 clear hx5 hbox HDX
 go_wp2_with (first|(go_at_call 37;refine HD5.out.mono ?_;rintro e w6 ⟨rfl,hb6⟩;have hbox6:=(hb6.block bs (Array.getElem?_eq_some_iff.1 HB5.out).1).trans HB5.out;obtain ⟨z0,z1,z2,z3,z4,z5,z6,z7⟩:=boxA_cells hbox6;have HS6:=Lib.hid (HSX.out bs am wn cm ae ce w6 (HE5.out.frame (Alk.of hb6)) (Nat.le_trans hs5 hb6.size)))|(go_at_call 38;refine HS6.out.mono ?_;rintro e w7 ⟨rfl,hb7⟩))
 go_ret
 exact ⟨rfl,(hbw5.trans (hb6.mono hbw5.size)).trans (hb7.mono (Nat.le_trans hbw5.size hb6.size))⟩
end Go.Proofs.YtbodlpoomfefcaaGreatDoor

namespace Go.Proofs.YtbodlpoomfefcaaGreatDoor
theorem repL_at {nodes:List Nd}:∀ (l:List PT) (ks:List Int) (u:Nat),RepL nodes ks u l→ks.length=l.length∧∀ j,(h1:j<ks.length)→(h2:j<l.length)→Rep nodes ks[j] (u+lvL (l.take j)) l[j]
 | [],ks,u,h=>by
  rw [RepL] at h
  subst h
  exact ⟨rfl,fun j h1=>absurd h1 (by simp)⟩
 | i :: l,ks,u,h=>by
  rw [RepL] at h
  obtain ⟨k,ks',rfl,h1,h2⟩:=h
  obtain ⟨h3,h4⟩:=repL_at l ks' _ h2
  refine ⟨by simp [h3],fun j q1 q2=>?_⟩
  cases j with
  | zero=>simpa [lvL] using h1
  | succ j =>
   have:=h4 j (by simpa using q1) (by simpa using q2)
   rw [List.take_succ_cons,lvL,← Nat.add_assoc]
   exact this
theorem lvL_take:∀ (l:List PT) (j:Nat) (h:j<l.length),lvL (l.take j)+l[j].lv≤lvL l
 | [],j,h=>absurd h (by simp)
 | i :: l,0,h=>by simp [lvL]
 | i :: l,j+1,h=>by
  have:=lvL_take l j (by simpa using h)
  rw [List.take_succ_cons,lvL,lvL]
  simp only [List.getElem_cons_succ]
  omega
theorem impsPP_get (toks:List Tok):∀ (n u j:Nat) (h:j<(impsPP toks u n).length),(impsPP toks u n)[j]=(textAt toks (u+3 * j+1),placeAt toks (u+3 * j+1))
 | 0,u,j,h=>absurd h (by simp [impsPP])
 | n+1,u,0,h=>rfl
 | n+1,u,j+1,h=>by
  have:=impsPP_get toks n (u+3) j (by simpa [impsPP] using h)
  simp only [impsPP,List.getElem_cons_succ,this]
  rw [show u+3+3 * j+1=u+3 * (j+1)+1 by omega]
theorem defsDD_get (toks:List Tok):∀ (l:List DfS) (u j:Nat) (h:j<l.length) (h2:j<(defsDD toks u l).length),(defsDD toks u l)[j]=l[j].dd toks (u+lvL ((l.take j).map DfS.pt))
 | [],u,j,h,_=>absurd h (by simp)
 | d :: l,u,0,h,_=>by simp [defsDD,lvL]
 | d :: l,u,j+1,h,h2=>by
  have:=defsDD_get toks l (u+d.pt.lv) j (by simpa using h) (by simpa [defsDD] using h2)
  simp only [defsDD,List.getElem_cons_succ,this,List.take_succ_cons,List.map_cons,lvL,Nat.add_assoc]
theorem defsOk_get {toks:List Tok}:∀ (l:List DfS) (u j:Nat) (h:j<l.length),defsOk toks u l→l[j].ok toks (u+lvL ((l.take j).map DfS.pt))
 | [],u,j,h,_=>absurd h (by simp)
 | d :: l,u,0,h,ho=>by simpa [lvL] using ho.1
 | d :: l,u,j+1,h,ho=>by
  have:=defsOk_get l (u+d.pt.lv) j (by simpa using h) ho.2
  simpa [lvL,Nat.add_assoc] using this
theorem PgS.kid_imp (p:PgS)(j:Nat)(h:j<p.imps):∃ h2:j<p.kids.length,p.kids[j]=impPT∧lvL (p.kids.take j)=3 * j:=by
 have h2:j<p.kids.length:=by simp only [PgS.kids,List.length_append,List.length_replicate];omega
 refine ⟨h2,?_,?_⟩
 ·simp only [PgS.kids]
  rw [List.getElem_append_left (by simpa using h),List.getElem_replicate]
 ·simp only [PgS.kids]
  rw [List.take_append_of_le_length (by simp;omega),List.take_replicate,imps_lv,Nat.min_eq_left (by omega)]
theorem PgS.kid_def (p:PgS)(j:Nat)(h:j<p.defs.length):∃ h2:p.imps+j<p.kids.length,p.kids[p.imps+j]=p.defs[j].pt∧lvL (p.kids.take (p.imps+j))=3 * p.imps+lvL ((p.defs.take j).map DfS.pt):=by
 have h2:p.imps+j<p.kids.length:=by simp only [PgS.kids,List.length_append,List.length_replicate,List.length_map];omega
 refine ⟨h2,?_,?_⟩
 ·simp only [PgS.kids]
  rw [List.getElem_append_right (by simp),List.getElem_append_left (by simp;omega)]
  simp
 ·simp only [PgS.kids]
  rw [List.take_append,List.take_of_length_le (by simp),lvL_append,imps_lv,List.length_replicate,Nat.add_sub_cancel_left,List.take_append_of_le_length (by simp;omega),List.map_take]
theorem PgS.kid_end (p:PgS):∃ h2:p.imps+p.defs.length<p.kids.length,p.kids[p.imps+p.defs.length]=.leaf:=by
 have h2:p.imps+p.defs.length<p.kids.length:=by simp only [PgS.kids,List.length_append,List.length_replicate,List.length_map,List.length_singleton];omega
 refine ⟨h2,?_⟩
 simp only [PgS.kids]
 rw [List.getElem_append_right (by simp),List.getElem_append_right (by simp)]
 simp
theorem PgS.kids_len (p:PgS):p.kids.length=p.imps+p.defs.length+1:=by
 simp only [PgS.kids,List.length_append,List.length_replicate,List.length_map,List.length_singleton]
 omega
inductive It where
 | leaf
 | expr (e:CE)
 | par (t:TyS)
 | base
 | cl (e:CE)
def It.pt:It→PT
 | .leaf=>.leaf
 | .expr e=>e.pt
 | .par t=>t.par
 | .base=>.node 5 [.leaf]
 | .cl e=>.node 6 [.leaf,e.pt,.leaf]
structure TyA where
 base:Nat
 clause:List PE
 bare:Int
def It.step (toks:List Tok)(u:Nat):It→TyA→TyA
 | .base,a=>⟨if textAt toks u=tBool then 2 else 1,a.clause,((placeAt toks u+(textAt toks u).length:Nat):Int)⟩
 | .cl e,a=>⟨a.base,[e.pe toks (u+1)],-1⟩
 | _,a=>a
def typA (toks:List Tok):Nat→List It→TyA→TyA
 | _,[],a=>a
 | u,i :: l,a=>typA toks (u+i.pt.lv) l (i.step toks u a)
theorem typA_append (toks:List Tok):∀ (l k:List It) (u:Nat) (a:TyA),typA toks u (l++k) a=typA toks (u+lvL (l.map It.pt)) k (typA toks u l a)
 | [],k,u,a=>by simp [typA,lvL]
 | i :: l,k,u,a=>by
  rw [List.cons_append,typA,typA_append toks l k,typA,List.map_cons,lvL,Nat.add_assoc]
def parA (toks:List Tok):Nat→List It→List FF
 | _,[]=>[]
 | u,.par t :: l=>t.parFF toks u :: parA toks (u+(It.par t).pt.lv) l
 | u,i :: l=>parA toks (u+i.pt.lv) l
theorem parA_append (toks:List Tok):∀ (l k:List It) (u:Nat),parA toks u (l++k)=parA toks u l++parA toks (u+lvL (l.map It.pt)) k
 | [],k,u=>by simp [parA,lvL]
 | .par t :: l,k,u=>by
  rw [List.cons_append,parA,parA_append toks l k,parA,List.map_cons,lvL,Nat.add_assoc,List.cons_append]
 | .leaf :: l,k,u=>by
  rw [List.cons_append,parA,parA_append toks l k,parA,List.map_cons,lvL,Nat.add_assoc] <;> simp
 | .base :: l,k,u=>by
  rw [List.cons_append,parA,parA_append toks l k,parA,List.map_cons,lvL,Nat.add_assoc] <;> simp
 | .expr e :: l,k,u=>by
  rw [List.cons_append,parA,parA_append toks l k,parA,List.map_cons,lvL,Nat.add_assoc] <;> simp
 | .cl e :: l,k,u=>by
  rw [List.cons_append,parA,parA_append toks l k,parA,List.map_cons,lvL,Nat.add_assoc] <;> simp
def TyS.its (t:TyS):List It:=[.leaf,.base]++(match t.cl with|none=>[]|some e=>[.cl e])
theorem TyS.its_pt (t:TyS):t.its.map It.pt=t.pts:=by
 unfold TyS.its TyS.pts
 cases t.cl <;> rfl
def TyS.parIts (t:TyS):List It:=.leaf :: t.its
theorem TyS.parIts_pt (t:TyS):t.par=.node 4 (t.parIts.map It.pt):=by
 rw [TyS.par,TyS.parIts,List.map_cons,t.its_pt]
 rfl
def sepIts:List TyS→List It
 | []=>[]
 | t :: l=>.par t :: (match l with | []=>[]|_ :: _=>.leaf :: sepIts l)
theorem sepIts_pt:∀ l:List TyS,(sepIts l).map It.pt=sepPT (l.map TyS.par)
 | []=>rfl
 | [t]=>rfl
 | t :: s :: l=>by
  have:=sepIts_pt (s :: l)
  rw [show sepIts (t :: s :: l)=.par t :: .leaf :: sepIts (s :: l) from by rw [sepIts],List.map_cons,List.map_cons,this]
  show _=sepPT (t.par :: s.par :: l.map TyS.par)
  rw [sepPT_two]
  rfl
def DfS.leadIts (d:DfS):List It:=if d.pub=true then [.leaf] else []
def DfS.its (d:DfS):List It:=d.leadIts++([.leaf,.leaf,.leaf]++(sepIts d.pars++([.leaf]++(d.ty.its++[.leaf,.expr d.body,.leaf]))))
theorem DfS.its_pt (d:DfS):d.pt=.node 3 (d.its.map It.pt):=by
 have h:d.leadIts.map It.pt=d.lead:=by unfold DfS.leadIts DfS.lead;split <;> rfl
 rw [DfS.pt,DfS.kids,DfS.its]
 simp only [List.map_append,h,sepIts_pt,d.ty.its_pt,List.map_cons,List.map_nil,It.pt]
theorem typA_none (toks:List Tok):∀ (l:List It) (u:Nat) (a:TyA),(∀ i∈l,(i matches .leaf)∨(i matches .par _)∨(i matches .expr _))→typA toks u l a=a
 | [],u,a,_=>rfl
 | i :: l,u,a,h=>by
  rw [typA,typA_none toks l _ _ fun x hx=>h x (List.mem_cons_of_mem _ hx)]
  have:=h i List.mem_cons_self
  cases i <;> simp_all [It.step]
theorem typA_its (toks:List Tok)(t:TyS)(u:Nat)(name:List UInt8)(at_:Nat){b0:Nat}{y0:Int}:typA toks u t.its ⟨b0,[],y0⟩=⟨(t.ff toks u name at_).base,(t.ff toks u name at_).clause,(t.ff toks u name at_).bare⟩:=by
 unfold TyS.its TyS.ff
 cases t.cl with
 | none=>simp [typA,It.step,It.pt,PT.lv]
 | some e=>simp [typA,It.step,It.pt,PT.lv,lvL]
theorem sep_none:∀ l:List TyS,∀ i∈sepIts l,(i matches .leaf)∨(i matches .par _)∨(i matches .expr _)
 | [],i,h=>by rw [sepIts] at h;cases h
 | [t],i,h=>by
  rw [sepIts,List.mem_singleton] at h
  subst h
  exact .inr (.inl rfl)
 | t :: s :: l,i,h=>by
  rw [show sepIts (t :: s :: l)=.par t :: .leaf :: sepIts (s :: l) from by rw [sepIts],List.mem_cons,List.mem_cons] at h
  rcases h with rfl|rfl|h
  ·exact .inr (.inl rfl)
  ·exact .inl rfl
  ·exact sep_none (s :: l) i h
theorem TyS.par_typ (toks:List Tok)(t:TyS)(u:Nat){b0:Nat}{y0:Int}:typA toks u t.parIts ⟨b0,[],y0⟩=⟨(t.parFF toks u).base,(t.parFF toks u).clause,(t.parFF toks u).bare⟩:=by
 rw [TyS.parIts,typA,TyS.parFF]
 exact typA_its toks t (u+1) _ _
theorem DfS.typ (toks:List Tok)(d:DfS)(u:Nat){b0:Nat}{y0:Int}:typA toks u d.its ⟨b0,[],y0⟩=⟨(d.dd toks u).res.base,(d.dd toks u).res.clause,(d.dd toks u).res.bare⟩:=by
 have h1:∀ i∈d.leadIts,(i matches .leaf)∨(i matches .par _)∨(i matches .expr _):=fun i h=>by
  unfold DfS.leadIts at h
  split at h
  ·rw [List.mem_singleton] at h;subst h;exact .inl rfl
  ·cases h
 have h2:∀ i∈[It.leaf,.leaf,.leaf],(i matches .leaf)∨(i matches .par _)∨(i matches .expr _):=fun i h=>by
  simp only [List.mem_cons,List.not_mem_nil,or_false,or_self] at h;subst h;exact .inl rfl
 have h3:∀ i∈[It.leaf,.expr d.body,.leaf],(i matches .leaf)∨(i matches .par _)∨(i matches .expr _):=fun i h=>by
  simp only [List.mem_cons,List.not_mem_nil,or_false] at h
  rcases h with rfl|rfl|rfl
  ·exact .inl rfl
  ·exact .inr (.inr rfl)
  ·exact .inl rfl
 have h4:∀ i∈[It.leaf],(i matches .leaf)∨(i matches .par _)∨(i matches .expr _):=fun i h=>by
  rw [List.mem_singleton] at h;subst h;exact .inl rfl
 have hl:lvL (d.leadIts.map It.pt)=lvL d.lead:=by unfold DfS.leadIts DfS.lead;split <;> rfl
 rw [DfS.its,typA_append,typA_none toks _ _ _ h1,typA_append,typA_none toks _ _ _ h2,typA_append,typA_none toks _ _ _ (sep_none _),typA_append,typA_none toks _ _ _ h4,typA_append,typA_none toks _ _ _ h3]
 rw [show u+lvL (d.leadIts.map It.pt)+lvL ([It.leaf,.leaf,.leaf].map It.pt)+lvL ((sepIts d.pars).map It.pt)+lvL ([It.leaf].map It.pt)=d.at2 u by
  rw [hl,sepIts_pt]
  simp only [DfS.at2,DfS.at1,List.map_cons,List.map_nil,It.pt,lvL,PT.lv]]
 exact typA_its toks d.ty _ _ _
theorem parA_none (toks:List Tok):∀ (l:List It) (u:Nat),(∀ i∈l,¬ (i matches .par _))→parA toks u l=[]
 | [],u,_=>rfl
 | i :: l,u,h=>by
  have h1:=h i List.mem_cons_self
  have h2:=parA_none toks l (u+i.pt.lv) fun x hx=>h x (List.mem_cons_of_mem _ hx)
  cases i with
  | par t=>simp at h1
  | leaf=>rw [parA];exact h2;simp
  | base=>rw [parA];exact h2;simp
  | expr e=>rw [parA];exact h2;simp
  | cl e=>rw [parA];exact h2;simp
theorem parA_sep (toks:List Tok):∀ (l:List TyS) (u:Nat),parA toks u (sepIts l)=parsFF toks u l
 | [],u=>rfl
 | [t],u=>by rw [sepIts,parA,parA,parsFF,parsFF]
 | t :: s :: l,u=>by
  rw [show sepIts (t :: s :: l)=.par t :: .leaf :: sepIts (s :: l) from by rw [sepIts],parA,parA,parA_sep toks (s :: l),parsFF]
  ·rfl
  ·simp
theorem DfS.pars_par (toks:List Tok)(d:DfS)(u:Nat):parA toks u d.its=(d.dd toks u).params:=by
 have h1:∀ i∈d.leadIts,¬ (i matches .par _):=fun i h=>by
  unfold DfS.leadIts at h
  split at h
  ·rw [List.mem_singleton] at h;subst h;simp
  ·cases h
 have h2:∀ i∈[It.leaf,.leaf,.leaf],¬ (i matches .par _):=fun i h=>by
  simp only [List.mem_cons,List.not_mem_nil,or_false,or_self] at h;subst h;simp
 have h3:∀ i∈([It.leaf]++(d.ty.its++[.leaf,.expr d.body,.leaf])),¬ (i matches .par _):=fun i h=>by
  unfold TyS.its at h
  cases hc:d.ty.cl with
  | none =>
   rw [hc] at h
   simp only [List.mem_append,List.mem_cons,List.not_mem_nil,or_false] at h
   rcases h with rfl|(rfl|rfl)|rfl|rfl|rfl <;> simp
  | some e =>
   rw [hc] at h
   simp only [List.mem_append,List.mem_cons,List.not_mem_nil,or_false] at h
   rcases h with rfl|((rfl|rfl)|rfl)|rfl|rfl|rfl <;> simp
 have hl:lvL (d.leadIts.map It.pt)=lvL d.lead:=by unfold DfS.leadIts DfS.lead;split <;> rfl
 rw [DfS.its,parA_append,parA_none toks _ _ h1,parA_append,parA_none toks _ _ h2,parA_append,parA_none toks _ _ h3,parA_sep,List.nil_append,List.nil_append,List.append_nil,hl]
 simp only [List.map_cons,List.map_nil,It.pt,lvL,PT.lv]
 rfl
end Go.Proofs.YtbodlpoomfefcaaGreatDoor

namespace Go.Proofs.YtbodlpoomfefcaaGreatDoor
open Go.RowKit
structure RK (α β:Type) where
 sz:Nat
 cells:α→β→List Value
 inn:(Nat→Prop)→World→α→β→Prop
 len:∀ a b,(cells a b).length=sz
 frame:∀ {P:Nat→Prop} {w w':World} {a:α} {b:β},inn P w a b→Alk P w w'→inn P w' a b
 imp:∀ {P Q:Nat→Prop} {w:World} {a:α} {b:β},inn P w a b→(∀ k,P k→k<w.heap.size→Q k)→inn Q w a b
section
variable {α β:Type}
def RK.flat (K:RK α β)(l:List (α × β)):List Value:=l.flatMap fun p=>K.cells p.1 p.2
theorem RK.flat_len (K:RK α β):∀ l:List (α × β),(K.flat l).length=l.length * K.sz
 | []=>by simp [RK.flat]
 | p :: l=>by
  have:=RK.flat_len K l
  unfold RK.flat at this ⊢
  rw [List.flatMap_cons,List.length_append,K.len,this,List.length_cons,Nat.succ_mul,Nat.add_comm]
theorem RK.flat_snoc (K:RK α β)(l:List (α × β))(p:α × β):K.flat (l++[p])=K.flat l++K.cells p.1 p.2:=by
 unfold RK.flat
 rw [List.flatMap_append,List.flatMap_singleton]
theorem RK.flat_at (K:RK α β):∀ (l:List (α × β)) (i j:Nat) (h:i<l.length),j<K.sz→(K.flat l)[i * K.sz+j]?=(K.cells l[i].1 l[i].2)[j]?
 | [],i,j,h,_=>absurd h (by simp)
 | p :: l,0,j,_,hj=>by
  unfold RK.flat
  rw [List.flatMap_cons,List.getElem?_append_left (by rw [K.len];omega)]
  simp
 | p :: l,i+1,j,h,hj=>by
  have:=RK.flat_at K l i j (by simpa using h) hj
  unfold RK.flat at this ⊢
  rw [List.flatMap_cons,List.getElem?_append_right (by rw [K.len,Nat.succ_mul];omega),K.len,show (i+1) * K.sz+j - K.sz=i * K.sz+j by rw [Nat.succ_mul];omega,this]
  simp
def RowK (K:RK α β)(P:Nat→Prop)(w:World)(v:Value)(zs:List α):Prop :=
 ∃ l:List (α × β),l.map Prod.fst=zs∧SlP P w v K.sz zs.length (K.flat l)∧∀ p∈l,K.inn P w p.1 p.2
theorem RowK.frame {K:RK α β}{P:Nat→Prop}{w w':World}{v:Value}{zs:List α}(h:RowK K P w v zs)(ha:Alk P w w'):RowK K P w' v zs:=by
 obtain ⟨l,h1,h2,h3⟩:=h
 exact ⟨l,h1,h2.frame ha,fun p hp=>K.frame (h3 p hp) ha⟩
theorem RowK.imp {K:RK α β}{P Q:Nat→Prop}{w:World}{v:Value}{zs:List α}(h:RowK K P w v zs)(hq:∀ b,P b→b<w.heap.size→Q b):RowK K Q w v zs:=by
 obtain ⟨l,h1,h2,h3⟩:=h
 exact ⟨l,h1,h2.imp hq,fun p hp=>K.imp (h3 p hp) hq⟩
theorem RowK.nil (K:RK α β)(P:Nat→Prop)(w:World):RowK K P w (.slice none 0 0) []:=⟨[],rfl,SlP.nil P w K.sz,fun p hp=>by cases hp⟩
theorem RowK.slice {K:RK α β}{P:Nat→Prop}{w:World}{v:Value}{zs:List α}(h:RowK K P w v zs):∃ ao cap,v=.slice ao zs.length cap:=by
 obtain ⟨l,h1,h2,h3⟩:=h
 exact h2.form
theorem RowK.form {K:RK α β}{P:Nat→Prop}{w:World}{v:Value}{zs:List α}(h:RowK K P w v zs):∃ ao cap,v=.slice ao zs.length cap∧zs.length≤cap ∧
  (0<zs.length→∃ b off,ao=some ⟨b,off,none⟩∧P b∧b<w.heap.size∧∀ i,(hi:i<zs.length)→∃ x,K.inn P w zs[i] x∧∀ j u,(K.cells zs[i] x)[j]?=some u→w.cell? ⟨b,off+i * K.sz+j,none⟩=some u):=by
 obtain ⟨l,rfl,⟨ao,cap,hv,hn,hl,hc⟩,h3⟩:=h
 refine ⟨ao,cap,hv,hn,fun h0=>?_⟩
 obtain ⟨b,off,ha,hP,hlt,hcell⟩:=hc h0
 refine ⟨b,off,ha,hP,hlt,fun i hi=>?_⟩
 rw [List.length_map] at hi
 rw [List.getElem_map]
 refine ⟨_,h3 _ (List.getElem_mem hi),fun j u hu=>?_⟩
 have hj:j<K.sz:=by
  rcases Nat.lt_or_ge j K.sz with h'|h'
  ·exact h'
  ·rw [List.getElem?_eq_none (by rw [K.len];exact h')] at hu;cases hu
 have hu':=(K.flat_at l i j hi hj).trans hu
 obtain ⟨h',e⟩:=List.getElem?_eq_some_iff.1 hu'
 have:=hcell (i * K.sz+j) h'
 rw [e] at this
 rw [Nat.add_assoc]
 exact this
def OwnK (K:RK α β)(C e:Nat)(w:World)(v:Value)(zs:List α):Prop :=
 ∃ l:List (α × β),l.map Prod.fst=zs∧w.ownsRow C e K.sz v zs.length (K.flat l)∧∀ p∈l,K.inn (fun b=>C≤b∧some b≠v.ownBlock) w p.1 p.2
theorem OwnK.nil (K:RK α β)(C e:Nat)(w:World):OwnK K C e w (.slice none 0 0) []:=⟨[],rfl,World.ownsRow_nil _ _ _ _,fun p hp=>by cases hp⟩
theorem OwnK.below {K:RK α β}{C e:Nat}{w w':World}{v:Value}{zs:List α}(h:OwnK K C e w v zs)(hb:Below w.heap.size w w'):OwnK K C e w' v zs:=by
 obtain ⟨l,h1,h2,h3⟩:=h
 exact ⟨l,h1,own_below h2 hb,fun p hp=>K.frame (h3 p hp) (Alk.of hb)⟩
theorem OwnK.set {K:RK α β}{C e:Nat}{w:World}{v:Value}{zs:List α}(h:OwnK K C e w v zs){a:Addr}(ha:a.block<C)(u:Value):OwnK K C e (w.setCell a u) v zs:=by
 obtain ⟨l,h1,h2,h3⟩:=h
 refine ⟨l,h1,own_set h2 (fun q=>?_) u,fun p hp=>K.frame (h3 p hp) (Alk.set u fun b hb=>by have:=hb.1;omega)⟩
 have:=(h2.lt a.block q.symm).1
 omega
theorem OwnK.drew {K:RK α β}{C e:Nat}{w:World}{v:Value}{zs:List α}(h:OwnK K C e w v zs):OwnK K C e w.drew v zs:=h.below ((Below.refl _ _).drew)
theorem OwnK.row {K:RK α β}{C e:Nat}{w:World}{v:Value}{zs:List α}(h:OwnK K C e w v zs):RowK K (fun b=>C≤b) w v zs:=by
 obtain ⟨l,h1,h2,h3⟩:=h
 exact ⟨l,h1,SlP.ofOwns h2 fun b hb=>hb,fun p hp=>K.imp (h3 p hp) fun b hb _=>hb.1⟩
theorem OwnK.slice {K:RK α β}{C e:Nat}{w:World}{v:Value}{zs:List α}(h:OwnK K C e w v zs):∃ ao cap,v=.slice ao zs.length cap:=h.row.slice
theorem OwnK.snoc {K:RK α β}{C e:Nat}{w w':World}{kv kv':Value}{zs:List α}{a:α}{x:β}{g H:Nat}{l:List (α × β)}(h1:l.map Prod.fst=zs)(h2:∀ p∈l,K.inn (fun b=>C≤b∧some b≠kv.ownBlock) w p.1 p.2)(hx:K.inn (fun b=>C≤b∧some b≠kv.ownBlock) w a x)
  (hown:w'.ownsRow C e K.sz kv' (zs.length+1) (K.flat l++K.cells a x)) (hgrow:w.grownBy w' kv.ownBlock) (hv:kv'.ownBlock=some g) (hor:kv.ownBlock=some g∨g=H) (hH:w.heap.size≤H):OwnK K C e w' kv' (zs++[a]):=by
 have himp:∀ b,(C≤b∧some b≠kv.ownBlock)→b<w.heap.size→((C≤b∧some b≠kv'.ownBlock)∧some b≠kv.ownBlock):=fun b hb hlt=>by
  refine ⟨⟨hb.1,fun q=>?_⟩,hb.2⟩
  rw [hv] at q
  simp only [Option.some.injEq] at q
  rcases hor with h|h
  ·exact hb.2 (by rw [h,q])
  ·omega
 have hall:∀ {a:α} {x:β},K.inn (fun b=>C≤b∧some b≠kv.ownBlock) w a x→K.inn (fun b=>C≤b∧some b≠kv'.ownBlock) w' a x:=fun h =>
  K.imp (K.frame (K.imp h himp) (Alk.grown hgrow fun b hb=>hb.2)) fun b hb _=>hb.1
 refine ⟨l++[(a,x)],by rw [List.map_append,h1];rfl,?_,fun p hp=>?_⟩
 ·rw [K.flat_snoc,List.length_append,List.length_singleton];exact hown
 ·rcases List.mem_append.1 hp with hp|hp
  ·exact hall (h2 p hp)
  ·rw [List.mem_singleton] at hp
   subst hp
   exact hall hx
end
def EK (S:Shape):RK PE (Value × Value) where
 sz:=S.sz
 cells e p:=S.cells e p.1 p.2
 inn P w e p:=EAt S P w p.1 p.2 e
 len e p:=S.len e p.1 p.2
 frame h ha:=h.frame ha
 imp h hq:=h.imp hq
def FK (S:Shape):RK FF Value where
 sz:=5
 cells f cv:=[strV f.name,.int .i64 f.base,cv,.int .i64 f.at_,.int .i64 f.bare]
 inn P w f cv:=RowK (EK S) P w cv f.clause
 len _ _:=rfl
 frame h ha:=h.frame ha
 imp h hq:=h.imp hq
structure DV where
 pv:Value
 cv:Value
 m:Value
 k:Value
def DA:RK DD DV where
 sz:=15
 cells d x:=[.bool d.pub,strV d.res.name,x.pv,.int .i64 d.res.base,x.cv,.int .i64 d.body.op,strV d.body.name,strV d.body.module,.bool (decide (d.body.num<0)),x.m,.bool d.body.yes,x.k,.int .i64 d.body.at_,.int .i64 d.res.at_,.int .i64 d.res.bare]
 inn P w d x:=RowK (FK XA) P w x.pv d.params∧RowK (EK XA) P w x.cv d.res.clause∧EAt XA P w x.m x.k d.body
 len _ _:=rfl
 frame h ha:=⟨h.1.frame ha,h.2.1.frame ha,h.2.2.frame ha⟩
 imp h hq:=⟨h.1.imp hq,h.2.1.imp hq,h.2.2.imp hq⟩
def DR:RK DD DV where
 sz:=14
 cells d x:=[.bool d.pub,x.pv,strV d.res.name,.int .i64 d.res.base,x.cv,.int .i64 d.res.at_,.int .i64 d.res.bare,.int .i64 d.body.op,strV d.body.name,strV d.body.module,strV d.body.txt,.bool d.body.yes,x.k,.int .i64 d.body.at_]
 inn P w d x:=RowK (FK XR) P w x.pv d.params∧RowK (EK XR) P w x.cv d.res.clause∧EAt XR P w x.m x.k d.body
 len _ _:=rfl
 frame h ha:=⟨h.1.frame ha,h.2.1.frame ha,h.2.2.frame ha⟩
 imp h hq:=⟨h.1.imp hq,h.2.1.imp hq,h.2.2.imp hq⟩
def IA:RK (List UInt8 × Nat) Unit where
 sz:=2
 cells m _:=[strV m.1,.int .i64 m.2]
 inn _ _ _ _:=True
 len _ _:=rfl
 frame _ _:=trivial
 imp _ _:=trivial
def IR:RK (List UInt8 × Nat) Unit where
 sz:=1
 cells m _:=[strV m.1]
 inn _ _ _ _:=True
 len _ _:=rfl
 frame _ _:=trivial
 imp _ _:=trivial
def PAtA (P:Nat→Prop)(w:World)(iv dv:Value)(p:PP):Prop:=RowK IA P w iv p.imports∧RowK DA P w dv p.defs
def PAtR (P:Nat→Prop)(w:World)(iv dv:Value)(p:PP):Prop:=RowK IR P w iv p.imports∧RowK DR P w dv p.defs
theorem PAtA.frame {P:Nat→Prop}{w w':World}{iv dv:Value}{p:PP}(h:PAtA P w iv dv p)(ha:Alk P w w'):PAtA P w' iv dv p:=⟨h.1.frame ha,h.2.frame ha⟩
theorem PAtA.imp {P Q:Nat→Prop}{w:World}{iv dv:Value}{p:PP}(h:PAtA P w iv dv p)(hq:∀ b,P b→b<w.heap.size→Q b):PAtA Q w iv dv p:=⟨h.1.imp hq,h.2.imp hq⟩
theorem PAtR.frame {P:Nat→Prop}{w w':World}{iv dv:Value}{p:PP}(h:PAtR P w iv dv p)(ha:Alk P w w'):PAtR P w' iv dv p:=⟨h.1.frame ha,h.2.frame ha⟩
theorem PAtR.imp {P Q:Nat→Prop}{w:World}{iv dv:Value}{p:PP}(h:PAtR P w iv dv p)(hq:∀ b,P b→b<w.heap.size→Q b):PAtR Q w iv dv p:=⟨h.1.imp hq,h.2.imp hq⟩
end Go.Proofs.YtbodlpoomfefcaaGreatDoor
