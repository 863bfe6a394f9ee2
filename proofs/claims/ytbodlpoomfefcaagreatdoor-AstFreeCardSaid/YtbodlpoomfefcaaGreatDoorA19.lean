/- Walks and plain laws: AsW, ReadLaws, ReadX. -/
import Derived.Test.YtbodlpoomfefcaaGreatDoorA18
set_option maxHeartbeats 16000000
set_option maxRecDepth 100000
set_option linter.unusedVariables false
set_option linter.unusedSimpArgs false
namespace Go.Proofs.YtbodlpoomfefcaaGreatDoor
open Go.RowKit Go
theorem root_tree (at_:Option Addr)(nt ct:Nat)(an:Option Addr)(n cn:Nat)(w:World)(hn:n≤1099511627776) :
  Calls Tryz.prog 17 #[.agg #[.slice at_ nt ct,.slice an n cn]] w fun e w'=>e=.returned (.int .i64 ((n:Int) - 1))∧Below w.heap.size w w':=root_any _ an n cn w hn
theorem as_yes (B:Nat)(at_:Option Addr)(ct:Nat)(an:Option Addr)(cn:Nat)(S:ByteArray)(toks:List Tok)(nodes:List Nd)(D:List UInt8)(w:World)(h:TreeAt B w (.agg #[.slice at_ toks.length ct,.slice an nodes.length cn]) toks nodes)(hB:B≤w.heap.size)
  (G:GoodT toks nodes D) (hS:S.size≤65536) (hw:wholeF toks=S.data.toList) (hf:formF S.data.toList 200=.good toks nodes) :
  Calls Tryz.prog 39 #[.agg #[.slice at_ toks.length ct,.slice an nodes.length cn],.func (.func 36) #[] #[]] w fun e w'=>e=.returned (.bool true)∧Below w.heap.size w w':=by
 have hft:=G.fewt
 have hfn:=G.few
 obtain ⟨XD,hXD,eX⟩:=bytes_of D
 have HDump:Hid (∀ (B:Nat) (at_:Option Addr) (ct:Nat) (an:Option Addr) (cn:Nat) (W:World),TreeAt B W (.agg #[.slice at_ toks.length ct,.slice an nodes.length cn]) toks nodes→B≤W.heap.size→Calls Tryz.prog 16 #[.agg #[.slice at_ toks.length ct,.slice an nodes.length cn],.int .i64 ((nodes.length:Int) - 1)] W fun e w'=>e=.returned (.tuple #[.string XD,.int .i64 0])∧Below W.heap.size W w') :=
  Lib.hid fun B at_ ct an cn W hT hBW=>(dump_yes G B _ _ W hT hBW).mono fun e w' h=>⟨by rw [h.1,eX],h.2⟩
 have hlen:tokAt toks toks.length≤1099511627776:=by
  rw [← wholeF_len,hw,size_list]
  omega
 have eS:ByteArray.mk (S.data.toList).toArray=S:=by cases S;simp
 have HShow:Hid (∀ W,Below w.heap.size w W→Calls Tryz.prog 15 #[.agg #[.slice at_ toks.length ct,.slice an nodes.length cn]] W fun e w'=>e=.returned (.string S)∧Below W.heap.size W w'):=Lib.hid fun W hW=>by
  obtain ⟨tv',nv',l,e1,e2,_⟩:=h.below (hW.mono hB)
  simp only [Value.agg.injEq,Array.mk.injEq,List.cons.injEq,and_true] at e1
  obtain ⟨rfl,rfl⟩:=e1
  have:=show_any B (.slice at_ toks.length ct) (.slice an nodes.length cn) toks W (by omega) hlen e2 (Nat.le_trans hB hW.size)
  rw [hw,eS] at this
  exact this
 have HForm:=Lib.hid (fun W=>formula_any S 200 W (by omega) (by omega) (by omega))
 rw [hf] at HForm
 have HT:=Lib.hid h
 have hal:=below_new w (.cells #[.slice at_ toks.length ct,.slice an nodes.length cn] 25)
 have e1:=heap_alloc_new w (.cells #[.slice at_ toks.length ct,.slice an nodes.length cn] 25)
 clear h G hf hw hXD eX eS hlen
 go_enter Tryz.func39,Tryz.ntmps39
 go_upto_region 1 with fail
 generalize w.alloc _=w1 at hal e1 ⊢
 obtain ⟨c0,c1⟩:=tree_cells e1
 have hl1:=(Array.getElem?_eq_some_iff.1 e1).1
 go_cut [5,6] (fun a e wx=>a=.string XD∧e=.int .i64 0∧wx.heap[w.heap.size]?=some (.cells #[.slice at_ toks.length ct,.slice an nodes.length cn] 25 (0,0))∧Below w.heap.size w wx)
 case first =>
  go_region_with (first|(go_at_call 17;refine (root_tree at_ toks.length ct an nodes.length cn _ (by omega)).mono ?_;rintro e w5 ⟨rfl,hb5⟩;have d0:=(hb5.cell (p:=⟨w.heap.size,0,none⟩) hl1).trans c0;have d1:=(hb5.cell (p:=⟨w.heap.size,1,none⟩) hl1).trans c1)|(go_at_call 16;refine (HDump.out B at_ ct an cn _ (HT.out.below ((hal.drew.trans (hb5.mono hal.size)).mono hB)) (Nat.le_trans hB (hal.drew.trans (hb5.mono hal.size)).size)).mono ?_;rintro e w6 ⟨rfl,hb6⟩))
  all_goals
   have hb56:=hal.drew.trans (hb5.mono hal.size)
   have T6:=(hb6.block w.heap.size (Nat.lt_of_lt_of_le hl1 hb5.size)).trans ((hb5.block w.heap.size hl1).trans e1)
   go_wp2_with fail
   go_meet
   exact ⟨rfl,rfl,T6,hb56.trans (hb6.mono hb56.size)⟩
 case rest =>
  obtain ⟨rfl,rfl,hT,hbc⟩:=hcut
  clear hal e1 c0 c1 hl1 w1
  obtain ⟨wo,rfl⟩:∃ wo:World,wo=wc:=⟨_,rfl⟩
  obtain ⟨c0,c1⟩:=tree_cells hT
  go_upto_region 3 with (first|(go_at_call 15;refine (HShow.out _ hbc).mono ?_;rintro e w7 ⟨rfl,hb7⟩)|(go_at_call 36;refine (HForm.out _).mono ?_;rintro e w8 ⟨hb8,a8,c8,b8,d8,rfl,ht8⟩))
  have hb78:=(hbc.trans (hb7.mono hbc.size))
  have hb88:=hb78.trans (hb8.mono hb78.size)
  have hT8:=(hb8.block w.heap.size (Nat.lt_of_lt_of_le (Array.getElem?_eq_some_iff.1 hT).1 hb7.size)).trans ((hb7.block w.heap.size (Array.getElem?_eq_some_iff.1 hT).1).trans hT)
  have hlt8:=(Array.getElem?_eq_some_iff.1 hT8).1
  have hal9:=(below_new w8 (.cells #[.slice a8 toks.length c8,.slice b8 nodes.length d8] 25)).alloc (by simp) (.cells #[.int .i64 0,.int .i64 0] 44)
  have hT9:=(hal9.block w.heap.size hlt8).trans hT8
  have hU9:=(Lib.alloc_old (w8.alloc (.cells #[.slice a8 toks.length c8,.slice b8 nodes.length d8] 25)) (.cells #[.int .i64 0,.int .i64 0] 44) w8.heap.size (by simp)).trans (heap_alloc_new w8 (.cells #[.slice a8 toks.length c8,.slice b8 nodes.length d8] 25))
  have hF9:=heap_alloc_new (w8.alloc (.cells #[.slice a8 toks.length c8,.slice b8 nodes.length d8] 25)) (.cells #[.int .i64 0,.int .i64 0] 44)
  rw [World.size_alloc] at hF9
  have hU:=Lib.hid (ht8.at.below hal9)
  have hb9:=hb88.trans (hal9.mono hb88.size)
  have hz9:=hal9.size
  clear hb7 hb8 hT8 hal9 ht8 hb78 hT hbc c0 c1 HShow HForm
  generalize w8.heap.size=ub at hU9 hF9 hU hz9 hlt8 hb88 ⊢
  generalize (w8.alloc _).alloc _=w9 at hT9 hU9 hF9 hU hb9 hz9 ⊢
  obtain ⟨c0,c1⟩:=tree_cells hU9
  have hl9:=(Array.getElem?_eq_some_iff.1 hU9).1
  have hlT:=(Array.getElem?_eq_some_iff.1 hT9).1
  have hlF:=(Array.getElem?_eq_some_iff.1 hF9).1
  go_cut [9,10] (fun a e wx=>a=.string XD∧e=.int .i64 0∧Below w9.heap.size w9 wx)
  case first =>
   go_region_with (first|(go_at_call 17;refine (root_tree a8 toks.length c8 b8 nodes.length d8 _ (by omega)).mono ?_;rintro e w5 ⟨rfl,hb5⟩;have d0:=(hb5.cell (p:=⟨ub,0,none⟩) hl9).trans c0;have d1:=(hb5.cell (p:=⟨ub,1,none⟩) hl9).trans c1)|(go_at_call 16;refine (HDump.out ub a8 c8 b8 d8 _ (hU.out.below (((Below.refl w9.heap.size w9).drew.trans hb5).mono hz9)) (Nat.le_trans hz9 hb5.size)).mono ?_;rintro e w6 ⟨rfl,hb6⟩))
   all_goals
    have hb56:=(Below.refl w9.heap.size w9).drew.trans hb5
    go_wp2_with fail
    go_meet
    exact ⟨rfl,rfl,hb56.trans (hb6.mono hb56.size)⟩
  case rest =>
   obtain ⟨rfl,rfl,hbc⟩:=hcut
   have hTc:=(hbc.block _ hlT).trans hT9
   have hUc:=(hbc.block _ hl9).trans hU9
   have hFc:=(hbc.block _ hlF).trans hF9
   have HU:=Lib.hid (hU.out.below (hbc.mono hz9))
   have hbw:Below w.heap.size w wc:=hb9.trans (hbc.mono hb9.size)
   have HT2:=Lib.hid (HT.out.below (hbw.mono hB))
   clear hT9 hU9 hF9 hU hb9 hz9 hlt8 hb88 c0 c1 hl9 hlT hlF hbc HDump HT
   obtain ⟨wo,rfl⟩:∃ wo:World,wo=wc:=⟨_,rfl⟩
   obtain ⟨c0,c1⟩:=tree_cells hTc
   obtain ⟨u0,u1⟩:=tree_cells hUc
   obtain ⟨f0,f1,_⟩:=fault_cells hFc
   have hlU:=(Array.getElem?_eq_some_iff.1 hUc).1
   have hzo:=hbw.size
   go_wp2
   clear c0 c1 u0 u1 f0 f1
   go_loopw [58] (fun q wr=>∃ k:Nat,k≤toks.length∧q=.int .i64 k∧Below wo.heap.size wo wr) (fun q _=>toks.length - (intOf q).toNat)
   case atStart=>exact ⟨0,Nat.zero_le _,rfl,Below.refl _ _⟩
   case round =>
    obtain ⟨k,hk,rfl,hbl⟩:=hrel
    have hwz:=hbl.size
    by_cases hlt:k<toks.length
    ·obtain ⟨b1,o1,cap1,ev,hb1,t0,t1,t2,t3⟩:=HT2.out.tok hlt
     simp only [Value.slice.injEq] at ev
     obtain ⟨rfl,-,rfl⟩:=ev
     obtain ⟨b2,o2,cap2,ev,hb2,s0,s1,s2,s3⟩:=HU.out.tok hlt
     simp only [Value.slice.injEq] at ev
     obtain ⟨rfl,-,rfl⟩:=ev
     have x0:=(hbl.cell (p:=⟨b1,o1+k * 4,none⟩) (by show b1<_;omega)).trans t0
     have x1:=(hbl.cell (p:=⟨b1,o1+k * 4+1,none⟩) (by show b1<_;omega)).trans t1
     have x2:=(hbl.cell (p:=⟨b1,o1+k * 4+2,none⟩) (by show b1<_;omega)).trans t2
     have x3:=(hbl.cell (p:=⟨b1,o1+k * 4+3,none⟩) (by show b1<_;omega)).trans t3
     generalize toks[k]=tk at x0 x1 x2 x3 s0 s1 s2 s3
     simp only [strV] at x1 x2 s1 s2
     have hal:=below_new wr (.cells #[.int .i64 tk.kind,.string ⟨tk.lead.toArray⟩,.string ⟨tk.text.toArray⟩,.int .i64 tk.place] 80)
     have hba:=hbl.trans (hal.mono hwz)
     have y0:=(hba.cell (p:=⟨b2,o2+k * 4,none⟩) (by show b2<_;omega)).trans s0
     have y1:=(hba.cell (p:=⟨b2,o2+k * 4+1,none⟩) (by show b2<_;omega)).trans s1
     have y2:=(hba.cell (p:=⟨b2,o2+k * 4+2,none⟩) (by show b2<_;omega)).trans s2
     have y3:=(hba.cell (p:=⟨b2,o2+k * 4+3,none⟩) (by show b2<_;omega)).trans s3
     have U2:=(hba.block ub hlU).trans hUc
     have N2:=heap_alloc_new wr (.cells #[.int .i64 tk.kind,.string ⟨tk.lead.toArray⟩,.string ⟨tk.text.toArray⟩,.int .i64 tk.place] 80)
     have hkI:(k:Int)<(toks.length:Int):=by omega
     clear t0 t1 t2 t3 s0 s1 s2 s3 hal
     go_upto_region 9 with fail
     clear x0 x1 x2 x3
     generalize wr.heap.size=nb at N2 ⊢
     generalize wr.alloc _=w2 at hba y0 y1 y2 y3 U2 N2 ⊢
     obtain ⟨d0,d1⟩:=tree_cells U2
     have n0:w2.cell? ⟨nb,0,none⟩=some (.int .i64 tk.kind):=by rw [Lib.cell_of_heap N2];rfl
     have n1:w2.cell? ⟨nb,1,none⟩=some (.string ⟨tk.lead.toArray⟩):=by rw [Lib.cell_of_heap N2];rfl
     have n2:w2.cell? ⟨nb,2,none⟩=some (.string ⟨tk.text.toArray⟩):=by rw [Lib.cell_of_heap N2];rfl
     have n3:w2.cell? ⟨nb,3,none⟩=some (.int .i64 tk.place):=by rw [Lib.cell_of_heap N2];rfl
     clear N2 U2
     go_quiet (fail)
     go_wp2
     go_roundw
     case rel=>exact ⟨k+1,by omega,by go_num,below_drewN hba _⟩
     case measure=>simp [intOf];omega
    ·obtain rfl:k=toks.length:=by omega
     have hkI:decide ((toks.length:Int)<(toks.length:Int))=false:=decide_eq_false (by omega)
     go_wp2
     go_ret
     exact ⟨rfl,hbw.trans (hbl.mono hzo)⟩
theorem store4 {w:World}{b:Nat}{c0 c1 c2 c3:Value}{T:TypeId}(h:w.heap[b]?=some (.cells #[c0,c1,c2,c3] T (0,0)))(v0 v1 v2 v3:Value) :
  ((((w.setCell ⟨b,0,none⟩ v0).setCell ⟨b,1,none⟩ v1).setCell ⟨b,2,none⟩ v2).setCell ⟨b,3,none⟩ v3).heap[b]?=some (.cells #[v0,v1,v2,v3] T (0,0)) ∧
  (∀ k,k≠b→((((w.setCell ⟨b,0,none⟩ v0).setCell ⟨b,1,none⟩ v1).setCell ⟨b,2,none⟩ v2).setCell ⟨b,3,none⟩ v3).heap[k]?=w.heap[k]?) ∧
  ((((w.setCell ⟨b,0,none⟩ v0).setCell ⟨b,1,none⟩ v1).setCell ⟨b,2,none⟩ v2).setCell ⟨b,3,none⟩ v3).heap.size=w.heap.size:=by
 have h1:=heap_setCell_same w b 0 _ _ v0 h
 have h2:=heap_setCell_same _ b 1 _ _ v1 h1
 have h3:=heap_setCell_same _ b 2 _ _ v2 h2
 have h4:=heap_setCell_same _ b 3 _ _ v3 h3
 refine ⟨h4,fun k hk=>?_,by simp⟩
 rw [heap_setCell_other _ _ _ _ hk,heap_setCell_other _ _ _ _ hk,heap_setCell_other _ _ _ _ hk,heap_setCell_other _ _ _ _ hk]
def set8 (w:World)(b:Nat)(v0 v1 v2 v3 v4 v5 v6 v7:Value):World :=
 (((((((w.setCell ⟨b,0,none⟩ v0).setCell ⟨b,1,none⟩ v1).setCell ⟨b,2,none⟩ v2).setCell ⟨b,3,none⟩ v3).setCell ⟨b,4,none⟩ v4).setCell ⟨b,5,none⟩ v5).setCell ⟨b,6,none⟩ v6).setCell ⟨b,7,none⟩ v7
theorem set8_alk (P:Nat→Prop)(w:World)(b:Nat)(v0 v1 v2 v3 v4 v5 v6 v7:Value)(hP:∀ k,P k→k≠b):Alk P w (set8 w b v0 v1 v2 v3 v4 v5 v6 v7):=by
 have hs:∀ (W:World) (j:Nat) (u:Value),Alk P W (W.setCell ⟨b,j,none⟩ u):=fun W j u=>Alk.set u hP
 exact (((((((hs _ _ _).trans (hs _ _ _)).trans (hs _ _ _)).trans (hs _ _ _)).trans (hs _ _ _)).trans (hs _ _ _)).trans (hs _ _ _)).trans (hs _ _ _)
theorem set8_below {B:Nat}{w0 w:World}(h:Below B w0 w){b:Nat}(hb:B≤b)(v0 v1 v2 v3 v4 v5 v6 v7:Value):Below B w0 (set8 w b v0 v1 v2 v3 v4 v5 v6 v7) :=
 (((((((h.setCell hb _).setCell hb _).setCell hb _).setCell hb _).setCell hb _).setCell hb _).setCell hb _).setCell hb _
def EPostM (op at_:Nat)(kids:List PE)(w:World)(e:Ending)(w':World):Prop :=
 ∃ am wn cm ae ce,e=.returned (.agg #[.int .i64 op,.string ⟨#[]⟩,.string ⟨#[]⟩,.bool false,.slice am wn cm,.bool false,.slice ae kids.length ce,.int .i64 at_]) ∧
  EAt XA (fun b=>w.heap.size≤b) w' (.slice am wn cm) (.slice ae kids.length ce) (.mk op [] [] 0 [] false kids at_)∧Below w.heap.size w w'
theorem EPost.m {op at_:Nat}{kids:List PE}{w w':World}{e:Ending}(h:EPost XA (.mk op [] [] 0 [] false kids at_) w e w'):EPostM op at_ kids w e w':=by
 obtain ⟨am,wn,cm,ae,ce,h1,h2,h3⟩:=h.a
 exact ⟨am,wn,cm,ae,ce,h1,h2,h3⟩
theorem EAt.rename {S:Shape}{P:Nat→Prop}{w:World}{m k:Value}{op op' a a':Nat}{n n' md md' t t':List UInt8}{num:Int}{y y':Bool}{kids:List PE}(h:EAt S P w m k (.mk op n md num t y kids a)):EAt S P w m k (.mk op' n' md' num t' y' kids a'):=by
 rw [EAt] at h ⊢
 exact h
def EPostS (x:PE)(w:World)(e:Ending)(w':World):Prop :=
 ∃ am wn cm ae ce,e=.returned (.agg #[.int .i64 x.op,.string ⟨x.name.toArray⟩,.string ⟨x.module.toArray⟩,.bool (decide (x.num<0)),.slice am wn cm,.bool x.yes,.slice ae x.kids.length ce,.int .i64 x.at_]) ∧
  EAt XA (fun b=>w.heap.size≤b) w' (.slice am wn cm) (.slice ae x.kids.length ce) x∧Below w.heap.size w w'
theorem EPost.s {x:PE}{w w':World}{e:Ending}(h:EPost XA x w e w'):EPostS x w e w':=h.a
def ZPost (n:Nat)(w:World)(e:Ending)(w':World):Prop :=
 ∃ am wn cm,e=.returned (.tuple #[.agg #[.bool false,.slice am wn cm],.int .i64 0])∧NumAt (fun b=>w.heap.size≤b) w' (n:Nat) (.slice am wn cm)∧Below w.heap.size w w'
theorem XA_num (n:Nat)(txt:List UInt8)(at_:Nat)(m k:Value):Ending.returned (.agg #[.int .i64 1,.string ⟨#[]⟩,.string ⟨#[]⟩,.bool false,m,.bool false,k,.int .i64 at_])=.returned (XA.agg (.mk 1 [] [] (n:Nat) txt false [] at_) m k):=by
 have hd:decide ((n:Int)<0)=false:=decide_eq_false (by omega)
 show _=Ending.returned (.agg #[.int .i64 1,.string ⟨#[]⟩,.string ⟨#[]⟩,.bool (decide ((n:Int)<0)),m,.bool false,k,.int .i64 at_])
 rw [hd]
theorem set1_cell (w:World)(b i:Nat)(v:Value){k j:Nat}(h:k≠b):(w.setCell ⟨b,i,none⟩ v).cell? ⟨k,j,none⟩=w.cell? ⟨k,j,none⟩ :=
 World.cell?_of_block (a:=⟨k,j,none⟩) (heap_setCell_other _ _ _ _ h)
theorem EPost.store {x:PE}{w0 W w':World}{m k:Value}(hx:EAt XA (fun b=>W.heap.size≤b) w' m k x)(hb:Below W.heap.size W w')(h0:Below w0.heap.size w0 W){b:Nat}(h1:w0.heap.size≤b)(h2:b<W.heap.size)(v0 v1 v2 v3 v4 v5 v6 v7:Value) :
  EAt XA (fun b=>w0.heap.size≤b) (set8 w' b v0 v1 v2 v3 v4 v5 v6 v7) m k x∧Below w0.heap.size w0 (set8 w' b v0 v1 v2 v3 v4 v5 v6 v7):=by
 have hs:=h0.size
 exact ⟨(hx.frame (set8_alk _ _ _ _ _ _ _ _ _ _ _ fun k hk=>by omega)).imp fun b hb _=>by omega,set8_below (h0.trans (hb.mono hs)) h1 _ _ _ _ _ _ _ _⟩
theorem cells2 {w:World}{b:Nat}{c0 c1:Value}{T:TypeId}(h:w.heap[b]?=some (.cells #[c0,c1] T (0,0))):w.cell? ⟨b,0,none⟩=some c0∧w.cell? ⟨b,1,none⟩=some c1:=by
 constructor <;> (rw [Lib.cell_of_heap h];rfl)
theorem cells3 {w:World}{b:Nat}{c0 c1 c2:Value}{T:TypeId}(h:w.heap[b]?=some (.cells #[c0,c1,c2] T (0,0))):w.cell? ⟨b,0,none⟩=some c0∧w.cell? ⟨b,1,none⟩=some c1∧w.cell? ⟨b,2,none⟩=some c2:=by
 refine ⟨?_,?_,?_⟩ <;> (rw [Lib.cell_of_heap h];rfl)
theorem cells4 {w:World}{b:Nat}{c0 c1 c2 c3:Value}{T:TypeId}(h:w.heap[b]?=some (.cells #[c0,c1,c2,c3] T (0,0))):w.cell? ⟨b,0,none⟩=some c0∧w.cell? ⟨b,1,none⟩=some c1∧w.cell? ⟨b,2,none⟩=some c2∧w.cell? ⟨b,3,none⟩=some c3∧∀ j,w.frozen? ⟨b,j,none⟩=false:=by
 refine ⟨?_,?_,?_,?_,fun j=>by simp [World.frozen?,h]⟩ <;> (rw [Lib.cell_of_heap h];rfl)
theorem cells8 {w:World}{b:Nat}{c0 c1 c2 c3 c4 c5 c6 c7:Value}{T:TypeId}(h:w.heap[b]?=some (.cells #[c0,c1,c2,c3,c4,c5,c6,c7] T (0,0))):(w.cell? ⟨b,0,none⟩=some c0∧w.cell? ⟨b,1,none⟩=some c1∧w.cell? ⟨b,2,none⟩=some c2∧w.cell? ⟨b,3,none⟩=some c3)∧(w.cell? ⟨b,4,none⟩=some c4∧w.cell? ⟨b,5,none⟩=some c5∧w.cell? ⟨b,6,none⟩=some c6∧w.cell? ⟨b,7,none⟩=some c7)∧∀ j,w.frozen? ⟨b,j,none⟩=false:=by
 refine ⟨⟨?_,?_,?_,?_⟩,⟨?_,?_,?_,?_⟩,fun j=>by simp [World.frozen?,h]⟩ <;> (rw [Lib.cell_of_heap h];rfl)
structure Boxes4 (w:World) (c0 c1 c2 c3:Array Value) (t0 t1 t2 t3:TypeId) (W:World):Prop where
 s0:W.heap[w.heap.size]?=some (.cells c0 t0 (0,0))
 s1:W.heap[w.heap.size+1]?=some (.cells c1 t1 (0,0))
 s2:W.heap[w.heap.size+1+1]?=some (.cells c2 t2 (0,0))
 s3:W.heap[w.heap.size+1+1+1]?=some (.cells c3 t3 (0,0))
 al:Below w.heap.size w W
section
variable {w W W':World} {c0 c1 c2 c3:Array Value} {t0 t1 t2 t3:TypeId}
theorem Boxes4.of (h:(((w.alloc (.cells c0 t0)).alloc (.cells c1 t1)).alloc (.cells c2 t2)).alloc (.cells c3 t3)=W):Boxes4 w c0 c1 c2 c3 t0 t1 t2 t3 W:=by
 subst h
 have ho:=fun (W:World) (o:Obj) (k:Nat) (hk:k<W.heap.size)=>Lib.alloc_old W o k hk
 have g1:=heap_alloc_new (w.alloc (.cells c0 t0)) (.cells c1 t1)
 have g2:=heap_alloc_new ((w.alloc (.cells c0 t0)).alloc (.cells c1 t1)) (.cells c2 t2)
 have g3:=heap_alloc_new (((w.alloc (.cells c0 t0)).alloc (.cells c1 t1)).alloc (.cells c2 t2)) (.cells c3 t3)
 rw [World.size_alloc] at g1
 rw [World.size_alloc,World.size_alloc] at g2
 rw [World.size_alloc,World.size_alloc,World.size_alloc] at g3
 refine ⟨?_,?_,?_,g3,((((Below.refl w.heap.size w).alloc (Nat.le_refl _) _).alloc (by simp) _).alloc (by simp <;> omega) _).alloc (by simp <;> omega) _⟩
 ·exact (ho _ _ _ (by simp <;> omega)).trans ((ho _ _ _ (by simp <;> omega)).trans ((ho _ _ _ (by simp)).trans (heap_alloc_new w (.cells c0 t0))))
 ·exact (ho _ _ _ (by simp <;> omega)).trans ((ho _ _ _ (by simp)).trans g1)
 ·exact (ho _ _ _ (by simp)).trans g2
theorem Boxes4.drewN (h:Boxes4 w c0 c1 c2 c3 t0 t1 t2 t3 W)(n:Nat):Boxes4 w c0 c1 c2 c3 t0 t1 t2 t3 (W.drewN n):=⟨h.s0,h.s1,h.s2,h.s3,below_drewN h.al n⟩
theorem Boxes4.drew (h:Boxes4 w c0 c1 c2 c3 t0 t1 t2 t3 W):Boxes4 w c0 c1 c2 c3 t0 t1 t2 t3 W.drew:=⟨h.s0,h.s1,h.s2,h.s3,h.al.drew⟩
theorem Boxes4.size (h:Boxes4 w c0 c1 c2 c3 t0 t1 t2 t3 W):w.heap.size+1+1+1<W.heap.size:=(Array.getElem?_eq_some_iff.1 h.s3).1
theorem Boxes4.later (h:Boxes4 w c0 c1 c2 c3 t0 t1 t2 t3 W)(hb:Below W.heap.size W W'):Boxes4 w c0 c1 c2 c3 t0 t1 t2 t3 W':=by
 have:=h.size
 exact ⟨(hb.block _ (by omega)).trans h.s0,(hb.block _ (by omega)).trans h.s1,(hb.block _ (by omega)).trans h.s2,(hb.block _ (by omega)).trans h.s3,h.al.trans (hb.mono h.al.size)⟩
end
def Rd (f B:Nat)(tv nv:Value)(toks:List Tok)(nodes:List Nd)(k:Nat)(x:PE):Prop:=∀ W:World,TreeAt B W (.agg #[tv,nv]) toks nodes→B≤W.heap.size→Calls Tryz.prog f #[.agg #[tv,nv],.int .i64 k] W (EPost XA x W)
def RdM (B:Nat)(tv nv:Value)(toks:List Tok)(nodes:List Nd)(i:Nat)(pes:List PE):Prop:=∀ (op at_:Nat) (W:World),TreeAt B W (.agg #[tv,nv]) toks nodes→B≤W.heap.size→Calls Tryz.prog 79 #[.agg #[tv,nv],.int .i64 op,.int .i64 at_,.int .i64 i] W (EPost XA (.mk op [] [] 0 [] false pes at_) W)
inductive RNeed (B:Nat) (tv nv:Value) (toks:List Tok) (nodes:List Nd) (i:Nat) (ks:List Int) (t:Tok):Int→PE→Prop
 | group (k1:Nat) (x:PE):ks[1]?=some (k1:Int)→Rd 42 B tv nv toks nodes k1 x→RNeed B tv nv toks nodes i ks t 12 x
 | bin (x:PE):Rd 77 B tv nv toks nodes i x→RNeed B tv nv toks nodes i ks t 10 x
 | call (x:PE):Rd 78 B tv nv toks nodes i x→RNeed B tv nv toks nodes i ks t 13 x
 | not (pes:List PE):t.text=[110,111,116]→RdM B tv nv toks nodes i pes→RNeed B tv nv toks nodes i ks t 11 (.mk 6 [] [] 0 [] false pes t.place)
 | neg (pes:List PE):t.text=[45]→RdM B tv nv toks nodes i pes→RNeed B tv nv toks nodes i ks t 11 (.mk 5 [] [] 0 [] false pes t.place)
 | iff (pes:List PE):RdM B tv nv toks nodes i pes→RNeed B tv nv toks nodes i ks t 8 (.mk 21 [] [] 0 [] false pes t.place)
 | asrt (pes:List PE):RdM B tv nv toks nodes i pes→RNeed B tv nv toks nodes i ks t 9 (.mk 23 [] [] 0 [] false pes t.place)
 | lett (pes:List PE) (k1:Nat) (tx:List UInt8):RdM B tv nv toks nodes i pes→ks[1]?=some (k1:Int)→(∀ W:World,TreeAt B W (.agg #[tv,nv]) toks nodes→B≤W.heap.size→Calls Tryz.prog 74 #[.agg #[tv,nv],.int .i64 k1] W fun e w'=>e=.returned (.string ⟨tx.toArray⟩)∧Below W.heap.size W w')→RNeed B tv nv toks nodes i ks t 7 (.mk 22 tx [] 0 [] false pes t.place)
 | num (n:Nat) (txt:List UInt8):(∀ W:World,Calls Tryz.prog 80 #[.string ⟨t.text.toArray⟩] W (ZPost n W))→RNeed B tv nv toks nodes i ks t 15 (.mk 1 [] [] (n:Nat) txt false [] t.place)
 | tru:t.text=[116,114,117,101]→RNeed B tv nv toks nodes i ks t 16 (.mk 2 [] [] 0 [] true [] t.place)
 | fls:t.text=[102,97,108,115,101]→RNeed B tv nv toks nodes i ks t 16 (.mk 2 [] [] 0 [] false [] t.place)
 | res:RNeed B tv nv toks nodes i ks t 17 (.mk 4 [] [] 0 [] false [] t.place)
 | nam:RNeed B tv nv toks nodes i ks t 14 (.mk 3 t.text [] 0 [] false [] t.place)
theorem rexpr_all (B:Nat)(tv nv:Value)(toks:List Tok)(nodes:List Nd)(i:Nat)(kd:Int)(ks:List Int)(w:World)(h:TreeAt B w (.agg #[tv,nv]) toks nodes)(hB:B≤w.heap.size)(hn:nodes[i]?=some ⟨kd,-1,ks⟩)(k0:Nat)(hk0:ks[0]?=some (k0:Int))(t:Tok)(xn:Nd)(hl0:nodes[k0]?=some xn)
  (ht:(∃ u:Nat,xn=⟨19,(u:Nat),[]⟩∧toks[u]?=some t)∨(xn.kind≠19∧t=⟨0,[],[],0⟩)) (x:PE) (hx:RNeed B tv nv toks nodes i ks t kd x) :
  Calls Tryz.prog 42 #[.agg #[tv,nv],.int .i64 i] w (EPost XA x w):=by
 obtain ⟨hi,hni⟩:=List.getElem?_eq_some_iff.1 hn
 obtain ⟨hk1,hk2⟩:=List.getElem?_eq_some_iff.1 hk0
 obtain ⟨hi0,hni0⟩:=List.getElem?_eq_some_iff.1 hl0
 have HT:=Lib.hid h
 obtain ⟨a1,c1,_,_,e⟩:=h.slices
 obtain ⟨b,off,cap,kv,rfl,hb,x0,x1,x2,hkv⟩:=h.node hi
 obtain ⟨b',off',cap',kv',e',hb',y0,_,_,_⟩:=h.node hi0
 obtain ⟨⟨rfl,rfl⟩,rfl⟩:(b=b'∧off=off')∧cap=cap':=by simpa using e'
 obtain ⟨rfl,-⟩:tv=.slice a1 toks.length c1∧_:=by simpa using e
 rw [hni] at x0 x1 hkv
 rw [hni0] at y0
 simp only at x0 x1 hkv
 obtain ⟨ak,ck,rfl,_,hkf⟩:=hkv.form
 obtain ⟨bk,ok,rfl,hbk,hkc⟩:=hkf (by omega)
 have hz:=hkc 0 hk1
 rw [hk2,Nat.add_zero] at hz
 have HKC:=Lib.hid hkc
 have HL0:=Lib.hid hl0
 have HX:=Lib.hid hx
 have HTT:=Lib.hid ht
 generalize hkk:xn.kind=kk at y0
 have HKK:=Lib.hid hkk
 have hal2:=((Below.refl w.heap.size w).alloc (Nat.le_refl _) (.cells #[.slice a1 toks.length c1,.slice (some ⟨b,off,none⟩) nodes.length cap] 86)).alloc (by simp) (.cells #[.int .i64 0,.string ⟨#[]⟩,.string ⟨#[]⟩,.bool false,.slice none 0 0,.bool false,.slice none 0 0,.int .i64 0] 40)
 have X0:=cell_later hal2 x0
 have X1:=cell_later hal2 x1
 have X2:=cell_later hal2 x2
 have hiI:(i:Int)<(nodes.length:Int):=by omega
 have hk0I:(k0:Int)<(nodes.length:Int):=by omega
 have hkl:(0:Int)<(ks.length:Int):=by omega
 have hklN:0<ks.length:=by omega
 clear e e' hkv hkf hkc hn hni hni0 hl0 hk0 hk2 h hx ht hkk hal2 x0 x1 x2
 go_enter Tryz.func42,Tryz.ntmps42
 go_wp2
 generalize hw4:(((w.alloc _).alloc _).alloc _).alloc _=w4
 have S:=Boxes4.of hw4
 obtain ⟨r0,r1⟩:=cells2 S.s0
 obtain ⟨n0,n1,n2⟩:=cells3 S.s2
 have z4:=cell_later S.al hz
 have y4:=cell_later S.al y0
 clear hw4 X0 X1 X2
 go_quiet (fail)
 go_upto_if 27 with fail
 have S5:=S.drewN nq
 clear r0 r1 n0 n1 n2 z4 y4 S
 generalize w4.drewN nq=w5 at S5 ⊢
 obtain ⟨r0,r1⟩:=cells2 S5.s0
 obtain ⟨n0,n1,n2⟩:=cells3 S5.s2
 go_cut [] (fun wc=>Boxes4 w #[.slice a1 toks.length c1,.slice (some ⟨b,off,none⟩) nodes.length cap] #[.int .i64 0,.string ⟨#[]⟩,.string ⟨#[]⟩,.bool false,.slice none 0 0,.bool false,.slice none 0 0,.int .i64 0] #[.int .i64 kd,.int .i64 (-1),.slice (some ⟨bk,ok,none⟩) ks.length ck] #[.int .i64 t.kind,.string ⟨t.lead.toArray⟩,.string ⟨t.text.toArray⟩,.int .i64 t.place] 86 40 83 80 wc)
 case first =>
  rcases HTT.out with ⟨u,hxn,hut⟩|⟨hne,rfl⟩
  ·have hkk:=HKK.out
   rw [hxn] at hkk
   obtain rfl:kk=19:=hkk.symm
   have hl0:=HL0.out
   rw [hxn] at hl0
   have z5:=cell_later S5.al hz
   obtain ⟨hu,hut'⟩:=List.getElem?_eq_some_iff.1 hut
   have hK:=(rtoken_any B _ _ toks nodes k0 u w5.drew (HT.out.below ((S5.al.mono hB).drew)) (by have:=S5.al.size;show B≤w5.heap.size;omega) hl0 hu)
   rw [hut'] at hK
   unfold tokVal strV at hK
   have HK:=Lib.hid hK
   clear hK hut hut' hkk hxn hl0 hz y0
   go_wp2
   go_still_tail 5,(by kernel_rfl)
   change wpList _ _ _ _ _ w5.drew
   go_wp2_with (go_at_call 40;refine HK.out.mono ?_)
   rintro e w6 ⟨rfl,hb6⟩
   have S6:=S5.drew.later hb6
   obtain ⟨t0,t1,t2,t3,tz⟩:=cells4 S6.s3
   obtain ⟨S3,So,Sz⟩:=store4 S6.s3 (.int .i64 t.kind) (.string ⟨t.lead.toArray⟩) (.string ⟨t.text.toArray⟩) (.int .i64 t.place)
   clear z5 r0 r1 n0 n1 n2
   go_wp2
   go_meet
   exact ⟨(So _ (by omega)).trans S6.s0,(So _ (by omega)).trans S6.s1,(So _ (by omega)).trans S6.s2,S3,(((S6.al.setCell (by show _≤w.heap.size+1+1+1;omega) _).setCell (by show _≤w.heap.size+1+1+1;omega) _).setCell (by show _≤w.heap.size+1+1+1;omega) _).setCell (by show _≤w.heap.size+1+1+1;omega) _⟩
  ·have hk19:(kk == 19)=false:=by rw [← HKK.out,← Bool.not_eq_true,beq_iff_eq];exact hne
   clear hz y0
   go_wp2
   go_meet
   exact S5
 case rest =>
  have S:=hcut
  obtain ⟨w7,rfl⟩:∃ w7:World,w7=wc:=⟨_,rfl⟩
  clear hcut S5 r0 r1 n0 n1 n2 hz y0 HTT HKK HL0
  obtain ⟨r0,r1⟩:=cells2 S.s0
  obtain ⟨n0,n1,n2⟩:=cells3 S.s2
  have hs:=S.size
  have hT7:=HT.out.below (S.al.mono hB)
  have hB7:=Nat.le_trans hB S.al.size
  have hx:=HX.out
  clear HX
  obtain ⟨f0,f1,f2,f3,fz⟩:=cells4 S.s3
  cases hx with
  | group k1 _ h1 hF =>
   obtain ⟨hp1,hp2⟩:=List.getElem?_eq_some_iff.1 h1
   have z1:=cell_later S.al (HKC.out 1 hp1)
   rw [hp2] at z1
   have hp1I:(1:Int)<(ks.length:Int):=by omega
   have HF':=Lib.hid ((hF w7.drew (HT.out.below ((S.al.mono hB).drew)) hB7).mono fun _ _ h=>h.s)
   clear hF h1 hp2
   go_wp2
   go_still_tail 5,(by kernel_rfl)
   change wpList _ _ _ _ _ w7.drew
   go_wp2_with (go_at_call 42;refine HF'.out.mono ?_)
   rintro e w8 ⟨am,wn,cm,ae,ce,rfl,hxe,hb8⟩
   have D1:=(hb8.block (w.heap.size+1) (show w.heap.size+1<w7.heap.size by omega)).trans S.s1
   clear r0 r1 n0 n1 n2 f0 f1 f2 f3
   obtain ⟨⟨d0,d1,d2,d3⟩,⟨d4,d5,d6,d7⟩,dz⟩:=cells8 D1
   go_wp2
   refine bodyPost_ret (v:=.agg #[.int .i64 x.op,.string ⟨x.name.toArray⟩,.string ⟨x.module.toArray⟩,.bool (decide (x.num<0)),.slice am wn cm,.bool x.yes,.slice ae x.kids.length ce,.int .i64 x.at_]) (by simp [results,Tryz.results42,go_sem,d0,d1,d2,d3,d4,d5,d6,d7]) rfl ⟨_,_,rfl,(EPost.store (w0:=w) (b:=w.heap.size+1) hxe hb8 S.al.drew (by omega) (by have:=S.al.size;first|omega|(show w.heap.size+1<w7.heap.size;omega)) _ _ _ _ _ _ _ _).1,(EPost.store (w0:=w) (b:=w.heap.size+1) hxe hb8 S.al.drew (by omega) (by have:=S.al.size;first|omega|(show w.heap.size+1<w7.heap.size;omega)) _ _ _ _ _ _ _ _).2⟩
  | bin _ hF =>
   have HF':=Lib.hid ((hF w7 hT7 hB7).mono fun _ _ h=>h.s)
   clear hF
   go_wp2_with (go_at_call 77;refine HF'.out.mono ?_)
   rintro e w8 ⟨am,wn,cm,ae,ce,rfl,hxe,hb8⟩
   have D1:=(hb8.block (w.heap.size+1) (show w.heap.size+1<w7.heap.size by omega)).trans S.s1
   clear r0 r1 n0 n1 n2 f0 f1 f2 f3
   obtain ⟨⟨d0,d1,d2,d3⟩,⟨d4,d5,d6,d7⟩,dz⟩:=cells8 D1
   go_wp2
   refine bodyPost_ret (v:=.agg #[.int .i64 x.op,.string ⟨x.name.toArray⟩,.string ⟨x.module.toArray⟩,.bool (decide (x.num<0)),.slice am wn cm,.bool x.yes,.slice ae x.kids.length ce,.int .i64 x.at_]) (by simp [results,Tryz.results42,go_sem,d0,d1,d2,d3,d4,d5,d6,d7]) rfl ⟨_,_,rfl,(EPost.store (w0:=w) (b:=w.heap.size+1) hxe hb8 S.al (by omega) (by have:=S.al.size;first|omega|(show w.heap.size+1<w7.heap.size;omega)) _ _ _ _ _ _ _ _).1,(EPost.store (w0:=w) (b:=w.heap.size+1) hxe hb8 S.al (by omega) (by have:=S.al.size;first|omega|(show w.heap.size+1<w7.heap.size;omega)) _ _ _ _ _ _ _ _).2⟩
  | call _ hF =>
   have HF':=Lib.hid ((hF w7 hT7 hB7).mono fun _ _ h=>h.s)
   clear hF
   go_wp2_with (go_at_call 78;refine HF'.out.mono ?_)
   rintro e w8 ⟨am,wn,cm,ae,ce,rfl,hxe,hb8⟩
   have D1:=(hb8.block (w.heap.size+1) (show w.heap.size+1<w7.heap.size by omega)).trans S.s1
   clear r0 r1 n0 n1 n2 f0 f1 f2 f3
   obtain ⟨⟨d0,d1,d2,d3⟩,⟨d4,d5,d6,d7⟩,dz⟩:=cells8 D1
   go_wp2
   refine bodyPost_ret (v:=.agg #[.int .i64 x.op,.string ⟨x.name.toArray⟩,.string ⟨x.module.toArray⟩,.bool (decide (x.num<0)),.slice am wn cm,.bool x.yes,.slice ae x.kids.length ce,.int .i64 x.at_]) (by simp [results,Tryz.results42,go_sem,d0,d1,d2,d3,d4,d5,d6,d7]) rfl ⟨_,_,rfl,(EPost.store (w0:=w) (b:=w.heap.size+1) hxe hb8 S.al (by omega) (by have:=S.al.size;first|omega|(show w.heap.size+1<w7.heap.size;omega)) _ _ _ _ _ _ _ _).1,(EPost.store (w0:=w) (b:=w.heap.size+1) hxe hb8 S.al (by omega) (by have:=S.al.size;first|omega|(show w.heap.size+1<w7.heap.size;omega)) _ _ _ _ _ _ _ _).2⟩
  | not pes htx hM =>
   have HF':=Lib.hid ((hM 6 t.place w7 hT7 hB7).mono fun _ _ h=>h.m)
   rw [htx] at f2
   clear htx
   clear hM
   go_wp2_with (go_at_call 79;refine HF'.out.mono ?_)
   rintro e w8 ⟨am,wn,cm,ae,ce,rfl,hxe,hb8⟩
   have D1:=(hb8.block (w.heap.size+1) (show w.heap.size+1<w7.heap.size by omega)).trans S.s1
   clear r0 r1 n0 n1 n2 f0 f1 f2 f3
   obtain ⟨⟨d0,d1,d2,d3⟩,⟨d4,d5,d6,d7⟩,dz⟩:=cells8 D1
   go_wp2
   refine bodyPost_ret (v:=.agg #[.int .i64 6,.string ⟨#[]⟩,.string ⟨#[]⟩,.bool false,.slice am wn cm,.bool false,.slice ae pes.length ce,.int .i64 t.place]) (by simp [results,Tryz.results42,go_sem,d0,d1,d2,d3,d4,d5,d6,d7]) rfl ⟨_,_,rfl,(EPost.store (w0:=w) (b:=w.heap.size+1) hxe hb8 S.al (by omega) (by have:=S.al.size;first|omega|(show w.heap.size+1<w7.heap.size;omega)) _ _ _ _ _ _ _ _).1,(EPost.store (w0:=w) (b:=w.heap.size+1) hxe hb8 S.al (by omega) (by have:=S.al.size;first|omega|(show w.heap.size+1<w7.heap.size;omega)) _ _ _ _ _ _ _ _).2⟩
  | neg pes htx hM =>
   have HF':=Lib.hid ((hM 5 t.place w7 hT7 hB7).mono fun _ _ h=>h.m)
   rw [htx] at f2
   clear htx
   clear hM
   go_wp2_with (go_at_call 79;refine HF'.out.mono ?_)
   rintro e w8 ⟨am,wn,cm,ae,ce,rfl,hxe,hb8⟩
   have D1:=(hb8.block (w.heap.size+1) (show w.heap.size+1<w7.heap.size by omega)).trans S.s1
   clear r0 r1 n0 n1 n2 f0 f1 f2 f3
   obtain ⟨⟨d0,d1,d2,d3⟩,⟨d4,d5,d6,d7⟩,dz⟩:=cells8 D1
   go_wp2
   refine bodyPost_ret (v:=.agg #[.int .i64 5,.string ⟨#[]⟩,.string ⟨#[]⟩,.bool false,.slice am wn cm,.bool false,.slice ae pes.length ce,.int .i64 t.place]) (by simp [results,Tryz.results42,go_sem,d0,d1,d2,d3,d4,d5,d6,d7]) rfl ⟨_,_,rfl,(EPost.store (w0:=w) (b:=w.heap.size+1) hxe hb8 S.al (by omega) (by have:=S.al.size;first|omega|(show w.heap.size+1<w7.heap.size;omega)) _ _ _ _ _ _ _ _).1,(EPost.store (w0:=w) (b:=w.heap.size+1) hxe hb8 S.al (by omega) (by have:=S.al.size;first|omega|(show w.heap.size+1<w7.heap.size;omega)) _ _ _ _ _ _ _ _).2⟩
  | iff pes hM =>
   have HF':=Lib.hid ((hM 21 t.place w7 hT7 hB7).mono fun _ _ h=>h.m)
   clear hM
   go_wp2_with (go_at_call 79;refine HF'.out.mono ?_)
   rintro e w8 ⟨am,wn,cm,ae,ce,rfl,hxe,hb8⟩
   have D1:=(hb8.block (w.heap.size+1) (show w.heap.size+1<w7.heap.size by omega)).trans S.s1
   clear r0 r1 n0 n1 n2 f0 f1 f2 f3
   obtain ⟨⟨d0,d1,d2,d3⟩,⟨d4,d5,d6,d7⟩,dz⟩:=cells8 D1
   go_wp2
   refine bodyPost_ret (v:=.agg #[.int .i64 21,.string ⟨#[]⟩,.string ⟨#[]⟩,.bool false,.slice am wn cm,.bool false,.slice ae pes.length ce,.int .i64 t.place]) (by simp [results,Tryz.results42,go_sem,d0,d1,d2,d3,d4,d5,d6,d7]) rfl ⟨_,_,rfl,(EPost.store (w0:=w) (b:=w.heap.size+1) hxe hb8 S.al (by omega) (by have:=S.al.size;first|omega|(show w.heap.size+1<w7.heap.size;omega)) _ _ _ _ _ _ _ _).1,(EPost.store (w0:=w) (b:=w.heap.size+1) hxe hb8 S.al (by omega) (by have:=S.al.size;first|omega|(show w.heap.size+1<w7.heap.size;omega)) _ _ _ _ _ _ _ _).2⟩
  | asrt pes hM =>
   have HF':=Lib.hid ((hM 23 t.place w7 hT7 hB7).mono fun _ _ h=>h.m)
   clear hM
   go_wp2_with (go_at_call 79;refine HF'.out.mono ?_)
   rintro e w8 ⟨am,wn,cm,ae,ce,rfl,hxe,hb8⟩
   have D1:=(hb8.block (w.heap.size+1) (show w.heap.size+1<w7.heap.size by omega)).trans S.s1
   clear r0 r1 n0 n1 n2 f0 f1 f2 f3
   obtain ⟨⟨d0,d1,d2,d3⟩,⟨d4,d5,d6,d7⟩,dz⟩:=cells8 D1
   go_wp2
   refine bodyPost_ret (v:=.agg #[.int .i64 23,.string ⟨#[]⟩,.string ⟨#[]⟩,.bool false,.slice am wn cm,.bool false,.slice ae pes.length ce,.int .i64 t.place]) (by simp [results,Tryz.results42,go_sem,d0,d1,d2,d3,d4,d5,d6,d7]) rfl ⟨_,_,rfl,(EPost.store (w0:=w) (b:=w.heap.size+1) hxe hb8 S.al (by omega) (by have:=S.al.size;first|omega|(show w.heap.size+1<w7.heap.size;omega)) _ _ _ _ _ _ _ _).1,(EPost.store (w0:=w) (b:=w.heap.size+1) hxe hb8 S.al (by omega) (by have:=S.al.size;first|omega|(show w.heap.size+1<w7.heap.size;omega)) _ _ _ _ _ _ _ _).2⟩
  | lett pes k1 tx hM h1 hX =>
   obtain ⟨hp1,hp2⟩:=List.getElem?_eq_some_iff.1 h1
   have hk1c:=HKC.out 1 hp1
   rw [hp2] at hk1c
   have HM':=Lib.hid ((hM 22 t.place w7 hT7 hB7).mono fun _ _ h=>h.m)
   have HXX:=Lib.hid hX
   clear hM h1 hp2 hX
   go_wp2_with (go_at_call 79;refine HM'.out.mono ?_)
   rintro e w8 ⟨am,wn,cm,ae,ce,rfl,hxe,hb8⟩
   have S8:=S.later hb8
   have hz8:=hb8.size
   clear r0 r1 n0 n1 n2 f0 f1 f2 f3 fz
   go_upto_region 22 with (fail)
   have ha9:=below_new w8 (.cells #[.int .i64 22,.string ⟨#[]⟩,.string ⟨#[]⟩,.bool false,.slice am wn cm,.bool false,.slice ae pes.length ce,.int .i64 t.place] 40)
   have N9:=heap_alloc_new w8 (.cells #[.int .i64 22,.string ⟨#[]⟩,.string ⟨#[]⟩,.bool false,.slice am wn cm,.bool false,.slice ae pes.length ce,.int .i64 t.place] 40)
   have hx9:=(hxe.imp (fun b hb hlt=>(⟨hb,hlt⟩:w7.heap.size≤b∧b<w8.heap.size))).frame (w':=w8.alloc (.cells #[.int .i64 22,.string ⟨#[]⟩,.string ⟨#[]⟩,.bool false,.slice am wn cm,.bool false,.slice ae pes.length ce,.int .i64 t.place] 40)) ⟨by simp,fun b _ hb=>Lib.alloc_old _ _ _ hb⟩
   have hs9:(w8.alloc (.cells #[.int .i64 22,.string ⟨#[]⟩,.string ⟨#[]⟩,.bool false,.slice am wn cm,.bool false,.slice ae pes.length ce,.int .i64 t.place] 40)).heap.size=w8.heap.size+1:=by simp
   have S9:=S8.later ha9
   clear ha9
   generalize w8.alloc _=w9 at N9 hx9 hs9 S9 ⊢
   have k1c:=cell_later S9.al hk1c
   obtain ⟨r0,r1⟩:=cells2 S9.s0
   obtain ⟨n0,n1,n2⟩:=cells3 S9.s2
   have hp1I:(1:Int)<(ks.length:Int):=by omega
   have HX':=Lib.hid (HXX.out w9.drew (HT.out.below ((S9.al.mono hB).drew)) (show B≤w9.heap.size by have:=S9.al.size;omega))
   go_still_tail 5,(by kernel_rfl)
   change wpList _ _ _ _ _ w9.drew
   go_wp2_with (go_at_call 74;refine HX'.out.mono ?_)
   rintro e w10 ⟨rfl,hb10⟩
   have hb10':Below w9.heap.size w9 w10:=(Below.refl w9.heap.size w9).drew.trans hb10
   have S10:=S9.later hb10'
   have E9:=(hb10'.block w8.heap.size (by omega)).trans N9
   obtain ⟨⟨_,e0,_,_⟩,_,ez⟩:=cells8 E9
   have hx10:=hx9.frame (Alk.of hb10')
   clear r0 r1 n0 n1 n2 k1c N9 hb10 hb10' hx9
   have E9':=heap_setCell_same w10 w8.heap.size 1 _ _ (.string ⟨tx.toArray⟩) E9
   have E1':=(heap_setCell_other w10 ⟨w8.heap.size,1,none⟩ (w.heap.size+1) (.string ⟨tx.toArray⟩) (by show w.heap.size+1≠w8.heap.size;omega)).trans S10.s1
   have hal11:=S10.al.setCell (p:=⟨w8.heap.size,1,none⟩) (by show w.heap.size≤w8.heap.size;omega) (.string ⟨tx.toArray⟩)
   have hx11:=hx10.frame (Alk.set (a:=⟨w8.heap.size,1,none⟩) (.string ⟨tx.toArray⟩) fun b hb=>by show b≠w8.heap.size;omega)
   go_upto_region 23 with (fail)
   generalize w10.setCell _ _=w11 at E9' E1' hal11 hx11 ⊢
   obtain ⟨⟨b0,b1,b2,b3⟩,⟨b4,b5,b6,b7⟩,_⟩:=cells8 (show w11.heap[w8.heap.size]?=some (.cells #[.int .i64 22,.string ⟨tx.toArray⟩,.string ⟨#[]⟩,.bool false,.slice am wn cm,.bool false,.slice ae pes.length ce,.int .i64 t.place] 40 (0,0)) from E9')
   obtain ⟨⟨d0,d1,d2,d3⟩,⟨d4,d5,d6,d7⟩,dz⟩:=cells8 E1'
   clear e0 ez E9
   go_wp2
   refine bodyPost_ret (v:=.agg #[.int .i64 22,.string ⟨tx.toArray⟩,.string ⟨#[]⟩,.bool false,.slice am wn cm,.bool false,.slice ae pes.length ce,.int .i64 t.place]) (by simp [results,Tryz.results42,go_sem,d0,d1,d2,d3,d4,d5,d6,d7]) rfl ⟨.slice am wn cm,.slice ae pes.length ce,rfl,?_,set8_below hal11 (by omega) _ _ _ _ _ _ _ _⟩
   have hq:=(hx11.frame (set8_alk _ _ (w.heap.size+1) (.int .i64 22) (.string ⟨tx.toArray⟩) (.string ⟨#[]⟩) (.bool false) (.slice am wn cm) (.bool false) (.slice ae pes.length ce) (.int .i64 t.place) fun k hk=>by omega)).imp (Q:=fun b=>w.heap.size≤b) fun b hb _=>by omega
   rw [EAt] at hq ⊢
   exact hq
  | num n txt hZ =>
   have HZ:=Lib.hid (hZ w7)
   clear hZ
   go_wp2_with (go_at_call 80;refine HZ.out.mono ?_)
   rintro e w8 ⟨am,wn,cm,rfl,hnum,hb8⟩
   have S8:=S.later hb8
   clear r0 r1 n0 n1 n2 f0 f1 f2 f3 fz
   go_upto_region 26 with (fail)
   have ha9:=below_new w8 (.cells #[.bool false,.slice am wn cm] 37)
   have N9:=heap_alloc_new w8 (.cells #[.bool false,.slice am wn cm] 37)
   have hn9:=XA.frame (P:=fun b=>w7.heap.size≤b) (w:=w8) (w':=w8.alloc (.cells #[.bool false,.slice am wn cm] 37)) (n:=(n:Nat)) (m:=.slice am wn cm) hnum ⟨by simp,fun b _ hb=>Lib.alloc_old _ _ _ hb⟩
   have S9:=S8.later ha9
   clear ha9
   generalize w8.alloc _=w9 at N9 hn9 S9 ⊢
   obtain ⟨_,_,_,f3,_⟩:=cells4 S9.s3
   obtain ⟨b0,b1⟩:=cells2 N9
   obtain ⟨⟨d0,d1,d2,d3⟩,⟨d4,d5,d6,d7⟩,dz⟩:=cells8 S9.s1
   go_wp2
   refine bodyPost_ret (v:=.agg #[.int .i64 1,.string ⟨#[]⟩,.string ⟨#[]⟩,.bool false,.slice am wn cm,.bool false,.slice none 0 0,.int .i64 t.place]) (by simp [results,Tryz.results42,go_sem,d0,d1,d2,d3,d4,d5,d6,d7]) rfl ⟨.slice am wn cm,.slice none 0 0,XA_num _ _ _ _ _,?_,set8_below S9.al (by omega) _ _ _ _ _ _ _ _⟩
   rw [EAt]
   exact ⟨XA.imp (XA.frame hn9 (set8_alk _ _ (w.heap.size+1) (.int .i64 1) (.string ⟨#[]⟩) (.string ⟨#[]⟩) (.bool false) (.slice am wn cm) (.bool false) (.slice none 0 0) (.int .i64 t.place) fun k hk=>by omega)) (fun b hb _=>by omega),[],SlP.nil _ _ _,by rw [EAtL]⟩
  | tru htx =>
   rw [htx] at f2
   clear htx
   obtain ⟨⟨d0,d1,d2,d3⟩,⟨d4,d5,d6,d7⟩,dz⟩:=cells8 S.s1
   go_wp2
   refine bodyPost_ret (v:=.agg #[.int .i64 2,.string ⟨#[]⟩,.string ⟨#[]⟩,.bool false,.slice none 0 0,.bool true,.slice none 0 0,.int .i64 t.place]) (by simp [results,Tryz.results42,go_sem,d0,d1,d2,d3,d4,d5,d6,d7]) rfl ⟨.slice none 0 0,.slice none 0 0,rfl,?_,set8_below S.al (by omega) _ _ _ _ _ _ _ _⟩
   rw [EAt]
   exact ⟨NumAt.zero _ _,[],SlP.nil _ _ _,by rw [EAtL]⟩
  | fls htx =>
   rw [htx] at f2
   clear htx
   obtain ⟨⟨d0,d1,d2,d3⟩,⟨d4,d5,d6,d7⟩,dz⟩:=cells8 S.s1
   go_wp2
   refine bodyPost_ret (v:=.agg #[.int .i64 2,.string ⟨#[]⟩,.string ⟨#[]⟩,.bool false,.slice none 0 0,.bool false,.slice none 0 0,.int .i64 t.place]) (by simp [results,Tryz.results42,go_sem,d0,d1,d2,d3,d4,d5,d6,d7]) rfl ⟨.slice none 0 0,.slice none 0 0,rfl,?_,set8_below S.al (by omega) _ _ _ _ _ _ _ _⟩
   rw [EAt]
   exact ⟨NumAt.zero _ _,[],SlP.nil _ _ _,by rw [EAtL]⟩
  | res =>
   obtain ⟨⟨d0,d1,d2,d3⟩,⟨d4,d5,d6,d7⟩,dz⟩:=cells8 S.s1
   go_wp2
   refine bodyPost_ret (v:=.agg #[.int .i64 4,.string ⟨#[]⟩,.string ⟨#[]⟩,.bool false,.slice none 0 0,.bool false,.slice none 0 0,.int .i64 t.place]) (by simp [results,Tryz.results42,go_sem,d0,d1,d2,d3,d4,d5,d6,d7]) rfl ⟨.slice none 0 0,.slice none 0 0,rfl,?_,set8_below S.al (by omega) _ _ _ _ _ _ _ _⟩
   rw [EAt]
   exact ⟨NumAt.zero _ _,[],SlP.nil _ _ _,by rw [EAtL]⟩
  | nam =>
   obtain ⟨⟨d0,d1,d2,d3⟩,⟨d4,d5,d6,d7⟩,dz⟩:=cells8 S.s1
   go_wp2
   refine bodyPost_ret (v:=.agg #[.int .i64 3,.string ⟨t.text.toArray⟩,.string ⟨#[]⟩,.bool false,.slice none 0 0,.bool false,.slice none 0 0,.int .i64 t.place]) (by simp [results,Tryz.results42,go_sem,d0,d1,d2,d3,d4,d5,d6,d7]) rfl ⟨.slice none 0 0,.slice none 0 0,rfl,?_,set8_below S.al (by omega) _ _ _ _ _ _ _ _⟩
   rw [EAt]
   exact ⟨NumAt.zero _ _,[],SlP.nil _ _ _,by rw [EAtL]⟩
end Go.Proofs.YtbodlpoomfefcaaGreatDoor
