/- Walks and plain laws: AsP, OfW. -/
import Derived.Test.YtbodlpoomfefcaaGreatDoorA33
import Derived.Test.YtbodlpoomfefcaaGreatDoorA31
set_option maxHeartbeats 16000000
set_option maxRecDepth 100000
set_option linter.unusedVariables false
set_option linter.unusedSimpArgs false
namespace Go.Proofs.YtbodlpoomfefcaaGreatDoor
open Go.RowKit Go
theorem asP_yes (B:Nat)(at_:Option Addr)(ct:Nat)(an:Option Addr)(cn:Nat)(S:ByteArray)(toks:List Tok)(nodes:List Nd)(D:List UInt8)(w:World)(h:TreeAt B w (.agg #[.slice at_ toks.length ct,.slice an nodes.length cn]) toks nodes)(hB:B≤w.heap.size)
  (G:GoodT toks nodes D) (hS:S.size≤65536) (hw:wholeF toks=S.data.toList) (hf:progF S.data.toList 200=.good toks nodes) :
  Calls Tryz.prog 39 #[.agg #[.slice at_ toks.length ct,.slice an nodes.length cn],.func (.func 14) #[] #[]] w fun e w'=>e=.returned (.bool true)∧Below w.heap.size w w':=by
 have hft:=G.fewt
 have hfn:=G.few
 obtain ⟨XD,hXD,eX⟩:=bytes_of D
 have HDump:Hid (∀ (B:Nat) (at_:Option Addr) (ct:Nat) (an:Option Addr) (cn:Nat) (W:World),TreeAt B W (.agg #[.slice at_ toks.length ct,.slice an nodes.length cn]) toks nodes→B≤W.heap.size→Calls Tryz.prog 16 #[.agg #[.slice at_ toks.length ct,.slice an nodes.length cn],.int .i64 ((nodes.length:Int) - 1)] W fun e w'=>e=.returned (.tuple #[.string XD,.int .i64 0])∧Below W.heap.size W w') :=
  Lib.hid fun B at_ ct an cn W hT hBW=>(dump_yes G B _ _ W hT hBW).mono fun e w' h=>⟨by rw [h.1,eX],h.2⟩
 have hlen:tokAt toks toks.length≤1099511627776:=by
  rw [← wholeF_len,hw,size_list]
  omega
 have eS:ByteArray.mk (S.data.toList).toArray=S:=by cases S;simp
 have HShow:Hid (∀ W,Below w.heap.size w W→Calls Tryz.prog 15 #[.agg #[.slice at_ toks.length ct,.slice an nodes.length cn]] W fun e w'=>e=.returned (.string S)∧Below W.heap.size W w'):=Lib.hid fun W hW=>by
  obtain ⟨tv',nv',l,e1,e2,_⟩:=h.below (hW.mono hB)
  simp only [Value.agg.injEq,Array.mk.injEq,List.cons.injEq,and_true] at e1
  obtain ⟨rfl,rfl⟩:=e1
  have:=show_any B (.slice at_ toks.length ct) (.slice an nodes.length cn) toks W (by omega) hlen e2 (Nat.le_trans hB hW.size)
  rw [hw,eS] at this
  exact this
 have HForm:=Lib.hid (fun W=>parse_any S 200 W (by omega) (by omega) (by omega))
 rw [hf] at HForm
 have HT:=Lib.hid h
 have hal:=below_new w (.cells #[.slice at_ toks.length ct,.slice an nodes.length cn] 25)
 have e1:=heap_alloc_new w (.cells #[.slice at_ toks.length ct,.slice an nodes.length cn] 25)
 clear h G hf hw hXD eX eS hlen
 go_enter Tryz.func39,Tryz.ntmps39
 go_upto_region 1 with fail
 generalize w.alloc _=w1 at hal e1 ⊢
 obtain ⟨c0,c1⟩:=tree_cells e1
 have hl1:=(Array.getElem?_eq_some_iff.1 e1).1
 go_cut [5,6] (fun a e wx=>a=.string XD∧e=.int .i64 0∧wx.heap[w.heap.size]?=some (.cells #[.slice at_ toks.length ct,.slice an nodes.length cn] 25 (0,0))∧Below w.heap.size w wx)
 case first =>
  go_region_with (first|(go_at_call 17;refine (root_tree at_ toks.length ct an nodes.length cn _ (by omega)).mono ?_;rintro e w5 ⟨rfl,hb5⟩;have d0:=(hb5.cell (p:=⟨w.heap.size,0,none⟩) hl1).trans c0;have d1:=(hb5.cell (p:=⟨w.heap.size,1,none⟩) hl1).trans c1)|(go_at_call 16;refine (HDump.out B at_ ct an cn _ (HT.out.below ((hal.drew.trans (hb5.mono hal.size)).mono hB)) (Nat.le_trans hB (hal.drew.trans (hb5.mono hal.size)).size)).mono ?_;rintro e w6 ⟨rfl,hb6⟩))
  all_goals
   have hb56:=hal.drew.trans (hb5.mono hal.size)
   have T6:=(hb6.block w.heap.size (Nat.lt_of_lt_of_le hl1 hb5.size)).trans ((hb5.block w.heap.size hl1).trans e1)
   go_wp2_with fail
   go_meet
   exact ⟨rfl,rfl,T6,hb56.trans (hb6.mono hb56.size)⟩
 case rest =>
  obtain ⟨rfl,rfl,hT,hbc⟩:=hcut
  clear hal e1 c0 c1 hl1 w1
  obtain ⟨wo,rfl⟩:∃ wo:World,wo=wc:=⟨_,rfl⟩
  obtain ⟨c0,c1⟩:=tree_cells hT
  go_upto_region 3 with (first|(go_at_call 15;refine (HShow.out _ hbc).mono ?_;rintro e w7 ⟨rfl,hb7⟩)|(go_at_call 14;refine (HForm.out _).mono ?_;rintro e w8 ⟨hb8,a8,c8,b8,d8,rfl,ht8⟩))
  have hb78:=(hbc.trans (hb7.mono hbc.size))
  have hb88:=hb78.trans (hb8.mono hb78.size)
  have hT8:=(hb8.block w.heap.size (Nat.lt_of_lt_of_le (Array.getElem?_eq_some_iff.1 hT).1 hb7.size)).trans ((hb7.block w.heap.size (Array.getElem?_eq_some_iff.1 hT).1).trans hT)
  have hlt8:=(Array.getElem?_eq_some_iff.1 hT8).1
  have hal9:=(below_new w8 (.cells #[.slice a8 toks.length c8,.slice b8 nodes.length d8] 25)).alloc (by simp) (.cells #[.int .i64 0,.int .i64 0] 44)
  have hT9:=(hal9.block w.heap.size hlt8).trans hT8
  have hU9:=(Lib.alloc_old (w8.alloc (.cells #[.slice a8 toks.length c8,.slice b8 nodes.length d8] 25)) (.cells #[.int .i64 0,.int .i64 0] 44) w8.heap.size (by simp)).trans (heap_alloc_new w8 (.cells #[.slice a8 toks.length c8,.slice b8 nodes.length d8] 25))
  have hF9:=heap_alloc_new (w8.alloc (.cells #[.slice a8 toks.length c8,.slice b8 nodes.length d8] 25)) (.cells #[.int .i64 0,.int .i64 0] 44)
  rw [World.size_alloc] at hF9
  have hU:=Lib.hid (ht8.at.below hal9)
  have hb9:=hb88.trans (hal9.mono hb88.size)
  have hz9:=hal9.size
  clear hb7 hb8 hT8 hal9 ht8 hb78 hT hbc c0 c1 HShow HForm
  generalize w8.heap.size=ub at hU9 hF9 hU hz9 hlt8 hb88 ⊢
  generalize (w8.alloc _).alloc _=w9 at hT9 hU9 hF9 hU hb9 hz9 ⊢
  obtain ⟨c0,c1⟩:=tree_cells hU9
  have hl9:=(Array.getElem?_eq_some_iff.1 hU9).1
  have hlT:=(Array.getElem?_eq_some_iff.1 hT9).1
  have hlF:=(Array.getElem?_eq_some_iff.1 hF9).1
  go_cut [9,10] (fun a e wx=>a=.string XD∧e=.int .i64 0∧Below w9.heap.size w9 wx)
  case first =>
   go_region_with (first|(go_at_call 17;refine (root_tree a8 toks.length c8 b8 nodes.length d8 _ (by omega)).mono ?_;rintro e w5 ⟨rfl,hb5⟩;have d0:=(hb5.cell (p:=⟨ub,0,none⟩) hl9).trans c0;have d1:=(hb5.cell (p:=⟨ub,1,none⟩) hl9).trans c1)|(go_at_call 16;refine (HDump.out ub a8 c8 b8 d8 _ (hU.out.below (((Below.refl w9.heap.size w9).drew.trans hb5).mono hz9)) (Nat.le_trans hz9 hb5.size)).mono ?_;rintro e w6 ⟨rfl,hb6⟩))
   all_goals
    have hb56:=(Below.refl w9.heap.size w9).drew.trans hb5
    go_wp2_with fail
    go_meet
    exact ⟨rfl,rfl,hb56.trans (hb6.mono hb56.size)⟩
  case rest =>
   obtain ⟨rfl,rfl,hbc⟩:=hcut
   have hTc:=(hbc.block _ hlT).trans hT9
   have hUc:=(hbc.block _ hl9).trans hU9
   have hFc:=(hbc.block _ hlF).trans hF9
   have HU:=Lib.hid (hU.out.below (hbc.mono hz9))
   have hbw:Below w.heap.size w wc:=hb9.trans (hbc.mono hb9.size)
   have HT2:=Lib.hid (HT.out.below (hbw.mono hB))
   clear hT9 hU9 hF9 hU hb9 hz9 hlt8 hb88 c0 c1 hl9 hlT hlF hbc HDump HT
   obtain ⟨wo,rfl⟩:∃ wo:World,wo=wc:=⟨_,rfl⟩
   obtain ⟨c0,c1⟩:=tree_cells hTc
   obtain ⟨u0,u1⟩:=tree_cells hUc
   obtain ⟨f0,f1,_⟩:=fault_cells hFc
   have hlU:=(Array.getElem?_eq_some_iff.1 hUc).1
   have hzo:=hbw.size
   go_wp2
   clear c0 c1 u0 u1 f0 f1
   go_loopw [58] (fun q wr=>∃ k:Nat,k≤toks.length∧q=.int .i64 k∧Below wo.heap.size wo wr) (fun q _=>toks.length - (intOf q).toNat)
   case atStart=>exact ⟨0,Nat.zero_le _,rfl,Below.refl _ _⟩
   case round =>
    obtain ⟨k,hk,rfl,hbl⟩:=hrel
    have hwz:=hbl.size
    by_cases hlt:k<toks.length
    ·obtain ⟨b1,o1,cap1,ev,hb1,t0,t1,t2,t3⟩:=HT2.out.tok hlt
     simp only [Value.slice.injEq] at ev
     obtain ⟨rfl,-,rfl⟩:=ev
     obtain ⟨b2,o2,cap2,ev,hb2,s0,s1,s2,s3⟩:=HU.out.tok hlt
     simp only [Value.slice.injEq] at ev
     obtain ⟨rfl,-,rfl⟩:=ev
     have x0:=(hbl.cell (p:=⟨b1,o1+k * 4,none⟩) (by show b1<_;omega)).trans t0
     have x1:=(hbl.cell (p:=⟨b1,o1+k * 4+1,none⟩) (by show b1<_;omega)).trans t1
     have x2:=(hbl.cell (p:=⟨b1,o1+k * 4+2,none⟩) (by show b1<_;omega)).trans t2
     have x3:=(hbl.cell (p:=⟨b1,o1+k * 4+3,none⟩) (by show b1<_;omega)).trans t3
     generalize toks[k]=tk at x0 x1 x2 x3 s0 s1 s2 s3
     simp only [strV] at x1 x2 s1 s2
     have hal:=below_new wr (.cells #[.int .i64 tk.kind,.string ⟨tk.lead.toArray⟩,.string ⟨tk.text.toArray⟩,.int .i64 tk.place] 80)
     have hba:=hbl.trans (hal.mono hwz)
     have y0:=(hba.cell (p:=⟨b2,o2+k * 4,none⟩) (by show b2<_;omega)).trans s0
     have y1:=(hba.cell (p:=⟨b2,o2+k * 4+1,none⟩) (by show b2<_;omega)).trans s1
     have y2:=(hba.cell (p:=⟨b2,o2+k * 4+2,none⟩) (by show b2<_;omega)).trans s2
     have y3:=(hba.cell (p:=⟨b2,o2+k * 4+3,none⟩) (by show b2<_;omega)).trans s3
     have U2:=(hba.block ub hlU).trans hUc
     have N2:=heap_alloc_new wr (.cells #[.int .i64 tk.kind,.string ⟨tk.lead.toArray⟩,.string ⟨tk.text.toArray⟩,.int .i64 tk.place] 80)
     have hkI:(k:Int)<(toks.length:Int):=by omega
     clear t0 t1 t2 t3 s0 s1 s2 s3 hal
     go_upto_region 9 with fail
     clear x0 x1 x2 x3
     generalize wr.heap.size=nb at N2 ⊢
     generalize wr.alloc _=w2 at hba y0 y1 y2 y3 U2 N2 ⊢
     obtain ⟨d0,d1⟩:=tree_cells U2
     have n0:w2.cell? ⟨nb,0,none⟩=some (.int .i64 tk.kind):=by rw [Lib.cell_of_heap N2];rfl
     have n1:w2.cell? ⟨nb,1,none⟩=some (.string ⟨tk.lead.toArray⟩):=by rw [Lib.cell_of_heap N2];rfl
     have n2:w2.cell? ⟨nb,2,none⟩=some (.string ⟨tk.text.toArray⟩):=by rw [Lib.cell_of_heap N2];rfl
     have n3:w2.cell? ⟨nb,3,none⟩=some (.int .i64 tk.place):=by rw [Lib.cell_of_heap N2];rfl
     clear N2 U2
     go_quiet (fail)
     go_wp2
     go_roundw
     case rel=>exact ⟨k+1,by omega,by go_num,⟨hba.os,hba.tape,hba.output,hba.size,hba.block⟩⟩
     case measure=>simp [intOf];omega
    ·obtain rfl:k=toks.length:=by omega
     have hkI:decide ((toks.length:Int)<(toks.length:Int))=false:=decide_eq_false (by omega)
     go_wp2
     go_ret
     exact ⟨rfl,hbw.trans (hbl.mono hzo)⟩
theorem Tryz.infoImport:(Tryz.prog.info? 89).map (fun i=>(i.zero,i.size,i.bytes))=some (some (.agg #[.string ⟨#[]⟩,.int .i64 0]),2,24):=by kernel_rfl
theorem Tryz.infoDef:(Tryz.prog.info? 64).map (fun i=>(i.zero,i.size,i.bytes))=some (some (.agg #[.bool false,.string ⟨#[]⟩,.slice none 0 0,.int .i64 0,.slice none 0 0,.int .i64 0,.string ⟨#[]⟩,.string ⟨#[]⟩,.bool false,.slice none 0 0,.bool false,.slice none 0 0,.int .i64 0,.int .i64 0,.int .i64 0]),15,208):=by kernel_rfl
theorem Tryz.entersDef:∀ args w,(callFunc 41 args).run Tryz.prog w=.ok (.enter 41 args) w:=Go.Proofs.enters_of Tryz.func41 (by kernel_rfl) rfl
theorem prog_cells2 {w:World}{b:Nat}{c0 c1:Value}(h:w.heap[b]?=some (.cells #[c0,c1] 31 (0,0))):w.cell? ⟨b,0,none⟩=some c0∧w.cell? ⟨b,1,none⟩=some c1∧∀ j,w.frozen? ⟨b,j,none⟩=false:=by
 refine ⟨?_,?_,fun j=>by simp [World.frozen?,h]⟩ <;> (rw [Lib.cell_of_heap h];rfl)
theorem imp_kid {nodes:List Nd}{m u:Nat}(h:Rep nodes m u impPT):∃ (k0 k1 k2:Nat),nodes[m]?=some ⟨(2:Nat),-1,[(k0:Int),k1,k2]⟩∧nodes[k1]?=some ⟨19,((u+1:Nat):Int),[]⟩:=by
 obtain ⟨ks,h1,h2⟩:=rep_node h
 obtain ⟨k0,ks0,rfl,_,h3⟩:=repL_leaf h2
 obtain ⟨k1,ks1,rfl,h4,h5⟩:=repL_leaf h3
 obtain ⟨k2,ks2,rfl,_,h6⟩:=repL_leaf h5
 rw [RepL] at h6
 subst h6
 exact ⟨k0,k1,k2,h1,h4⟩
theorem of_yes (B:Nat)(at_:Option Addr)(ct:Nat)(an:Option Addr)(cn:Nat)(S:ByteArray)(toks:List Tok)(nodes:List Nd)(p:PgS)(w:World)(h:TreeAt B w (.agg #[.slice at_ toks.length ct,.slice an nodes.length cn]) toks nodes)(hB:B≤w.heap.size)(F:PGood S.data.toList toks nodes p) :
  Calls Tryz.prog 12 #[.agg #[.slice at_ toks.length ct,.slice an nodes.length cn]] w (OfPost (p.pp toks) w):=by
 obtain ⟨ii,hii1,hii2,hii3,hii4⟩:=info_parts Tryz.infoImport
 obtain ⟨id,hid1,hid2,hid3,hid4⟩:=info_parts Tryz.infoDef
 have ent:=Tryz.entersDef
 have hft:=F.good.fewt
 have hfn:=F.good.few
 obtain ⟨r,ks,hr1,hn,hk⟩:=root_prog F
 obtain ⟨hlen,hat⟩:=repL_at _ _ _ hk
 have HAT:=Lib.hid hat
 have hkl:=p.kids_len
 rw [← hlen] at hkl
 have HKN:=Lib.hid hkl
 have hkpos:0<ks.length:=by omega
 clear hkl
 have HKL:=Lib.hid hlen
 have HLV:Hid (lvL p.kids=toks.length):=Lib.hid F.lv
 have E:=rde_ok F B (.slice at_ toks.length ct) (.slice an nodes.length cn)
 have HA:=Lib.hid (fun W (hW:Below w.heap.size w W)=>asP_yes B at_ ct an cn S toks nodes _ W (h.below (hW.mono hB)) (Nat.le_trans hB hW.size) F.good (by have:=F.small;rw [size_list] at this;exact this) F.whole F.deep)
 have HDEF:Hid (∀ (d:DfS) (u:Nat),d.ok toks u→u+d.pt.lv≤toks.length→∀ (m:Nat) (W:World),Rep nodes m u d.pt→TreeAt B W (.agg #[.slice at_ toks.length ct,.slice an nodes.length cn]) toks nodes→B≤W.heap.size→Calls Tryz.prog 41 #[.agg #[.slice at_ toks.length ct,.slice an nodes.length cn],.int .i64 m] W (RdPost (d.dd toks u) W)):=Lib.hid (fun d u ho hl m W hr hT hW=>rdef_any E d u ho hl m W hr hT hW)
 have HTK:Hid (∀ (k u:Nat) (W:World),nodes[k]?=some ⟨19,(u:Nat),[]⟩→u<toks.length→TreeAt B W (.agg #[.slice at_ toks.length ct,.slice an nodes.length cn]) toks nodes→B≤W.heap.size→Calls Tryz.prog 40 #[.agg #[.slice at_ toks.length ct,.slice an nodes.length cn],.int .i64 k] W fun e w'=>e=.returned (tokVal (peekF toks u))∧Below W.heap.size W w'):=Lib.hid (fun k u W hl hu hT hW=>by
  have:=rtoken_any B _ _ toks nodes k u W hT hW hl hu
  have e:=tok_peek hu
  rw [List.getElem?_eq_getElem hu] at e
  rw [Option.some.inj e] at this
  exact this)
 have HOK:=Lib.hid F.okk
 have hi16:=F.okk.1
 have hd64:=F.okk.2.1
 have HPI:Hid ((p.pp toks).imports.length=p.imps):=Lib.hid (impsPP_len _ _ _)
 have HPD:Hid ((p.pp toks).defs.length=p.defs.length):=Lib.hid (defsDD_len _ _ _)
 have HIG:Hid (∀ (j:Nat) (hj:j<(p.pp toks).imports.length),(p.pp toks).imports[j]=(textAt toks (3 * j+1),placeAt toks (3 * j+1))):=Lib.hid (fun j hj=>by
  have:=impsPP_get toks p.imps 0 j hj
  rw [Nat.zero_add] at this
  exact this)
 have HDG:Hid (∀ (j:Nat) (h1:j<p.defs.length) (h2:j<(p.pp toks).defs.length),(p.pp toks).defs[j]=p.defs[j].dd toks (3 * p.imps+lvL ((p.defs.take j).map DfS.pt))):=Lib.hid (fun j h1 h2=>defsDD_get toks p.defs (3 * p.imps) j h1 h2)
 generalize p.pp toks=pp at HPI HPD HIG HDG ⊢
 have HT:=Lib.hid h
 have HN:=Lib.hid hn
 have HR1:=Lib.hid hr1
 have hal:=(below_new w (.cells #[.slice at_ toks.length ct,.slice an nodes.length cn] 25)).alloc (by simp) (.cells #[.slice none 0 0,.slice none 0 0] 31)
 have e1:=(Lib.alloc_old (w.alloc (.cells #[.slice at_ toks.length ct,.slice an nodes.length cn] 25)) (.cells #[.slice none 0 0,.slice none 0 0] 31) w.heap.size (by simp)).trans (heap_alloc_new w (.cells #[.slice at_ toks.length ct,.slice an nodes.length cn] 25))
 have e2:=heap_alloc_new (w.alloc (.cells #[.slice at_ toks.length ct,.slice an nodes.length cn] 25)) (.cells #[.slice none 0 0,.slice none 0 0] 31)
 rw [World.size_alloc] at e2
 obtain ⟨c0,c1⟩:=tree_cells e1
 clear h F hn hr1 hk hat hlen E
 go_enter Tryz.func12,Tryz.ntmps12
 go_upto_region 3 with (go_at_call 39;refine (HA.out _ hal).mono ?_;rintro e w3 ⟨rfl,hb3⟩)
 have E1:=(hb3.block w.heap.size (by simp;omega)).trans e1
 have E2:=(hb3.block (w.heap.size+1) (by simp)).trans e2
 have hb4:=hal.trans (hb3.mono (by simp;omega))
 have hz4:=hb4.size
 have hl2:=(Array.getElem?_eq_some_iff.1 E2).1
 obtain ⟨c0,c1⟩:=tree_cells E1
 clear hb3 e1 e2 hal HA
 go_upto_region 5 with fail
 have hb5:=(hb4.alloc hz4 (.cells #[.slice at_ toks.length ct,.slice an nodes.length cn] 86)).alloc (by simp;omega) (.cells #[.slice none 0 0,.slice none 0 0] 31)
 have G1:=(Lib.alloc_old (w3.alloc (.cells #[.slice at_ toks.length ct,.slice an nodes.length cn] 86)) (.cells #[.slice none 0 0,.slice none 0 0] 31) w.heap.size (by simp;omega)).trans ((Lib.alloc_old w3 (.cells #[.slice at_ toks.length ct,.slice an nodes.length cn] 86) w.heap.size (by omega)).trans E1)
 have G2:=(Lib.alloc_old (w3.alloc (.cells #[.slice at_ toks.length ct,.slice an nodes.length cn] 86)) (.cells #[.slice none 0 0,.slice none 0 0] 31) (w.heap.size+1) (by simp;omega)).trans ((Lib.alloc_old w3 (.cells #[.slice at_ toks.length ct,.slice an nodes.length cn] 86) (w.heap.size+1) hl2).trans E2)
 have G3:=(Lib.alloc_old (w3.alloc (.cells #[.slice at_ toks.length ct,.slice an nodes.length cn] 86)) (.cells #[.slice none 0 0,.slice none 0 0] 31) w3.heap.size (by simp)).trans (heap_alloc_new w3 (.cells #[.slice at_ toks.length ct,.slice an nodes.length cn] 86))
 have G4:=heap_alloc_new (w3.alloc (.cells #[.slice at_ toks.length ct,.slice an nodes.length cn] 86)) (.cells #[.slice none 0 0,.slice none 0 0] 31)
 rw [World.size_alloc] at G4
 clear hb4 E1 E2 c0 c1
 have hqb:w.heap.size+1<w3.heap.size:=hl2
 generalize hw4:(w3.alloc _).alloc _=w4 at hb5 G1 G2 G3 G4 ⊢
 have hs4:w4.heap.size=w3.heap.size+1+1:=by rw [← hw4];simp
 clear hw4
 generalize w3.heap.size=qb at hqb hs4 G3 G4 ⊢
 have hz5:=hb5.size
 obtain ⟨hi,hni⟩:=List.getElem?_eq_some_iff.1 HN.out
 obtain ⟨b,off,cap,kv,hnv,hbB,x0,x1,x2,hkv⟩:=HT.out.node hi
 simp only [Value.slice.injEq] at hnv
 obtain ⟨rfl,-,rfl⟩:=hnv
 rw [hni] at hkv
 obtain ⟨ak,ck,rfl,_,hkf⟩:=hkv.form
 simp only at x2 hkf
 obtain ⟨bk,ok,rfl,hbk,hkc⟩:=hkf (by omega)
 have HKC:=Lib.hid hkc
 obtain ⟨c0,c1⟩:=tree_cells G1
 have x2:=cell_later hb5 x2
 have hr1:=HR1.out
 have HNI:Hid (((nodes.length:Int) - 1)=(r:Int)):=Lib.hid (by omega)
 have hrI:(r:Int)<(nodes.length:Int):=by omega
 clear hr1 x0 x1 hkc hkf hkv hni
 go_cut [21,22,23] (fun v1 v2 v3 wc=>v1=.slice (some ⟨bk,ok,none⟩) ks.length ck∧v2=.int .i64 ks.length∧v3=.int .i64 0∧Below w4.heap.size w4 wc)
 case first =>
  go_region_held3 (fun w'=>w'.cell? ⟨w.heap.size,0,none⟩=some (.slice at_ toks.length ct)∧w'.cell? ⟨w.heap.size,1,none⟩=some (.slice (some ⟨b,off,none⟩) nodes.length cn)∧w'.cell? ⟨b,off+r * 3+2,none⟩=some (.slice (some ⟨bk,ok,none⟩) ks.length ck))
   (first|(with_reducible exact p3)|(go_keep;done))
   ((go_at_call 17;refine (root_tree at_ toks.length ct (some ⟨b,off,none⟩) nodes.length cn _ (by omega)).mono ?_;rintro e w5 ⟨rfl,hb6⟩;rw [HNI.out];have hq5:Below w4.heap.size w4 w5:=(Below.refl w4.heap.size w4).drew.trans hb6;have p3:=And.intro (cell_later hq5 c0) (And.intro (cell_later hq5 c1) (cell_later hq5 x2))))
  go_wp2_with fail
  go_meet
  exact ⟨rfl,rfl,rfl,hq5⟩
 case rest =>
  obtain ⟨rfl,rfl,rfl,hbc⟩:=hcut
  obtain ⟨wl,rfl⟩:∃ wl:World,wl=wc:=⟨_,rfl⟩
  have hzl:=hbc.size
  have H1:=(hbc.block w.heap.size (by omega)).trans G1
  have H2:=(hbc.block (w.heap.size+1) (by omega)).trans G2
  have H3:=(hbc.block qb (by omega)).trans G3
  have H4:=(hbc.block (qb+1) (by omega)).trans G4
  have hbl0:=hb5.trans (hbc.mono hz5)
  have hqw:w.heap.size≤qb+1:=by omega
  clear c0 c1 x2 hb5 hbc G1 G2 G3 G4
  go_wp2
  go_loopw [23] (fun q wr=>∃ (j:Nat) (ai:Option Addr) (ni ci:Nat) (ad:Option Addr) (nd cd:Nat),j≤ks.length∧q=.int .i64 j∧Alk (fun b=>b<wl.heap.size∧b≠qb+1) wl wr∧wr.heap[qb+1]?=some (.cells #[.slice ai ni ci,.slice ad nd cd] 31 (0,0))∧OfSt IA DA pp wl (qb+1) 89 64 j wr (.slice ai ni ci) (.slice ad nd cd)∧Below w.heap.size w wr) (fun q _=>ks.length - (intOf q).toNat)
  case atStart=>exact ⟨0,none,0,0,none,0,0,Nat.zero_le _,rfl,Alk.refl _ _,H4,.inl ⟨Nat.zero_le _,by rw [List.take_zero];exact OwnK.nil _ _ _ _,rfl⟩,hbl0⟩
  case round =>
   obtain ⟨j,ai,ni,ci,ad,nd,cd,hj,rfl,halk,hpb,hst,hbl⟩:=hrel
   have hszr:=halk.1
   have R1:=(halk.2 w.heap.size ⟨by omega,by omega⟩ (by omega)).trans H1
   have R3:=(halk.2 qb ⟨by omega,by omega⟩ (by omega)).trans H3
   by_cases hjl:j<ks.length
   ·have hjp:j<p.kids.length:=by have:=HKL.out;omega
    have hrep:=HAT.out j hjl hjp
    have hlv:=lvL_take p.kids j hjp
    rw [HLV.out] at hlv
    rw [Nat.zero_add] at hrep
    have hx:=(hbl.cell (p:=⟨bk,ok+j,none⟩) (by show bk<_;omega)).trans (HKC.out j hjl)
    generalize ks[j]=qk at hx hrep
    have hjI:(j:Int)<(ks.length:Int):=by omega
    obtain ⟨c0,c1⟩:=tree_cells R1
    obtain ⟨r0,r1⟩:=rd_cells R3
    obtain ⟨d0,d1,dz⟩:=prog_cells2 hpb
    have hpwr:=(Array.getElem?_eq_some_iff.1 hpb).1
    clear H1 H2 H3 H4
    rcases Nat.lt_or_ge j p.imps with hji|hji
    ·
     obtain ⟨hjp2,hkj,hlj⟩:=p.kid_imp j hji
     rw [hkj] at hrep hlv
     rw [hlj] at hrep hlv
     obtain ⟨m,rfl⟩:∃ m:Nat,qk=(m:Int):=⟨qk.toNat,by have:=rep_ok hrep;omega⟩
     obtain ⟨k0,k1,k2,hnm,hl1⟩:=imp_kid hrep
     obtain ⟨hm,hnm'⟩:=List.getElem?_eq_some_iff.1 hnm
     obtain ⟨b',off',cap',kv',e',_,y0,_,y2,hky⟩:=HT.out.node hm
     obtain ⟨⟨rfl,rfl⟩,rfl⟩:(b=b'∧off=off')∧cn=cap':=by simpa using e'
     rw [hnm'] at y0 hky
     obtain ⟨ak2,ck2,rfl,_,hkf2⟩:=hky.form
     simp only at y0 y2 hkf2
     obtain ⟨b2,o2,rfl,hb2,hkc2⟩:=hkf2 (by simp)
     have z1:=(hbl.cell (p:=⟨b2,o2+1,none⟩) (by show b2<_;omega)).trans (hkc2 1 (by simp))
     have y0':=(hbl.cell (p:=⟨b,off+m * 3,none⟩) (by show b<_;omega)).trans y0
     have y2':=(hbl.cell (p:=⟨b,off+m * 3+2,none⟩) (by show b<_;omega)).trans y2
     simp only [List.getElem_cons_succ,List.getElem_cons_zero,List.length_cons,List.length_nil,Nat.zero_add] at z1 y2'
     have hmI:(m:Int)<(nodes.length:Int):=by omega
     have hut:3 * j+1<toks.length:=by simp only [impPT,PT.lv,lvL] at hlv;omega
     have hK:=fun W (hb:Below wr.heap.size wr W)=>(HTK.out k1 (3 * j+1) W hl1 hut (HT.out.below ((hbl.trans (hb.mono hbl.size)).mono hB)) (by have:=hbl.size;have:=hb.size;omega)).mono (R':=fun e w'=>e=.returned (tokVal (peekF toks (3 * j+1)))∧Below wr.heap.size wr w'∧Below W.heap.size W w') fun e w' h=>⟨h.1,hb.trans (h.2.mono hb.size),h.2⟩
     have hji2:j<pp.imports.length:=by have:=HPI.out;omega
     have hg:=HIG.out j hji2
     have hsn:pp.imports.take (j+1)=pp.imports.take j++[pp.imports[j]]:=List.take_succ_eq_append_getElem hji2
     rw [hg] at hsn
     unfold textAt placeAt at hsn
     unfold tokVal strV at hK
     generalize peekF toks (3 * j+1)=t at hK hsn
     obtain ⟨tk,tl,tt,tp⟩:=t
     simp only at hK hsn
     have HK:=Lib.hid hK
     have HSN:=Lib.hid hsn
     obtain ⟨_,hown0,hdn⟩:j≤pp.imports.length∧OwnK IA wl.heap.size 89 wr (.slice ai ni ci) (pp.imports.take j)∧Value.slice ad nd cd=.slice none 0 0:=by
      rcases hst with hst|⟨hst,_⟩
      ·exact hst
      ·omega
     simp only [Value.slice.injEq] at hdn
     obtain ⟨rfl,rfl,rfl⟩:=hdn
     clear hK hsn hg e' y0 y2 hky hkf2 hkc2 hnm hnm' hl1 hst hlv hlj hkj hrep
     go_upto_region 10 with fail
     go_cut [8] (fun v wc=>∃ Y:Nat,v=.pointer (some ⟨Y,0,none⟩)∧wc.heap[Y]?=some (.cells #[.int .i64 tk,.string ⟨tl.toArray⟩,.string ⟨tt.toArray⟩,.int .i64 tp] 80 (0,0))∧Below wr.heap.size wr wc)
     case first =>
      have hne0:qb≠wr.heap.size:=by omega
      have hne1:w.heap.size≠wr.heap.size:=by omega
      have hne2:b≠wr.heap.size:=by omega
      have hne3:b2≠wr.heap.size:=by omega
      go_region_held3 (fun w'=>w'.cell? ⟨qb,0,none⟩=some (.slice at_ toks.length ct)∧w'.cell? ⟨qb,1,none⟩=some (.slice (some ⟨b,off,none⟩) nodes.length cn)∧w'.cell? ⟨w.heap.size,1,none⟩=some (.slice (some ⟨b,off,none⟩) nodes.length cn)∧w'.cell? ⟨b,off+m * 3+2,none⟩=some (.slice (some ⟨b2,o2,none⟩) 3 ck2)∧w'.cell? ⟨b2,o2+1,none⟩=some (.int .i64 k1))
       (first|(with_reducible exact p3)|((try dsimp only);with_reducible exact And.intro ((set4_cell w3 wr.heap.size _ _ _ _ hne0).trans p3.1) (And.intro ((set4_cell w3 wr.heap.size _ _ _ _ hne0).trans p3.2.1) (And.intro ((set4_cell w3 wr.heap.size _ _ _ _ hne1).trans p3.2.2.1) (And.intro ((set4_cell w3 wr.heap.size _ _ _ _ hne2).trans p3.2.2.2.1) ((set4_cell w3 wr.heap.size _ _ _ _ hne3).trans p3.2.2.2.2)))))|(go_keep;done))
       (first|(go_at_call 40;refine (HK.out _ ?_).mono ?_;(first|exact (Below.refl _ _).drew|exact ((Below.refl _ _).alloc (Nat.le_refl _) _).drew);rintro e w3 ⟨rfl,hq3,hb3⟩;have p3:=And.intro (cell_later hq3 r0) (And.intro (cell_later hq3 r1) (And.intro (cell_later hq3 c1) (And.intro (cell_later hq3 y2') (cell_later hq3 z1))));try (have hTz:=(hb3.block wr.heap.size (by simp)).trans (heap_alloc_new wr (.cells #[.int .i64 0,.string ⟨#[]⟩,.string ⟨#[]⟩,.int .i64 0] 80));obtain ⟨tz0,tz1,tz2,tz3,tz4⟩:=tok0_cells hTz)))
      ·clear r0 r1 c1 y2' z1 p3
       go_wp2_with fail
       go_meet
       exact ⟨w3.heap.size,rfl,heap_alloc_new _ _,hq3.alloc hq3.size _⟩
      ·obtain ⟨S3,So,_⟩:=store4 hTz (.int .i64 tk) (.string ⟨tl.toArray⟩) (.string ⟨tt.toArray⟩) (.int .i64 tp)
       clear r0 r1 c1 y2' z1 p3 tz0 tz1 tz2 tz3 tz4
       go_wp2_with fail
       go_meet
       exact ⟨wr.heap.size,rfl,S3,(((hq3.setCell (Nat.le_refl _) _).setCell (Nat.le_refl _) _).setCell (Nat.le_refl _) _).setCell (Nat.le_refl _) _⟩
     case rest =>
      obtain ⟨Y,rfl,hY,hbc⟩:=hcut
      obtain ⟨wt,rfl⟩:∃ wt:World,wt=wc:=⟨_,rfl⟩
      have hpb4:=(hbc.block (qb+1) hpwr).trans hpb
      obtain ⟨d0,d1,dz⟩:=prog_cells2 hpb4
      obtain ⟨f2,f3⟩:=tokD_cells hY
      have hnj:(pp.imports.take j).length=j:=by rw [List.length_take];omega
      obtain ⟨_,_,hsl⟩:=hown0.slice
      rw [hnj] at hsl
      obtain ⟨-,rfl,-⟩:_∧ni=j∧_:=by simpa using hsl
      obtain ⟨lrow,h1,hown,hes⟩:=hown0
      rw [hnj] at hown
      have hzt:=hbc.size
      have HNJ:=Lib.hid hnj
      have hneX:some (qb+1)≠(Value.slice ai ni ci).ownBlock:=fun q=>by have:=(hown.lt _ q.symm).1;omega
      clear hnj hsl HK hY
      go_wp2_with (at_builtin;refine wpList_append_lies _ rfl _ _ 28 rfl wl.heap.size 89 ii _ 2 24 Tryz.underlying28 hii1 hii2 hii3 hii4 rfl (by decide) _ ni _ rfl ((own_below hown hbc).alloc _) ⟨wt.heap.size,0,none⟩ 1 1 [.string ⟨tt.toArray⟩,.int .i64 tp] rfl rfl ?c1 ?c2 ?c3 ?c4 ?c5 ?c6 (wt.heap.size+1) (by simp) ?_)
      case c2=>simp [Value.oneCell']
      case c4=>unfold maxLen;omega
      case c5=>omega
      case c6=>first|omega|(simp;omega)
      intro gg cap5 w5 hown5 hgrow5 hat5 hlt5
      have hbe5:=(hgrow5.block (qb+1) (by simp;omega) hneX).trans ((Lib.alloc_old wt _ (qb+1) (by omega)).trans hpb4)
      obtain ⟨d0',d1',dz'⟩:=prog_cells2 hbe5
      obtain ⟨q1,q2,q3⟩:=OwnQ.round (K:=IA) (Q:=fun b=>wl.heap.size≤b) (wr:=wr) (kv:=.slice ai ni ci) (kv5:=.slice (some ⟨gg,0,none⟩) (ni+1) cap5) (acc:=pp.imports.take ni) (a:=(tt,tp)) (x:=()) (l:=lrow) halk (show qb+1<wl.heap.size by omega) (by omega) h1 (by rw [HNJ.out];exact hown) hes trivial hbc (by rw [HNJ.out];exact hown5) hgrow5 rfl hat5 0 (.slice (some ⟨gg,0,none⟩) (ni+1) cap5)
      have hbe6:(w5.setCell ⟨qb+1,0,none⟩ (.slice (some ⟨gg,0,none⟩) (ni+1) cap5)).heap[qb+1]?=some (.cells #[.slice (some ⟨gg,0,none⟩) (ni+1) cap5,.slice none 0 0] 31 (0,0)):=heap_setCell_same w5 (qb+1) 0 _ _ _ hbe5
      have hbl6:=q3 w.heap.size w hqw hbl
      clear hgrow5 hown5 hat5 hbe5 hpb4 hes hown halk hpb d0 d1 dz f2 f3 hx y0' r0 r1 c0 c1 z1 y2' R1 R3 hbl h1 hbc
      go_wp2
      clear d0' d1' dz'
      generalize w5.setCell _ _=w6' at q1 q2 hbe6 hbl6 ⊢
      go_roundw
      case rel =>
       refine ⟨ni+1,some ⟨gg,0,none⟩,ni+1,cap5,none,0,0,by omega,by go_num,q2,hbe6,.inl ⟨by omega,?_,rfl⟩,hbl6⟩
       rw [HSN.out]
       exact q1
      case measure=>simp [intOf];omega
    ·obtain ⟨jd,rfl⟩:∃ jd,j=p.imps+jd:=⟨j - p.imps,by omega⟩
     obtain ⟨hnil,w2,hw2,ha2,hri,hb2w,hdo⟩:=hst.two (by have:=HPI.out;omega) halk
     have hsub:p.imps+jd - pp.imports.length=jd:=by have:=HPI.out;omega
     rw [hsub] at hdo
     have HNIL:=Lib.hid hnil
     have HRI:=Lib.hid hri
     have HA2:=Lib.hid ha2
     rcases Nat.lt_or_ge jd p.defs.length with hjd|hjd
     ·
      obtain ⟨hjp2,hkj,hlj⟩:=p.kid_def jd hjd
      rw [hkj] at hrep hlv
      rw [hlj] at hrep hlv
      obtain ⟨m,rfl⟩:∃ m:Nat,qk=(m:Int):=⟨qk.toNat,by have:=rep_ok hrep;omega⟩
      have hok:=defsOk_get p.defs (3 * p.imps) jd hjd HOK.out.2.2.2
      have hjd2:jd<pp.defs.length:=by have:=HPD.out;omega
      have hg:=HDG.out jd hjd hjd2
      have hC:=HDEF.out p.defs[jd] _ hok hlv m wr.drew hrep (HT.out.below (hbl.mono hB).drew) (Nat.le_trans hB hbl.size)
      rw [← hg] at hC
      have hsn:pp.defs.take (jd+1)=pp.defs.take jd++[pp.defs[jd]]:=List.take_succ_eq_append_getElem hjd2
      have hrep3:Rep nodes m (3 * p.imps+lvL (List.map DfS.pt (List.take jd p.defs))) (.node 3 p.defs[jd].kids):=hrep
      obtain ⟨ks2,hnm,_⟩:=rep_node hrep3
      obtain ⟨hm,hnm'⟩:=List.getElem?_eq_some_iff.1 hnm
      obtain ⟨b',off',cap',kv',e',_,y0,_,_,_⟩:=HT.out.node hm
      obtain ⟨⟨rfl,rfl⟩,rfl⟩:(b=b'∧off=off')∧cn=cap':=by simpa using e'
      rw [hnm'] at y0
      simp only at y0
      have y0':=(hbl.cell (p:=⟨b,off+m * 3,none⟩) (by show b<_;omega)).trans y0
      have hmI:(m:Int)<(nodes.length:Int):=by omega
      generalize pp.defs[jd]=d at hC hsn
      have HC:=Lib.hid hC
      have HSN:=Lib.hid hsn
      have hnj:(pp.defs.take jd).length=jd:=by rw [List.length_take];omega
      obtain ⟨_,_,hsl⟩:=hdo.slice
      rw [hnj] at hsl
      obtain ⟨-,rfl,-⟩:_∧nd=jd∧_:=by simpa using hsl
      obtain ⟨lrow,h1,hown,hes⟩:=hdo
      rw [hnj] at hown
      have HNJ:=Lib.hid hnj
      have hlts:∀ b,some b=(Value.slice ad nd cd).ownBlock→w2.heap.size≤b∧b<wr.heap.size:=fun b q=>hown.lt b q.symm
      have hneX:some (qb+1)≠(Value.slice ad nd cd).ownBlock:=fun q=>by have:=(hlts _ q).1;omega
      have HL:=Lib.hid hlts
      have hX2:qb+1<w2.heap.size:=by omega
      have hsz2:=hb2w.1
      clear hnil hri ha2 hst hC hsn hg hok hnj hsl hlts y0 e' hnm hnm' hrep hrep3 hkj hlj hlv hjp2 hsub
      go_wp2
      go_region_law ((first
       | (refine step_append_lies _ (by rfl) _ _ _ (by rfl) w2.heap.size 64 id _ 15 208 Tryz.underlying29 hid1 hid2 hid3 hid4 rfl (by omega) (.slice ad nd cd) nd _ (by rfl) ((own_below (owns_drew hown) hb2).alloc _) ⟨W2.heap.size,0,none⟩ 1 1 [.bool d.pub,.string ⟨d.res.name.toArray⟩,.slice ap d.params.length cp,.int .i64 d.res.base,.slice ac d.res.clause.length cc,.int .i64 d.body.op,.string ⟨d.body.name.toArray⟩,.string ⟨d.body.module.toArray⟩,.bool (decide (d.body.num<0)),.slice am wn cm,.bool d.body.yes,.slice ae d.body.kids.length ce,.int .i64 d.body.at_,.int .i64 d.res.at_,.int .i64 d.res.bare] (by rfl) (by rfl) (World.news_of_block (cs:=#[.bool d.pub,.string ⟨d.res.name.toArray⟩,.slice ap d.params.length cp,.int .i64 d.res.base,.slice ac d.res.clause.length cc,.int .i64 d.body.op,.string ⟨d.body.name.toArray⟩,.string ⟨d.body.module.toArray⟩,.bool (decide (d.body.num<0)),.slice am wn cm,.bool d.body.yes,.slice ae d.body.kids.length ce,.int .i64 d.body.at_,.int .i64 d.res.at_,.int .i64 d.res.bare]) (t:=64) (fr:=(0,0)) (heap_alloc_new W2 _)) (by simp [Value.oneCell']) (by omega) (by unfold maxLen;omega) (by omega) (by have:=hb2.size;simp at this ⊢;omega) (W2.heap.size+1) (by simp) ?_;intro gg cap5 w5 hown5 hgrow5 hat5 hlt5;have hbe5:=(hgrow5.block (qb+1) (by have:=hb2.size;simp at this ⊢;omega) hneX).trans ((Lib.alloc_old W2 _ (qb+1) (by have:=hb2.size;simp at this;omega)).trans hbe2);have r65:=(prog_cells2 hbe5).2.1;have z65:=(prog_cells2 hbe5).2.2 1)
       | (refine step_call rfl 41 _ _ rfl HC.out (by rfl) (ent _ _) ?_;rintro e W2 ⟨ap,cp,ac,cc,am,wn,cm,ae,ce,rfl,hxe,hb2⟩;refine ⟨_,rfl,?_⟩;have hbe2:=(hb2.block (qb+1) hpwr).trans hpb;have r62:=(prog_cells2 hbe2).2.1;have r63:=fun o=>Lib.cell?_alloc_some o r62)))
      all_goals
       obtain ⟨q1,q2,q3⟩:=OwnQ.round (K:=DA) (Q:=fun b=>w2.heap.size≤b) (wr:=wr.drew) (kv:=.slice ad nd cd) (kv5:=.slice (some ⟨gg,0,none⟩) (nd+1) cap5) (acc:=pp.defs.take nd) (a:=d) (x:=⟨.slice ap d.params.length cp,.slice ac d.res.clause.length cc,.slice am wn cm,.slice ae d.body.kids.length ce⟩) (l:=lrow) (show Alk _ w2 wr.drew from hb2w) hX2 (by omega) h1 (by rw [HNJ.out];exact hown) (fun p hp=>DA.frame (hes p hp) (Alk.drew _ wr)) (DA.imp (P:=fun b=>wr.drew.heap.size≤b) hxe fun b hb _=>⟨Nat.le_trans hsz2 hb,fun q=>by have:=(HL.out b q).2;have:wr.drew.heap.size=wr.heap.size:=rfl;omega⟩) hb2 (by rw [HNJ.out];exact hown5) hgrow5 rfl hat5 1 (.slice (some ⟨gg,0,none⟩) (nd+1) cap5)
       have hbe6:(w5.setCell ⟨qb+1,1,none⟩ (.slice (some ⟨gg,0,none⟩) (nd+1) cap5)).heap[qb+1]?=some (.cells #[.slice ai ni ci,.slice (some ⟨gg,0,none⟩) (nd+1) cap5] 31 (0,0)):=heap_setCell_same w5 (qb+1) 1 _ _ _ hbe5
       have hbl6:=q3 w.heap.size w hqw hbl.drew
       clear hgrow5 hown5 hat5 hbe5 r65 z65 hbe2 r62 r63 hxe hb2 HC hes hown halk hpb d0 d1 dz hx y0' r0 r1 c0 c1 R1 R3 hbl h1 hb2w
       generalize w5.setCell _ _=w6' at q1 q2 hbe6 hbl6 ⊢
       go_wp2
       go_roundw
       case rel =>
        refine ⟨p.imps+nd+1,ai,ni,ci,some ⟨gg,0,none⟩,nd+1,cap5,by omega,by go_num,?_,hbe6,.inr ⟨by have:=HPI.out;omega,HNIL.out,w2,hw2,HA2.out,HRI.out,q2,?_⟩,hbl6⟩
        ·exact HA2.out.trans ⟨q2.1,fun b hb hl=>q2.2 b ⟨by omega,hb.2⟩ hl⟩
        ·rw [show p.imps+nd+1 - pp.imports.length=nd+1 by have:=HPI.out;omega,HSN.out]
         exact q1
       case measure=>simp [intOf];omega
     ·obtain ⟨hjp2,hkj⟩:=p.kid_end
      obtain rfl:jd=p.defs.length:=by have:=HKN.out;omega
      rw [hkj] at hrep
      obtain ⟨m,rfl,hnm⟩:=Rep.leafAt hrep
      obtain ⟨hm,hnm'⟩:=List.getElem?_eq_some_iff.1 hnm
      obtain ⟨b',off',cap',kv',e',_,y0,_,_,_⟩:=HT.out.node hm
      obtain ⟨⟨rfl,rfl⟩,rfl⟩:(b=b'∧off=off')∧cn=cap':=by simpa using e'
      rw [hnm'] at y0
      simp only at y0
      have y0':=(hbl.cell (p:=⟨b,off+m * 3,none⟩) (by show b<_;omega)).trans y0
      have hmI:(m:Int)<(nodes.length:Int):=by omega
      clear hnil hri ha2 hst y0 e' hnm hnm' hrep hkj hlv hjp2 hsub
      go_wp2
      go_roundw
      case rel =>
       refine ⟨p.imps+p.defs.length+1,ai,ni,ci,ad,nd,cd,by omega,by go_num,halk,hpb,.inr ⟨by have:=HPI.out;omega,HNIL.out,w2,hw2,HA2.out,HRI.out,hb2w,?_⟩,hbl⟩
       rw [show p.imps+p.defs.length+1 - pp.imports.length=pp.defs.length+1 by have:=HPI.out;have:=HPD.out;omega,List.take_of_length_le (by omega)]
       rw [← HPD.out,List.take_length] at hdo
       exact hdo
      case measure=>simp [intOf];omega
   ·
    obtain rfl:j=ks.length:=by omega
    have hjI:decide ((ks.length:Int)<(ks.length:Int))=false:=decide_eq_false (by omega)
    obtain ⟨hnil,w2,hw2,ha2,hri,hb2w,hdo⟩:=hst.two (by have:=HPI.out;have:=HKN.out;omega) halk
    rw [List.take_of_length_le (by have:=HPI.out;have:=HPD.out;have:=HKN.out;omega)] at hdo
    have hR2:=(halk.2 (w.heap.size+1) ⟨by omega,by omega⟩ (by omega)).trans H2
    have hrw:RowK IA (fun b=>wl.heap.size≤b) wr (.slice ai ni ci) pp.imports:=((hri.imp (Q:=fun b=>wl.heap.size≤b∧b<w2.heap.size∧b≠qb+1) fun b hb hl=>⟨hb,hl,by omega⟩).frame ⟨hb2w.1,fun b hb hl=>hb2w.2 b hb.2 hl⟩).imp fun b hb _=>hb.1
    have hrd:RowK DA (fun b=>wl.heap.size≤b) wr (.slice ad nd cd) pp.defs:=hdo.row.imp fun b hb _=>by omega
    obtain ⟨_,_,hs1⟩:=hrw.slice
    obtain ⟨_,_,hs2⟩:=hrd.slice
    obtain ⟨-,rfl,-⟩:_∧ni=pp.imports.length∧_:=by simpa using hs1
    obtain ⟨-,rfl,-⟩:_∧nd=pp.defs.length∧_:=by simpa using hs2
    obtain ⟨d0,d1,dz⟩:=prog_cells2 hpb
    obtain ⟨e0,e1,ez⟩:=prog_cells2 hR2
    clear hst hri hdo hs1 hs2 H1 H2 H3 H4 R1 R3 hb2w ha2 hw2 halk hpb hR2
    go_wp2
    refine bodyPost_ret (v:=.tuple #[.agg #[.slice ai pp.imports.length ci,.slice ad pp.defs.length cd],.int .i64 0]) (by simp [results,Tryz.results12,go_sem,e0,e1]) rfl ⟨ai,ci,ad,cd,rfl,fun q=>hnil _ _ (by rw [q]),⟨?_,?_⟩,?_⟩
    ·exact (hrw.frame ((Alk.set _ fun b hb=>by show b≠w.heap.size+1;omega).trans (Alk.set _ fun b hb=>by show b≠w.heap.size+1;omega))).imp fun b hb _=>by omega
    ·exact (hrd.frame ((Alk.set _ fun b hb=>by show b≠w.heap.size+1;omega).trans (Alk.set _ fun b hb=>by show b≠w.heap.size+1;omega))).imp fun b hb _=>by omega
    ·exact (hbl.setCell (by simp) _).setCell (by simp) _
end Go.Proofs.YtbodlpoomfefcaaGreatDoor
