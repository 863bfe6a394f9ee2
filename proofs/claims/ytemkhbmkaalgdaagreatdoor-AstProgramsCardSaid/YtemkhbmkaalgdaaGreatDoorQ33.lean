/- Walks and plain laws: AstW1, ATypedW, ADumpW. -/
import Derived.Test.YtemkhbmkaalgdaaGreatDoorQ32
set_option maxHeartbeats 16000000
set_option maxRecDepth 100000
namespace Go.Proofs.YtemkhbmkaalgdaaGreatDoor
open Go.RowKit Go
theorem dumpX_any {M:Nat}(x:PE)(hf:x.fits M)(B:Nat)(am:Option Addr)(wn cm:Nat)(ae:Option Addr)(ce:Nat)(w:World)(h:EAt XA (fun b=>b<B) w (.slice am wn cm) (.slice ae x.kids.length ce) x)(hB:B≤w.heap.size)(hd:x.dump.length≤1099511627776)(hz:x.size≤1099511627776) :
  Calls Tryz.prog 26 #[.agg #[.int .i64 x.op,.string ⟨x.name.toArray⟩,.string ⟨x.module.toArray⟩,.bool (decide (x.num<0)),.slice am wn cm,.bool x.yes,.slice ae x.kids.length ce,.int .i64 x.at_]] w (StrPost x.dump w):=by
 have hbb:=(below_new w (.cells (boxA x.op ⟨x.name.toArray⟩ ⟨x.module.toArray⟩ (decide (x.num<0)) (.slice am wn cm) x.yes (.slice ae x.kids.length ce) x.at_) 40))
 have hbd:=Bld.fresh (w.alloc (.cells (boxA x.op ⟨x.name.toArray⟩ ⟨x.module.toArray⟩ (decide (x.num<0)) (.slice am wn cm) x.yes (.slice ae x.kids.length ce) x.at_) 40))
 rw [World.size_alloc] at hbd
 have hb2:=hbb.alloc hbb.size (.cells #[.pointer none,.slice none 0 0] 102)
 have hbox:=(Lib.alloc_old _ (.cells #[.pointer none,.slice none 0 0] 102) w.heap.size (by simp)).trans (heap_alloc_new w (.cells (boxA x.op ⟨x.name.toArray⟩ ⟨x.module.toArray⟩ (decide (x.num<0)) (.slice am wn cm) x.yes (.slice ae x.kids.length ce) x.at_) 40))
 have hHD:=fun W hW hWB=>edump_any (SizeOf.sizeOf x+1) x (by omega) hf B (w.heap.size+1) (w.heap.size+1) am wn cm ae ce [] W hW (by omega) hWB
 have HD:=Lib.hid hHD
 have HE:=Lib.hid (fun W (hW:Below w.heap.size w W)=>EAt.frame (Alk.ofB hW (fun b hb=>by omega)) h)
 have hs2:w.heap.size+1≤((w.alloc (.cells (boxA x.op ⟨x.name.toArray⟩ ⟨x.module.toArray⟩ (decide (x.num<0)) (.slice am wn cm) x.yes (.slice ae x.kids.length ce) x.at_) 40)).alloc (.cells #[.pointer none,.slice none 0 0] 102)).heap.size:=by simp
 clear hbb hHD h
 go_enter Tryz.func26,Tryz.ntmps26
 go_upto_region 2 with fail
 change Code.wp _ _ _ _ ((w.alloc (.cells (boxA x.op ⟨x.name.toArray⟩ ⟨x.module.toArray⟩ (decide (x.num<0)) (.slice am wn cm) x.yes (.slice ae x.kids.length ce) x.at_) 40)).alloc (.cells #[.pointer none,.slice none 0 0] 102))
 generalize (w.alloc _).alloc _=w2 at hbd hb2 hbox hs2 ⊢
 obtain ⟨y0,y1,y2,y3,y4,y5,y6,y7⟩:=boxA_cells hbox
 have HC:=Lib.hid (HD.out w2 (HE.out w2 hb2) hbd hs2 (by simpa using hd) hz)
 clear hbd hbox HD HE
 go_wp2_with (first|(go_at_call 45;refine HC.out.mono ?_;rintro e w3 ⟨rfl,hbd3,hl3,ho3⟩;rw [List.nil_append] at hbd3;have hz3:=hl3.size)|(go_at_call 37;refine (bstring_any _ _ x.dump _ hbd3 (by omega)).mono ?_;rintro e w4 ⟨rfl,hbd4,hl4,ho4⟩))
 go_ret
 exact ⟨rfl,hb2.trans ((hl3.trans hl4).mono (by omega))⟩
theorem int_beq {a b:Nat}(h:a=b):((a:Int) == (b:Int))=true:=by rw [h];exact beq_self_eq_true _
theorem anchor_any (w:World):Calls Tryz.prog 6 #[] w fun e w'=>e=.returned (.bool true)∧Below w.heap.size w w':=by
 obtain ⟨toks,nodes,hform,F,hd,hsz,hat⟩:∃ toks nodes,formF (ByteArray.mk #[40,120,41,43,49]).data.toList 9=.good toks nodes∧FGood (ByteArray.mk #[40,120,41,43,49]).data.toList toks nodes exC∧(exC.pe toks 0).dump=[91,55,32,91,51,32,120,93,32,91,49,32,49,93,93]∧(exC.pe toks 0).size=3∧(exC.pe toks 0).at_=3:=⟨exF,_,exF_form,ex_good,ex_dump,ex_size,by rw [ex_pe];rfl⟩
 have HF:=Lib.hid (fun W=>formula_any ⟨#[40,120,41,43,49]⟩ 9 W (by omega) (by omega) (by decide))
 rw [hform] at HF
 have hfit:=F.fits
 have HFo:=Lib.hid (fun B at_ ct an cn W hT hB=>formulaOf_yes B at_ ct an cn ⟨#[40,120,41,43,49]⟩ toks nodes exC W hT hB F)
 generalize exC.pe toks 0=x at HFo hd hsz hat hfit
 have HDX:Hid (∀ (B:Nat) (am:Option Addr) (wn cm:Nat) (ae:Option Addr) (ce:Nat) (W:World),EAt XA (fun b=>b<B) W (.slice am wn cm) (.slice ae x.kids.length ce) x→B≤W.heap.size→Calls Tryz.prog 26 #[.agg #[.int .i64 x.op,.string ⟨x.name.toArray⟩,.string ⟨x.module.toArray⟩,.bool (decide (x.num<0)),.slice am wn cm,.bool x.yes,.slice ae x.kids.length ce,.int .i64 x.at_]] W fun e w'=>e=.returned (.string ⟨#[91,55,32,91,51,32,120,93,32,91,49,32,49,93,93]⟩)∧Below W.heap.size W w'):=Lib.hid (fun B am wn cm ae ce W hE hB=>(dumpX_any x hfit B am wn cm ae ce W hE hB (by rw [hd];decide) (by omega)).mono fun e w' h=>⟨by rw [h.1,hd],h.2⟩)
 have HSX:=Lib.hid (fun B am wn cm ae ce W hE hB=>size_any (SizeOf.sizeOf x+1) x (by omega) B am wn cm ae ce W hE hB (by omega))
 have h3a:((x.at_:Int) == 3)=true:=int_beq hat
 have h3s:((x.size:Int) == 3)=true:=int_beq hsz
 clear hform hfit hd hsz hat F
 go_enter Tryz.func6,Tryz.ntmps6
 go_upto_region 2 with (go_at_call 25;refine (HF.out _).mono ?_;rintro e w1 ⟨hb1,at_,ct,an,cn,rfl,hty⟩)
 have hb2:=(below_new w1 (.cells #[.slice at_ toks.length ct,.slice an nodes.length cn] 25)).alloc (by simp) (.cells #[.int .i64 0,.int .i64 0] 44)
 have hT:=(hty.at).below hb2
 have e1:=(Lib.alloc_old (w1.alloc (.cells #[.slice at_ toks.length ct,.slice an nodes.length cn] 25)) (.cells #[.int .i64 0,.int .i64 0] 44) w1.heap.size (by simp)).trans (heap_alloc_new w1 (.cells #[.slice at_ toks.length ct,.slice an nodes.length cn] 25))
 have hbw:=hb1.trans (hb2.mono hb1.size)
 have hs2:=hb2.size
 clear hty hb1 hb2 HF
 generalize (w1.alloc _).alloc _=w3 at hT e1 hbw hs2 ⊢
 obtain ⟨c0,c1⟩:=tree_cells e1
 have HFx:=Lib.hid (HFo.out w1.heap.size at_ ct an cn w3 hT hs2)
 clear HFo hT e1
 go_upto_region 3 with (go_at_call 9;refine HFx.out.mono ?_;rintro e w4 ⟨am,wn,cm,ae,ce,rfl,hx4,hb4⟩)
 have hb5:=(hb4.alloc hb4.size (.cells (boxA x.op ⟨x.name.toArray⟩ ⟨x.module.toArray⟩ (decide (x.num<0)) (.slice am wn cm) x.yes (.slice ae x.kids.length ce) x.at_) 40))
 have hbox:=heap_alloc_new w4 (.cells (boxA x.op ⟨x.name.toArray⟩ ⟨x.module.toArray⟩ (decide (x.num<0)) (.slice am wn cm) x.yes (.slice ae x.kids.length ce) x.at_) 40)
 have hx5:EAt XA (fun b=>b<w4.heap.size) (w4.alloc (.cells (boxA x.op ⟨x.name.toArray⟩ ⟨x.module.toArray⟩ (decide (x.num<0)) (.slice am wn cm) x.yes (.slice ae x.kids.length ce) x.at_) 40)) (.slice am wn cm) (.slice ae x.kids.length ce) x:=(hx4.imp (fun b _ h=>h)).frame ⟨by simp,fun b _ hb=>Lib.alloc_old _ _ _ hb⟩
 have hs5:w4.heap.size≤(w4.alloc (.cells (boxA x.op ⟨x.name.toArray⟩ ⟨x.module.toArray⟩ (decide (x.num<0)) (.slice am wn cm) x.yes (.slice ae x.kids.length ce) x.at_) 40)).heap.size:=by simp
 have hbw5:=hbw.trans (hb5.mono hbw.size)
 clear hx4 hb4 hb5 hbw HFx c0 c1
 change Code.wp _ _ _ _ (w4.alloc (.cells (boxA x.op ⟨x.name.toArray⟩ ⟨x.module.toArray⟩ (decide (x.num<0)) (.slice am wn cm) x.yes (.slice ae x.kids.length ce) x.at_) 40))
 generalize hbs:w4.heap.size=bs at hbox hx5 hs5 ⊢
 clear hbs
 generalize w4.alloc _=w5 at hbox hx5 hs5 hbw5 ⊢
 obtain ⟨y0,y1,y2,y3,y4,y5,y6,y7⟩:=boxA_cells hbox
 have HD5:=Lib.hid (HDX.out bs am wn cm ae ce w5 hx5 hs5)
 have HE5:=Lib.hid hx5
 have HB5:=Lib.hid hbox
 clear hx5 hbox HDX
 go_wp2_with (first|(go_at_call 26;refine HD5.out.mono ?_;rintro e w6 ⟨rfl,hb6⟩;have hbox6:=(hb6.block bs (Array.getElem?_eq_some_iff.1 HB5.out).1).trans HB5.out;obtain ⟨z0,z1,z2,z3,z4,z5,z6,z7⟩:=boxA_cells hbox6;have HS6:=Lib.hid (HSX.out bs am wn cm ae ce w6 (HE5.out.frame (Alk.of hb6)) (Nat.le_trans hs5 hb6.size)))|(go_at_call 27;refine HS6.out.mono ?_;rintro e w7 ⟨rfl,hb7⟩))
 go_ret
 exact ⟨rfl,(hbw5.trans (hb6.mono hbw5.size)).trans (hb7.mono (Nat.le_trans hbw5.size hb6.size))⟩
theorem clDump_append:∀ (a b:List PE),clDump (a++b)=clDump a++clDump b
 | [],b=>rfl
 | e :: a,b=>by rw [List.cons_append,clDump,clDump,clDump_append a b,List.append_assoc]
theorem atyped_any {M:Nat}(base:Nat)(cl:List PE)(B:Nat)(ao:Option Addr)(cc:Nat)(w:World)(h:RowK (EK XA) (fun b=>b<B) w (.slice ao cl.length cc) cl)(hB:B≤w.heap.size)(hb:base<100)(hcl:cl.length≤1000)
  (hf:∀ e∈cl,e.fits M) (hz:∀ e∈cl,e.size≤1099511627776) (hd:∀ e∈cl,e.dump.length≤1099511627776) (hl:(clDump cl).length≤1000000000000) :
  Calls Tryz.prog 41 #[.int .i64 base,.slice ao cl.length cc] w (StrPost ([58]++decF base++clDump cl) w):=by
 obtain ⟨ao',cc',hv,hcap,hform⟩:=h.form
 simp only [Value.slice.injEq] at hv
 obtain ⟨rfl,-,rfl⟩:=hv
 have HF:=Lib.hid hform
 obtain ⟨DG,hDG,eDG⟩:=bytes_of (decF base)
 have HIT:=Lib.hid (fun W=>itoa_any base hb W)
 rw [eDG] at HIT
 have HD0:=Lib.hid hDG
 have HX:=Lib.hid (fun (x:PE) (hx:x∈cl) am wn cm ae ce W hW hWB=>dumpX_any x (hf x hx) B am wn cm ae ce W hW hWB (hd x hx) (hz x hx))
 have hdg:DG.size≤2:=by rw [← size_list,hDG];exact dec_two hb
 have HLT:Hid (∀ j,(clDump (cl.take j)).length≤(clDump cl).length):=Lib.hid fun j=>by
  have:=congrArg List.length (clDump_append (cl.take j) (cl.drop j))
  rw [List.take_append_drop,List.length_append] at this
  omega
 clear h hform hDG eDG hf hz hd
 go_enter Tryz.func41,Tryz.ntmps41
 go_wp2_with (go_at_call 63;refine (HIT.out _).mono ?_;rintro e w1 ⟨rfl,rfl⟩)
 go_loopw [5,13] (fun s q wr=>∃ (j:Nat) (S:ByteArray),j≤cl.length∧q=.int .i64 j∧s=.string S∧S.data.toList=[58]++decF base++clDump (cl.take j)∧Below w1.heap.size w1 wr) (fun _ q _=>cl.length - (intOf q).toNat)
 case atStart=>exact ⟨0,_,Nat.zero_le _,rfl,rfl,by rw [append_list,HD0.out];simp [clDump],Below.refl _ _⟩
 case round =>
  obtain ⟨j,S,hj,rfl,rfl,hS,hbl⟩:=hrel
  have hw:=hbl.size
  have HS:=Lib.hid hS
  have hSz:S.size≤1000000000003:=by
   rw [← size_list,hS]
   have:=HLT.out j
   have:=dec_two hb
   simp only [List.length_append,List.length_cons,List.length_nil]
   omega
  clear hS
  by_cases hlt:j<cl.length
  ·obtain ⟨b,off,rfl,hbB,hbw,hkid⟩:=HF.out (by omega)
   obtain ⟨⟨m,kv⟩,hE,hc⟩:=hkid j hlt
   have hmem:cl[j]∈cl:=List.getElem_mem hlt
   have hsn:cl.take (j+1)=cl.take j++[cl[j]]:=List.take_succ_eq_append_getElem hlt
   have hlen:=HLT.out (j+1)
   rw [hsn,clDump_append] at hlen
   have hE:EAt XA (fun b=>b<B) w1 m kv cl[j]:=hE
   obtain ⟨am1,wn1,cm1,ae1,ce1,rfl,rfl⟩:=hE.slX
   have HXx:=HX.out _ hmem am1 wn1 cm1 ae1 ce1
   generalize cl[j]=x at hE hc hsn HXx hlen
   obtain ⟨XD,hXD,eXD⟩:=bytes_of x.dump
   unfold StrPost at HXx
   rw [eXD] at HXx
   simp only [clDump,List.length_append,List.append_nil] at hlen
   have hXs:XD.size≤1000000000000:=by rw [← size_list,hXD];omega
   have y0:=(hbl.cell (p:=⟨b,off+j * 8,none⟩) hbw).trans (hc 0 _ rfl)
   have y1:=(hbl.cell (p:=⟨b,off+j * 8+1,none⟩) hbw).trans (hc 1 _ rfl)
   have y2:=(hbl.cell (p:=⟨b,off+j * 8+2,none⟩) hbw).trans (hc 2 _ rfl)
   have y3:=(hbl.cell (p:=⟨b,off+j * 8+3,none⟩) hbw).trans (hc 3 _ rfl)
   have y4:=(hbl.cell (p:=⟨b,off+j * 8+4,none⟩) hbw).trans (hc 4 _ rfl)
   have y5:=(hbl.cell (p:=⟨b,off+j * 8+5,none⟩) hbw).trans (hc 5 _ rfl)
   have y6:=(hbl.cell (p:=⟨b,off+j * 8+6,none⟩) hbw).trans (hc 6 _ rfl)
   have y7:=(hbl.cell (p:=⟨b,off+j * 8+7,none⟩) hbw).trans (hc 7 _ rfl)
   simp only [strV] at y1 y2
   have hA:∀ o,EAt XA (fun b=>b<B) (wr.alloc o) (.slice am1 wn1 cm1) (.slice ae1 x.kids.length ce1) x:=fun o=>hE.frame (Alk.ofB (hbl.alloc hw o) (fun b hb=>by omega))
   have hbA:∀ o,Below w1.heap.size w1 (wr.alloc o):=fun o=>hbl.alloc hw o
   have HI:=Lib.hid (fun o=>HXx (wr.alloc o) (hA o) (by simp;omega))
   have HSN:Hid ((S++XD).data.toList=[58]++decF base++clDump (cl.take (j+1))):=Lib.hid (by rw [append_list,HS.out,hXD,hsn,clDump_append];simp [clDump])
   clear hkid hc hE HXx hsn hA hlen hXD eXD
   have hkI:(j:Int)<(cl.length:Int):=by omega
   go_wp2_with (go_at_call 26;refine (HI.out _).mono ?_;rintro r w2 ⟨rfl,hb2⟩)
   exact ⟨⟨j+1,_,by omega,by go_num,rfl,HSN.out,(hbA _).trans (hb2.mono (hbA _).size)⟩,by simp [intOf];omega⟩
  ·obtain rfl:j=cl.length:=by omega
   have hkI:decide ((cl.length:Int)<(cl.length:Int))=false:=decide_eq_false (by omega)
   go_wp2
   go_ret
   refine ⟨congrArg (fun z=>Ending.returned (Value.string z)) (bytes_ext ?_),hbl⟩
   rw [HS.out,List.take_length] <;> simp
def DpSt (w0:World)(B' b:Nat)(acc:List UInt8)(W:World):Prop:=Bld B' b acc W∧Below B' w0 W∧Lib.OthersKept 5 (some b) w0 W
theorem DpSt.write {w0 W W':World}{B' b:Nat}{acc acc':List UInt8}(h:DpSt w0 B' b acc W)(h1:Bld B' b acc' W')(h2:Below B' W W')(h3:Lib.OthersKept 5 (some b) W W'):DpSt w0 B' b acc' W' :=
 ⟨h1,h.2.1.trans h2,h.2.2.trans h3⟩
theorem others_below {b:Nat}{w w':World}(h:Below w.heap.size w w'):Lib.OthersKept 5 (some b) w w':=fun k o hk _ _=>by
 rw [h.block k (Array.getElem?_eq_some_iff.1 hk).1];exact hk
theorem DpSt.below {w0 W W':World}{B' b:Nat}{acc:List UInt8}(h:DpSt w0 B' b acc W)(hb:Below W.heap.size W W'):DpSt w0 B' b acc W' :=
 ⟨h.1.belowAll hb,h.2.1.trans (hb.mono (by have:=h.1.le;have:=h.1.lt;omega)),h.2.2.trans (others_below hb)⟩
theorem DpSt.keep {w0 W:World}{B' b:Nat}{acc:List UInt8}(h:DpSt w0 B' b acc W){k:Nat}{cs:Array Value}{T:TypeId}{fr:Nat × Nat}(hk:w0.heap[k]?=some (.cells cs T fr))(hT:T≠5)(hb:k≠b):W.heap[k]?=some (.cells cs T fr) :=
 h.2.2 k _ hk (fun q=>hb (by simpa using q)) (fun c fz q=>hT (by injection q))
theorem DpSt.start {w0 W W':World}{B' b:Nat}{acc:List UInt8}(h:DpSt w0 B' b acc W)(hb:Below W.heap.size W W'):DpSt W' B' b acc W' :=
 ⟨h.1.belowAll hb,Below.refl _ _,Lib.OthersKept.refl _ _ _⟩
theorem DpSt.after {w0 W W':World}{B' b:Nat}{acc acc':List UInt8}(h:DpSt w0 B' b acc W)(h2:DpSt W B' b acc' W'):DpSt w0 B' b acc' W' :=
 ⟨h2.1,h.2.1.trans h2.2.1,h.2.2.trans h2.2.2⟩
theorem prog_cells {w:World}{b:Nat}{c0 c1:Value}(h:w.heap[b]?=some (.cells #[c0,c1] 31 (0,0))):w.cell? ⟨b,0,none⟩=some c0∧w.cell? ⟨b,1,none⟩=some c1:=by
 refine ⟨?_,?_⟩ <;> (rw [Lib.cell_of_heap h];rfl)
theorem def_cells {w:World}{b:Nat}{c0 c1 c2 c3 c4 c5 c6 c7 c8 c9 c10 c11 c12 c13 c14:Value}(h:w.heap[b]?=some (.cells #[c0,c1,c2,c3,c4,c5,c6,c7,c8,c9,c10,c11,c12,c13,c14] 54 (0,0))):w.cell? ⟨b,0,none⟩=some c0∧w.cell? ⟨b,1,none⟩=some c1∧w.cell? ⟨b,2,none⟩=some c2∧w.cell? ⟨b,3,none⟩=some c3∧w.cell? ⟨b,4,none⟩=some c4∧w.cell? ⟨b,5,none⟩=some c5∧w.cell? ⟨b,6,none⟩=some c6∧w.cell? ⟨b,7,none⟩=some c7∧w.cell? ⟨b,8,none⟩=some c8∧w.cell? ⟨b,9,none⟩=some c9∧w.cell? ⟨b,10,none⟩=some c10∧w.cell? ⟨b,11,none⟩=some c11∧w.cell? ⟨b,12,none⟩=some c12∧w.cell? ⟨b,13,none⟩=some c13∧w.cell? ⟨b,14,none⟩=some c14:=by
 refine ⟨?_,?_,?_,?_,?_,?_,?_,?_,?_,?_,?_,?_,?_,?_,?_⟩ <;> (rw [Lib.cell_of_heap h];rfl)
theorem impsDump_append:∀ (a b:List (List UInt8 × Nat)),impsDump (a++b)=impsDump a++impsDump b
 | [],b=>rfl
 | e :: a,b=>by simp [impsDump,impsDump_append a b]
theorem defsDump_append:∀ (a b:List DD),defsDump (a++b)=defsDump a++defsDump b
 | [],b=>rfl
 | e :: a,b=>by rw [List.cons_append,defsDump,defsDump,defsDump_append a b,List.append_assoc]
theorem parsDump_append:∀ (a b:List FF),parsDump (a++b)=parsDump a++parsDump b
 | [],b=>rfl
 | e :: a,b=>by simp [parsDump,parsDump_append a b]
theorem impsDump_take (l:List (List UInt8 × Nat))(j:Nat):(impsDump (l.take j)).length≤(impsDump l).length:=by
 have:=congrArg List.length (impsDump_append (l.take j) (l.drop j))
 rw [List.take_append_drop,List.length_append] at this
 omega
theorem defsDump_take (l:List DD)(j:Nat):(defsDump (l.take j)).length≤(defsDump l).length:=by
 have:=congrArg List.length (defsDump_append (l.take j) (l.drop j))
 rw [List.take_append_drop,List.length_append] at this
 omega
theorem adump_any {M:Nat}(p:PP)(hs:p.small M)(hf:p.all (PE.fits M))(hz:p.all fun e=>e.size≤1099511627776)(hd:p.all (dumpK 20000000))(hl:p.dump.length≤20000000000)(B:Nat)(ai:Option Addr)(ci:Nat)(ad:Option Addr)(cd:Nat)(w:World)
  (h:PAtA (fun b=>b<B) w (.slice ai p.imports.length ci) (.slice ad p.defs.length cd) p) (hB:B≤w.heap.size) :
  Calls Tryz.prog 18 #[.agg #[.slice ai p.imports.length ci,.slice ad p.defs.length cd]] w (StrPost p.dump w):=by
 obtain ⟨hi,hdr⟩:=h
 obtain ⟨ao',cc',hv,hcap,hform⟩:=hi.form
 simp only [Value.slice.injEq] at hv
 obtain ⟨rfl,-,rfl⟩:=hv
 have HF:=Lib.hid hform
 obtain ⟨ao2,cc2,hv2,hcap2,hform2⟩:=hdr.form
 simp only [Value.slice.injEq] at hv2
 obtain ⟨rfl,-,rfl⟩:=hv2
 have HF2:=Lib.hid hform2
 have hbb:=(below_new w (.cells #[.slice ai p.imports.length ci,.slice ad p.defs.length cd] 31)).alloc (by simp) (.cells #[.pointer none,.slice none 0 0] 102)
 have hbd:=Bld.fresh (w.alloc (.cells #[.slice ai p.imports.length ci,.slice ad p.defs.length cd] 31))
 rw [World.size_alloc] at hbd
 have hbox:=(Lib.alloc_old _ (.cells #[.pointer none,.slice none 0 0] 102) w.heap.size (by simp)).trans (heap_alloc_new w (.cells #[.slice ai p.imports.length ci,.slice ad p.defs.length cd] 31))
 have hs2:w.heap.size+1≤((w.alloc (.cells #[.slice ai p.imports.length ci,.slice ad p.defs.length cd] 31)).alloc (.cells #[.pointer none,.slice none 0 0] 102)).heap.size:=by simp
 have hli:(impsDump p.imports).length≤20000000000∧(impsDump p.imports).length+(defsDump p.defs).length≤20000000000:=by
  rw [PP.dump,List.length_append] at hl
  omega
 have hil:=hs.ifew
 have hdl:=hs.dfew
 have HS:=Lib.hid hs
 have HFI:=Lib.hid hf
 have HZ:=Lib.hid hz
 have HDK:=Lib.hid hd
 clear hi hdr hform hform2 hl hs hf hz hd
 go_enter Tryz.func18,Tryz.ntmps18
 go_upto_region 2 with fail
 generalize (w.alloc _).alloc _=w2 at hbb hbd hbox hs2 ⊢
 have St:DpSt w2 (w.heap.size+1) (w.heap.size+1) [] w2:=⟨hbd,Below.refl _ _,Lib.OthersKept.refl _ _ _⟩
 obtain ⟨c0,c1⟩:=prog_cells hbox
 clear hbd
 go_wp2
 go_loopw [13] (fun q wr=>∃ j:Nat,j≤p.imports.length∧q=.int .i64 j∧DpSt w2 (w.heap.size+1) (w.heap.size+1) (impsDump (p.imports.take j)) wr) (fun q _=>p.imports.length - (intOf q).toNat)
 case atStart=>exact ⟨0,Nat.zero_le _,rfl,St⟩
 case round =>
  obtain ⟨j,hj,rfl,hst⟩:=hrel
  have hzr:=hst.1.lt
  by_cases hlt:j<p.imports.length
  ·obtain ⟨b,off,rfl,hbB,hbw,hkid⟩:=HF.out (by omega)
   obtain ⟨_,_,hc⟩:=hkid j hlt
   have hsn:p.imports.take (j+1)=p.imports.take j++[p.imports[j]]:=List.take_succ_eq_append_getElem hlt
   have hlen:=impsDump_take p.imports (j+1)
   have hjI:(j:Int)<(p.imports.length:Int):=by omega
   rw [hsn,impsDump_append] at hlen
   generalize p.imports[j]=m at hc hsn hlen
   obtain ⟨nm,ma⟩:=m
   obtain ⟨NM,hNM,eNM⟩:=bytes_of nm
   have y0:w.cell? ⟨b,off+j * 2,none⟩=some (.string ⟨nm.toArray⟩):=hc 0 _ rfl
   have y1:w.cell? ⟨b,off+j * 2+1,none⟩=some (.int .i64 ma):=hc 1 _ rfl
   rw [eNM] at y0
   have hcl:∀ (c:Nat) (u:Value),w.cell? ⟨b,c,none⟩=some u→wr.cell? ⟨b,c,none⟩=some u:=fun c u hu=>by
    have h1:=hbb.cell (p:=⟨b,c,none⟩) hbw
    have h2:=hst.2.1.cell (p:=⟨b,c,none⟩) (by show b<_;omega)
    exact (h2.trans h1).trans hu
   have y0':=hcl _ _ y0
   have y1':=hcl _ _ y1
   have hSS:(ByteArray.mk #[105,109,112,111,114,116,32]++NM++ByteArray.mk #[10]).data.toList=[105,109,112,111,114,116,32]++nm++[10]:=by rw [append_list,append_list,hNM]
   have hS1:(ByteArray.mk #[105,109,112,111,114,116,32]++NM++ByteArray.mk #[10]).size=nm.length+8:=by
    rw [← size_list,hSS]
    simp only [List.length_append,List.length_cons,List.length_nil]
    omega
   simp only [impsDump,List.append_nil,List.length_append,List.length_cons,List.length_nil] at hlen
   have hstA:=hst.below (below_new wr (.cells #[.string NM,.int .i64 ma] 91))
   have HW:=Lib.hid (write_any (w.heap.size+1) (w.heap.size+1) (impsDump (p.imports.take j)) (ByteArray.mk #[105,109,112,111,114,116,32]++NM++ByteArray.mk #[10]) _ hstA.1 (by rw [hS1];omega) (by have:=hstA.1.lt;omega))
   have HSS:=Lib.hid hSS
   have HSN:=Lib.hid hsn
   have hnl:NM.size≤20000000000:=by rw [← size_list,hNM];omega
   clear hkid hc hsn hlen y0 y1 hcl hNM eNM hSS hS1
   go_wp2_with (go_at_call 40;refine HW.out.mono ?_;rintro e w4 ⟨rfl,hb4,hl4,ho4⟩)
   have hst4:=hstA.write hb4 hl4 ho4
   rw [HSS.out] at hst4
   go_roundw
   case rel=>exact ⟨j+1,by omega,by go_num,by rw [HSN.out,impsDump_append];simpa [impsDump] using hst4⟩
   case measure=>simp [intOf];omega
  ·obtain rfl:j=p.imports.length:=by omega
   rw [List.take_length] at hst
   have hjI:decide ((p.imports.length:Int)<(p.imports.length:Int))=false:=decide_eq_false (by omega)
   have hbx:=hst.keep hbox (by decide) (by omega)
   obtain ⟨d0,d1⟩:=prog_cells hbx
   clear HF hbx c0 c1 St
   go_wp2
   clear d0 d1
   go_loopw [26] (fun q wr=>∃ j:Nat,j≤p.defs.length∧q=.int .i64 j∧DpSt w2 (w.heap.size+1) (w.heap.size+1) (impsDump p.imports++defsDump (p.defs.take j)) wr) (fun q _=>p.defs.length - (intOf q).toNat)
   case atStart=>exact ⟨0,Nat.zero_le _,rfl,by simpa [defsDump] using hst⟩
   case round =>
    clear hst hzr
    obtain ⟨j,hj,rfl,hst⟩:=hrel
    have hzr:=hst.1.lt
    by_cases hlt:j<p.defs.length
    ·obtain ⟨b,off,rfl,hbB,hbw,hkid⟩:=HF2.out (by omega)
     obtain ⟨⟨pv,cv,bm,bk⟩,⟨hpr,hcr,hbe⟩,hc⟩:=hkid j hlt
     have hmem:p.defs[j]∈p.defs:=List.getElem_mem hlt
     have hsn:p.defs.take (j+1)=p.defs.take j++[p.defs[j]]:=List.take_succ_eq_append_getElem hlt
     have hlen:=defsDump_take p.defs (j+1)
     have hjI:(j:Int)<(p.defs.length:Int):=by omega
     rw [hsn,defsDump_append] at hlen
     have hds:=HS.out.defs _ hmem
     have hdf:=HFI.out _ hmem
     have hdz:=HZ.out _ hmem
     have hdk:=HDK.out _ hmem
     generalize p.defs[j]=d at hpr hcr hbe hc hsn hlen hds hdf hdz hdk
     obtain ⟨ap,cp,rfl⟩:=hpr.slice
     obtain ⟨ac,cc,rfl⟩:=hcr.slice
     obtain ⟨am,wn,cm,ae,ce,rfl,rfl⟩:=EAt.slX hbe
     simp only [defsDump,List.append_nil,List.length_append] at hlen
     have hcl:∀ (c:Nat) (u:Value),w.cell? ⟨b,c,none⟩=some u→wr.cell? ⟨b,c,none⟩=some u:=fun c u hu=>by
      have h1:=hbb.cell (p:=⟨b,c,none⟩) hbw
      have h2:=hst.2.1.cell (p:=⟨b,c,none⟩) (by show b<_;omega)
      exact (h2.trans h1).trans hu
     have y0:=hcl _ _ (show w.cell? ⟨b,off+j * 15,none⟩=some (.bool d.pub) from hc 0 _ rfl)
     have y1:=hcl _ _ (show w.cell? ⟨b,off+j * 15+1,none⟩=some (.string ⟨d.res.name.toArray⟩) from hc 1 _ rfl)
     have y2:=hcl _ _ (show w.cell? ⟨b,off+j * 15+2,none⟩=some (.slice ap d.params.length cp) from hc 2 _ rfl)
     have y3:=hcl _ _ (show w.cell? ⟨b,off+j * 15+3,none⟩=some (.int .i64 d.res.base) from hc 3 _ rfl)
     have y4:=hcl _ _ (show w.cell? ⟨b,off+j * 15+4,none⟩=some (.slice ac d.res.clause.length cc) from hc 4 _ rfl)
     have y5:=hcl _ _ (show w.cell? ⟨b,off+j * 15+5,none⟩=some (.int .i64 d.body.op) from hc 5 _ rfl)
     have y6:=hcl _ _ (show w.cell? ⟨b,off+j * 15+6,none⟩=some (.string ⟨d.body.name.toArray⟩) from hc 6 _ rfl)
     have y7:=hcl _ _ (show w.cell? ⟨b,off+j * 15+7,none⟩=some (.string ⟨d.body.module.toArray⟩) from hc 7 _ rfl)
     have y8:=hcl _ _ (show w.cell? ⟨b,off+j * 15+8,none⟩=some (.bool (decide (d.body.num<0))) from hc 8 _ rfl)
     have y9:=hcl _ _ (show w.cell? ⟨b,off+j * 15+9,none⟩=some (.slice am wn cm) from hc 9 _ rfl)
     have y10:=hcl _ _ (show w.cell? ⟨b,off+j * 15+10,none⟩=some (.bool d.body.yes) from hc 10 _ rfl)
     have y11:=hcl _ _ (show w.cell? ⟨b,off+j * 15+11,none⟩=some (.slice ae d.body.kids.length ce) from hc 11 _ rfl)
     have y12:=hcl _ _ (show w.cell? ⟨b,off+j * 15+12,none⟩=some (.int .i64 d.body.at_) from hc 12 _ rfl)
     have y13:=hcl _ _ (show w.cell? ⟨b,off+j * 15+13,none⟩=some (.int .i64 d.res.at_) from hc 13 _ rfl)
     have y14:=hcl _ _ (show w.cell? ⟨b,off+j * 15+14,none⟩=some (.int .i64 d.res.bare) from hc 14 _ rfl)
     obtain ⟨NM,hNM,eNM⟩:=bytes_of d.res.name
     rw [eNM] at y1
     have hstA:=hst.start (below_new wr (.cells #[.bool d.pub,.string NM,.slice ap d.params.length cp,.int .i64 d.res.base,.slice ac d.res.clause.length cc,.int .i64 d.body.op,.string ⟨d.body.name.toArray⟩,.string ⟨d.body.module.toArray⟩,.bool (decide (d.body.num<0)),.slice am wn cm,.bool d.body.yes,.slice ae d.body.kids.length ce,.int .i64 d.body.at_,.int .i64 d.res.at_,.int .i64 d.res.bare] 54))
     have hdb:=heap_alloc_new wr (.cells #[.bool d.pub,.string NM,.slice ap d.params.length cp,.int .i64 d.res.base,.slice ac d.res.clause.length cc,.int .i64 d.body.op,.string ⟨d.body.name.toArray⟩,.string ⟨d.body.module.toArray⟩,.bool (decide (d.body.num<0)),.slice am wn cm,.bool d.body.yes,.slice ae d.body.kids.length ce,.int .i64 d.body.at_,.int .i64 d.res.at_,.int .i64 d.res.bare] 54)
     have HST:=Lib.hid (hst.below (below_new wr (.cells #[.bool d.pub,.string NM,.slice ap d.params.length cp,.int .i64 d.res.base,.slice ac d.res.clause.length cc,.int .i64 d.body.op,.string ⟨d.body.name.toArray⟩,.string ⟨d.body.module.toArray⟩,.bool (decide (d.body.num<0)),.slice am wn cm,.bool d.body.yes,.slice ae d.body.kids.length ce,.int .i64 d.body.at_,.int .i64 d.res.at_,.int .i64 d.res.bare] 54)))
     have HSN:=Lib.hid hsn
     have hwA:Below w.heap.size w (wr.alloc (.cells #[.bool d.pub,.string NM,.slice ap d.params.length cp,.int .i64 d.res.base,.slice ac d.res.clause.length cc,.int .i64 d.body.op,.string ⟨d.body.name.toArray⟩,.string ⟨d.body.module.toArray⟩,.bool (decide (d.body.num<0)),.slice am wn cm,.bool d.body.yes,.slice ae d.body.kids.length ce,.int .i64 d.body.at_,.int .i64 d.res.at_,.int .i64 d.res.bare] 54)):=(hbb.trans (hst.2.1.mono (by omega))).alloc (by have:=hbb.size;have:=hst.2.1.size;omega) _
     clear hst hsn hkid hc hcl
     generalize hA0:impsDump p.imports++defsDump (p.defs.take j)=A0 at hstA
     have hA0l:A0.length+d.dump.length≤20000000000:=by rw [← hA0,List.length_append];omega
     have HA0:=Lib.hid hA0
     clear hA0
     go_upto_if 31 with fail
     generalize hdbn:wr.heap.size=db at hdb ⊢
     generalize wr.alloc _=wA at hstA hdb hwA HST ⊢
     have hnb:db≠w.heap.size+1:=by omega
     clear hdbn
     have hD:Hid (∀ acc W,DpSt wA (w.heap.size+1) (w.heap.size+1) acc W→_):=Lib.hid (fun acc W hW=>def_cells (hW.keep hdb (by decide) hnb))
     obtain ⟨z0,z1,z2,-⟩:=def_cells hdb
     generalize hpub:d.pub=pb
     have HPB:=Lib.hid hpub
     clear hpub
     go_cut [7] (fun v wc=>v=.pointer (some ⟨db,0,none⟩)∧DpSt wA (w.heap.size+1) (w.heap.size+1) (A0++(if d.pub=true then [112,117,98,32] else [])) wc)
     case first =>
      cases pb with
      | true =>
       have HW:=Lib.hid (write_any (w.heap.size+1) (w.heap.size+1) A0 (ByteArray.mk #[112,117,98,32]) _ hstA.1 (by show A0.length+4≤_;omega) (by have:=hstA.1.lt;omega))
       go_wp2_with (go_at_call 40;refine HW.out.mono ?_;rintro e w4 ⟨rfl,hb4,hl4,ho4⟩)
       go_meet
       refine ⟨rfl,?_⟩
       rw [HPB.out,if_pos rfl]
       exact hstA.write hb4 hl4 ho4
      | false =>
       go_wp2
       go_meet
       refine ⟨rfl,?_⟩
       rw [HPB.out,if_neg (by decide),List.append_nil]
       exact hstA
     case rest =>
      obtain ⟨rfl,hstB⟩:=hcut
      obtain ⟨w4,rfl⟩:∃ w4:World,w4=wc:=⟨_,rfl⟩
      rw [DD.dump] at hA0l
      generalize hA1:A0++(if d.pub=true then [112,117,98,32] else [])=A1 at hstB
      have hA1l:A1.length+d.res.name.length+(parsDump d.params).length+([32]++d.res.tdump++[32,61,32]++d.body.dump++[10]).length≤20000000000:=by
       rw [← hA1]
       simp only [List.length_append] at hA0l ⊢
       omega
      have HA1:=Lib.hid hA1
      have hNMs:NM.size=d.res.name.length:=by rw [← size_list,hNM]
      clear hA1 hA0l z0 z1 z2
      obtain ⟨z0,z1,z2,-⟩:=hD.out _ _ hstB
      have HW:=Lib.hid (write_any (w.heap.size+1) (w.heap.size+1) A1 NM _ hstB.1 (by omega) (by have:=hstB.1.lt;omega))
      clear hNMs
      go_upto_region 13 with (go_at_call 40;refine HW.out.mono ?_;rintro e w5 ⟨rfl,hb5,hl5,ho5⟩)
      have hstC:=hstB.write hb5 hl5 ho5
      clear z0 z1 z2 HW hb5 hl5 ho5 hstB
      rw [hNM] at hstC
      obtain ⟨z0,z1,z2,-⟩:=hD.out _ _ hstC
      obtain ⟨ap',cp',hv3,hcap3,hform3⟩:=hpr.form
      simp only [Value.slice.injEq] at hv3
      obtain ⟨rfl,-,rfl⟩:=hv3
      have HF3:=Lib.hid hform3
      clear hpr hform3
      have hp8:=hds.few
      go_wp2
      go_loopw [39] (fun q wr=>∃ k:Nat,k≤d.params.length∧q=.int .i64 k∧DpSt wA (w.heap.size+1) (w.heap.size+1) (A1++d.res.name++parsDump (d.params.take k)) wr) (fun q _=>d.params.length - (intOf q).toNat)
      case atStart=>exact ⟨0,Nat.zero_le _,rfl,by simpa [parsDump] using hstC⟩
      case round =>
       clear hstC z0 z1 z2
       obtain ⟨k,hk,rfl,hst⟩:=hrel
       have hzr:=hst.1.lt
       by_cases hlt3:k<d.params.length
       ·obtain ⟨b3,o3,rfl,hb3B,hb3w,hkid3⟩:=HF3.out (by omega)
        obtain ⟨cv3,hcr3,hc3⟩:=hkid3 k hlt3
        have hmem3:d.params[k]∈d.params:=List.getElem_mem hlt3
        have hsn3:d.params.take (k+1)=d.params.take k++[d.params[k]]:=List.take_succ_eq_append_getElem hlt3
        have hlen3:=congrArg List.length (parsDump_append (d.params.take (k+1)) (d.params.drop (k+1)))
        rw [List.take_append_drop,List.length_append,hsn3,parsDump_append] at hlen3
        have hkI:(k:Int)<(d.params.length:Int):=by omega
        have hfs:=hds.params _ hmem3
        have hff:=hdf.1 _ hmem3
        have hfz:=hdz.1 _ hmem3
        have hfk:=hdk.1 _ hmem3
        generalize d.params[k]=f at hcr3 hc3 hsn3 hlen3 hfs hff hfz hfk
        obtain ⟨ac3,cc3,rfl⟩:=RowK.slice (show RowK (EK XA) (fun b=>b<B) w cv3 f.clause from hcr3)
        have hcr3:RowK (EK XA) (fun b=>b<B) w (.slice ac3 f.clause.length cc3) f.clause:=hcr3
        simp only [parsDump,List.append_nil,List.length_append] at hlen3
        have hcl:∀ (c:Nat) (u:Value),w.cell? ⟨b3,c,none⟩=some u→wr.cell? ⟨b3,c,none⟩=some u:=fun c u hu=>by
         have h1:=hwA.cell (p:=⟨b3,c,none⟩) hb3w
         have h2:=hst.2.1.cell (p:=⟨b3,c,none⟩) (by show b3<_;omega)
         exact (h2.trans h1).trans hu
        have v0:=hcl _ _ (show w.cell? ⟨b3,o3+k * 5,none⟩=some (.string ⟨f.name.toArray⟩) from hc3 0 _ rfl)
        have v1:=hcl _ _ (show w.cell? ⟨b3,o3+k * 5+1,none⟩=some (.int .i64 f.base) from hc3 1 _ rfl)
        have v2:=hcl _ _ (show w.cell? ⟨b3,o3+k * 5+2,none⟩=some (.slice ac3 f.clause.length cc3) from hc3 2 _ rfl)
        have v3:=hcl _ _ (show w.cell? ⟨b3,o3+k * 5+3,none⟩=some (.int .i64 f.at_) from hc3 3 _ rfl)
        have v4:=hcl _ _ (show w.cell? ⟨b3,o3+k * 5+4,none⟩=some (.int .i64 f.bare) from hc3 4 _ rfl)
        obtain ⟨NM3,hNM3,eNM3⟩:=bytes_of f.name
        rw [eNM3] at v0
        obtain ⟨TD,hTD,eTD⟩:=bytes_of f.tdump
        have hcd:=clDump_len (K:=20000000) (l:=f.clause) hfk
        have hc1:=hfs.clause
        have hcm:f.clause.length * 20000000≤1 * 20000000:=Nat.mul_le_mul_right _ hc1
        have hTy:=fun W (hW:Below w.heap.size w W)=>atyped_any (M:=M) f.base f.clause B ac3 cc3 W (hcr3.frame (Alk.ofB hW (fun b hb=>by omega))) (Nat.le_trans hB hW.size) (by rcases hfs.base with q|q <;> omega) (by omega) hff hfz (fun e he=>Nat.le_trans (hfk e he) (by decide)) (by omega)
        rw [show [58]++decF f.base++clDump f.clause=f.tdump from rfl] at hTy
        unfold StrPost at hTy
        rw [eTD] at hTy
        have HTY:=Lib.hid hTy
        have hSS:(ByteArray.mk #[32]++NM3++TD).data.toList=[32]++f.name++f.tdump:=by rw [append_list,append_list,hNM3,hTD]
        have hS1:(ByteArray.mk #[32]++NM3++TD).size=1+f.name.length+f.tdump.length:=by
         rw [← size_list,hSS]
         simp only [List.length_append,List.length_cons,List.length_nil]
        have HSS:=Lib.hid hSS
        have HWR:=Lib.hid (fun W hBl=>write_any (w.heap.size+1) (w.heap.size+1) (A1++d.res.name++parsDump (d.params.take k)) (ByteArray.mk #[32]++NM3++TD) W hBl (by rw [hS1];simp only [List.length_append];omega) (by have:=hBl.lt;omega))
        have HSN3:=Lib.hid hsn3
        have HST3:=Lib.hid (hst.below (below_new wr (.cells #[.string NM3,.int .i64 f.base,.slice ac3 f.clause.length cc3,.int .i64 f.at_,.int .i64 f.bare] 56)))
        have hwB:Below w.heap.size w (wr.alloc (.cells #[.string NM3,.int .i64 f.base,.slice ac3 f.clause.length cc3,.int .i64 f.at_,.int .i64 f.bare] 56)):=(hwA.trans (hst.2.1.mono (by omega))).alloc (by have:=hwA.size;have:=hst.2.1.size;omega) _
        have hpx:=heap_alloc_new wr (.cells #[.string NM3,.int .i64 f.base,.slice ac3 f.clause.length cc3,.int .i64 f.at_,.int .i64 f.bare] 56)
        have hn1:NM3.size≤20000000000:=by rw [← size_list,hNM3];omega
        have hn2:TD.size≤20000000000:=by rw [← size_list,hTD];omega
        clear hkid3 hc3 hcl hTy hSS hS1 hlen3 hcd hcm hfs hff hfz hfk hcr3 hNM3 hTD eNM3 eTD hst hsn3
        go_upto_region 16 with fail
        generalize hpbn:wr.heap.size=px at hpx ⊢
        generalize wr.alloc _=wB at HST3 hwB hpx ⊢
        obtain ⟨u0,u1,u2,-⟩:=par_cells hpx
        have hpl:=(Array.getElem?_eq_some_iff.1 hpx).1
        have hnp:px≠w.heap.size+1:=by omega
        have hk1:¬ (9223372036854775807<1+NM3.size):=by omega
        have hk2:¬ (9223372036854775807<1+NM3.size+TD.size):=by omega
        clear v0 v1 v2 v3 v4
        go_region_held3 (fun w'=>w'.cell? ⟨px,0,none⟩=some (.string NM3)∧w'.cell? ⟨px,1,none⟩=some (.int .i64 f.base)∧w'.cell? ⟨px,2,none⟩=some (.slice ac3 f.clause.length cc3))
         (first|go_keep|exact p3)
         (first|(go_at_call 41;refine (HTY.out _ hwB.drew).mono ?_;rintro e w6 ⟨rfl,hb6⟩;have hq6:Below wB.heap.size wB w6:=(Below.refl wB.heap.size wB).drew.trans hb6;have p3:=And.intro (cell_later hq6 u0) (And.intro (cell_later hq6 u1) (cell_later hq6 u2));have hst6:=HST3.out.below hq6)|(go_at_call 40;refine (HWR.out _ hst6.1).mono ?_;rintro e w7 ⟨rfl,hb7,hl7,ho7⟩;have hp7:=par_cells (ho7 px _ ((hq6.block px hpl).trans hpx) (by simpa using hnp) (by intro c fz q;injection q with q1 q2;exact absurd q2 (by decide)));have p3:=And.intro hp7.1 (And.intro hp7.2.1 hp7.2.2.1)))
        have hst7:=hst6.write hb7 hl7 ho7
        rw [HSS.out] at hst7
        clear hp7 p3 hk1 hk2
        go_wp2
        go_roundw
        case rel=>exact ⟨k+1,by omega,by go_num,by rw [HSN3.out,parsDump_append];simpa [parsDump] using hst7⟩
        case measure=>simp [intOf];omega
       ·obtain rfl:k=d.params.length:=by omega
        rw [List.take_length] at hst
        have hkI:decide ((d.params.length:Int)<(d.params.length:Int))=false:=decide_eq_false (by omega)
        obtain ⟨_,_,_,z3,z4,z5,z6,z7,z8,z9,z10,z11,z12,_,_⟩:=hD.out _ _ hst
        have hcd:=clDump_len (K:=20000000) (l:=d.res.clause) hdk.2.1
        have hc1:=hds.res.clause
        have hcm:d.res.clause.length * 20000000≤1 * 20000000:=Nat.mul_le_mul_right _ hc1
        have hTy:=fun W (hW:Below w.heap.size w W)=>atyped_any (M:=M) d.res.base d.res.clause B ac cc W (hcr.frame (Alk.ofB hW (fun b hb=>by omega))) (Nat.le_trans hB hW.size) (by rcases hds.res.base with q|q <;> omega) (by omega) hdf.2.1 hdz.2.1 (fun e he=>Nat.le_trans (hdk.2.1 e he) (by decide)) (by omega)
        rw [show [58]++decF d.res.base++clDump d.res.clause=d.res.tdump from rfl] at hTy
        have hbd:d.body.dump.length≤20000000:=hdk.2.2
        have hDx:=fun W (hW:Below w.heap.size w W)=>dumpX_any (M:=M) d.body hdf.2.2 B am wn cm ae ce W (EAt.frame (Alk.ofB hW (fun b hb=>by omega)) hbe) (Nat.le_trans hB hW.size) (by omega) hdz.2.2
        obtain ⟨TD,hTD,eTD⟩:=bytes_of d.res.tdump
        obtain ⟨XD,hXD,eXD⟩:=bytes_of d.body.dump
        unfold StrPost at hTy hDx
        rw [eTD] at hTy
        rw [eXD] at hDx
        have HTY:=Lib.hid hTy
        have HDX:=Lib.hid hDx
        have hSS:(ByteArray.mk #[32]++TD++ByteArray.mk #[32,61,32]++XD++ByteArray.mk #[10]).data.toList=[32]++d.res.tdump++[32,61,32]++d.body.dump++[10]:=by rw [append_list,append_list,append_list,append_list,hTD,hXD]
        have hS1:=congrArg List.length hSS
        rw [size_list] at hS1
        have HSS:=Lib.hid hSS
        have HWR:=Lib.hid (fun W hBl=>write_any (w.heap.size+1) (w.heap.size+1) (A1++d.res.name++parsDump d.params) (ByteArray.mk #[32]++TD++ByteArray.mk #[32,61,32]++XD++ByteArray.mk #[10]) W hBl (by rw [hS1];simp only [List.length_append] at hA1l ⊢;omega) (by have:=hBl.lt;omega))
        have hwB:Below w.heap.size w wr:=hwA.trans (hst.2.1.mono (by omega))
        have hn1:TD.size≤20000000000:=by rw [← size_list,hTD,FF.tdump];simp only [List.length_append,List.length_cons,List.length_nil];have:=dec_two (n:=d.res.base) (by rcases hds.res.base with q|q <;> omega);omega
        have hn2:XD.size≤20000000000:=by rw [← size_list,hXD];omega
        clear hTy hDx hSS hS1 hcd hcm hTD hXD eTD eXD
        have hS:∀ acc W,DpSt wA (w.heap.size+1) (w.heap.size+1) acc W→(W.cell? ⟨db,3,none⟩=some (.int .i64 d.res.base)∧W.cell? ⟨db,4,none⟩=some (.slice ac d.res.clause.length cc)∧W.cell? ⟨db,5,none⟩=some (.int .i64 d.body.op)∧W.cell? ⟨db,6,none⟩=some (.string ⟨d.body.name.toArray⟩)∧W.cell? ⟨db,7,none⟩=some (.string ⟨d.body.module.toArray⟩)∧W.cell? ⟨db,8,none⟩=some (.bool (decide (d.body.num<0)))∧W.cell? ⟨db,9,none⟩=some (.slice am wn cm)∧W.cell? ⟨db,10,none⟩=some (.bool d.body.yes)∧W.cell? ⟨db,11,none⟩=some (.slice ae d.body.kids.length ce)∧W.cell? ⟨db,12,none⟩=some (.int .i64 d.body.at_)):=fun acc W hW=>by
         obtain ⟨_,_,_,a3,a4,a5,a6,a7,a8,a9,a10,a11,a12,_,_⟩:=hD.out _ _ hW
         exact ⟨a3,a4,a5,a6,a7,a8,a9,a10,a11,a12⟩
        have HSL:=Lib.hid hS
        clear hS
        have hk1:¬ (9223372036854775807<1+TD.size):=by omega
        have hk2:¬ (9223372036854775807<1+TD.size+3):=by omega
        have hk3:¬ (9223372036854775807<1+TD.size+3+XD.size):=by omega
        have hk4:¬ (9223372036854775807<1+TD.size+3+XD.size+1):=by omega
        go_upto_region 18 with fail
        go_region_held3 (fun w'=>w'.cell? ⟨db,3,none⟩=some (.int .i64 d.res.base)∧w'.cell? ⟨db,4,none⟩=some (.slice ac d.res.clause.length cc)∧w'.cell? ⟨db,5,none⟩=some (.int .i64 d.body.op)∧w'.cell? ⟨db,6,none⟩=some (.string ⟨d.body.name.toArray⟩)∧w'.cell? ⟨db,7,none⟩=some (.string ⟨d.body.module.toArray⟩)∧w'.cell? ⟨db,8,none⟩=some (.bool (decide (d.body.num<0)))∧w'.cell? ⟨db,9,none⟩=some (.slice am wn cm)∧w'.cell? ⟨db,10,none⟩=some (.bool d.body.yes)∧w'.cell? ⟨db,11,none⟩=some (.slice ae d.body.kids.length ce)∧w'.cell? ⟨db,12,none⟩=some (.int .i64 d.body.at_))
         (first|go_keep|exact p3)
         (first|(go_at_call 41;refine (HTY.out _ hwB.drew).mono ?_;rintro e w6 ⟨rfl,hb6⟩;have hq6:Below wr.heap.size wr w6:=(Below.refl wr.heap.size wr).drew.trans hb6;have p3:=HSL.out _ _ (hst.below hq6))|(go_at_call 26;refine (HDX.out _ (hwB.trans (hq6.mono hwB.size))).mono ?_;rintro e w7 ⟨rfl,hb7⟩;have hq7:Below wr.heap.size wr w7:=hq6.trans (hb7.mono hq6.size);have hst7:=hst.below hq7;have p3:=HSL.out _ _ hst7)|(go_at_call 40;refine (HWR.out _ hst7.1).mono ?_;rintro e w8 ⟨rfl,hb8,hl8,ho8⟩;have hst8:=hst7.write hb8 hl8 ho8;have p3:=HSL.out _ _ hst8))
        rw [HSS.out] at hst8
        have hfin:=HST.out.after hst8
        rw [← HA1.out,← HA0.out] at hfin
        clear p3 hk1 hk2 hk3 hk4 z3 z4 z5 z6 z7 z8 z9 z10 z11 z12
        go_wp2
        go_roundw
        case rel=>exact ⟨j+1,by omega,by go_num,by rw [HSN.out,defsDump_append];simpa [defsDump,DD.dump] using hfin⟩
        case measure=>simp [intOf];omega
    ·obtain rfl:j=p.defs.length:=by omega
     rw [List.take_length] at hst
     have hjI:decide ((p.defs.length:Int)<(p.defs.length:Int))=false:=decide_eq_false (by omega)
     have HB:=Lib.hid (bstring_any (w.heap.size+1) (w.heap.size+1) _ _ hst.1 (by omega))
     go_wp2_with (go_at_call 37;refine HB.out.mono ?_;rintro e w4 ⟨rfl,hb4,hl4,ho4⟩)
     go_ret
     refine ⟨rfl,?_⟩
     exact hbb.trans ((hst.2.1.trans hl4).mono (by omega))
end Go.Proofs.YtemkhbmkaalgdaaGreatDoor
