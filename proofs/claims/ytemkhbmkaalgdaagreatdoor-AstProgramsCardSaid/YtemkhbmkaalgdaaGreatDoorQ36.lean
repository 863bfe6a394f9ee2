/- Walks and plain laws: FfDumpW, FpDumpW. -/
import Derived.Test.YtemkhbmkaalgdaaGreatDoorQ34
set_option maxHeartbeats 16000000
set_option maxRecDepth 100000
set_option linter.unusedVariables false
set_option linter.unusedSimpArgs false
namespace Go.Proofs.YtemkhbmkaalgdaaGreatDoor
open Go.RowKit Go
theorem clDumpT_append:∀ (a b:List PE),clDumpT (a++b)=clDumpT a++clDumpT b
 | [],b=>rfl
 | e :: a,b=>by rw [List.cons_append,clDumpT,clDumpT,clDumpT_append a b,List.append_assoc]
theorem ffdump_any (nm:List UInt8)(base:Nat)(cl:List PE)(a_:Nat)(br:Int)(B:Nat)(ao:Option Addr)(cc:Nat)(w:World)(h:RowK (EK XR) (fun b=>b<B) w (.slice ao cl.length cc) cl)(hB:B≤w.heap.size)(hb:base<100)(hcl:cl.length≤1000)
  (hf:∀ e∈cl,e.opsOk) (hz:∀ e∈cl,e.size≤1099511627776) (hd:∀ e∈cl,e.dumpT.length≤1099511627776) (hl:(clDumpT cl).length≤1000000000000) :
  Calls Tryz.prog 42 #[.agg #[.string ⟨nm.toArray⟩,.int .i64 base,.slice ao cl.length cc,.int .i64 a_,.int .i64 br]] w (StrPost ([58]++decF base++clDumpT cl) w):=by
 obtain ⟨ao',cc',hv,hcap,hform⟩:=h.form
 simp only [Value.slice.injEq] at hv
 obtain ⟨rfl,-,rfl⟩:=hv
 have HF:=Lib.hid hform
 obtain ⟨DG,hDG,eDG⟩:=bytes_of (decF base)
 have HIT:=Lib.hid (fun W=>digits_any base W hb)
 unfold StrPost at HIT
 rw [eDG] at HIT
 have HD0:=Lib.hid hDG
 have HX:=Lib.hid (fun (x:PE) (hx:x∈cl) m ae ce W hW hWB=>rdump_any (SizeOf.sizeOf x+1) x (by omega) (hf x hx) B m ae ce W hW hWB (hz x hx) (hd x hx))
 have hdg:DG.size≤2:=by rw [← size_list,hDG];exact dec_two hb
 have HLT:Hid (∀ j,(clDumpT (cl.take j)).length≤(clDumpT cl).length):=Lib.hid fun j=>by
  have:=congrArg List.length (clDumpT_append (cl.take j) (cl.drop j))
  rw [List.take_append_drop,List.length_append] at this
  omega
 have e0:=heap_alloc_new w (.cells #[.string ⟨nm.toArray⟩,.int .i64 base,.slice ao cl.length cc,.int .i64 a_,.int .i64 br] 76)
 have hbb:=below_new w (.cells #[.string ⟨nm.toArray⟩,.int .i64 base,.slice ao cl.length cc,.int .i64 a_,.int .i64 br] 76)
 obtain ⟨y0,y1,y2,y3,y4,yz⟩:=cells5 e0
 clear h hform hDG eDG hf hz hd
 go_enter Tryz.func42,Tryz.ntmps42
 go_upto_region 2 with (go_at_call 67;refine (HIT.out _).mono ?_;rintro e w1 ⟨rfl,hb1⟩)
 have e1:=(hb1.block w.heap.size (by simp)).trans e0
 have hbl1:=hbb.trans (hb1.mono (by simp))
 clear y0 y1 y2 y3 y4 yz e0 hbb hb1 HIT
 obtain ⟨y0,y1,y2,y3,y4,yz⟩:=cells5 e1
 go_wp2
 go_loopw [3,4] (fun s q wr=>∃ (j:Nat) (S:ByteArray),j≤cl.length∧q=.int .i64 j∧s=.string S∧S.data.toList=[58]++decF base++clDumpT (cl.take j)∧Below w1.heap.size w1 wr) (fun _ q _=>cl.length - (intOf q).toNat)
 case atStart=>exact ⟨0,_,Nat.zero_le _,rfl,rfl,by rw [append_list,HD0.out];simp [clDumpT],Below.refl _ _⟩
 case round =>
  obtain ⟨j,S,hj,rfl,rfl,hS,hbl⟩:=hrel
  have hw:=hbl.size
  have hz1:=hbl1.size
  have HS:=Lib.hid hS
  have hSz:S.size≤1000000000003:=by
   rw [← size_list,hS]
   have:=HLT.out j
   have:=dec_two hb
   simp only [List.length_append,List.length_cons,List.length_nil]
   omega
  clear hS y0 y1 y2 y3 y4 yz
  obtain ⟨y0,y1,y2,y3,y4,yz⟩:=cells5 ((hbl.block w.heap.size (Array.getElem?_eq_some_iff.1 e1).1).trans e1)
  clear y0 y1 y3 y4 yz
  by_cases hlt:j<cl.length
  ·obtain ⟨b,off,rfl,hbB,hbw,hkid⟩:=HF.out (by omega)
   obtain ⟨⟨m,kv⟩,hE,hc⟩:=hkid j hlt
   have hmem:cl[j]∈cl:=List.getElem_mem hlt
   have hsn:cl.take (j+1)=cl.take j++[cl[j]]:=List.take_succ_eq_append_getElem hlt
   have hlen:=HLT.out (j+1)
   rw [hsn,clDumpT_append] at hlen
   have hE:EAt XR (fun b=>b<B) w m kv cl[j]:=hE
   obtain ⟨_,ae1,ce1,rfl,_⟩:=hE.form
   have HXx:=HX.out _ hmem m ae1 ce1
   generalize cl[j]=x at hE hc hsn HXx hlen
   obtain ⟨XD,hXD,eXD⟩:=bytes_of x.dumpT
   unfold StrPost at HXx
   rw [eXD] at HXx
   simp only [clDumpT,List.length_append,List.append_nil] at hlen
   have hXs:XD.size≤1000000000000:=by rw [← size_list,hXD];omega
   have hbw1:Below w.heap.size w wr:=hbl1.trans (hbl.mono hz1)
   have x0:=(hbw1.cell (p:=⟨b,off+j * 7,none⟩) hbw).trans (hc 0 _ rfl)
   have x1:=(hbw1.cell (p:=⟨b,off+j * 7+1,none⟩) hbw).trans (hc 1 _ rfl)
   have x2:=(hbw1.cell (p:=⟨b,off+j * 7+2,none⟩) hbw).trans (hc 2 _ rfl)
   have x3:=(hbw1.cell (p:=⟨b,off+j * 7+3,none⟩) hbw).trans (hc 3 _ rfl)
   have x4:=(hbw1.cell (p:=⟨b,off+j * 7+4,none⟩) hbw).trans (hc 4 _ rfl)
   have x5:=(hbw1.cell (p:=⟨b,off+j * 7+5,none⟩) hbw).trans (hc 5 _ rfl)
   have x6:=(hbw1.cell (p:=⟨b,off+j * 7+6,none⟩) hbw).trans (hc 6 _ rfl)
   simp only [strV] at x1 x2 x3
   have HI:=Lib.hid (HXx wr (hE.frame (Alk.ofB hbw1 (fun b hb=>by omega))) (by omega))
   have HSN:Hid ((S++XD).data.toList=[58]++decF base++clDumpT (cl.take (j+1))):=Lib.hid (by rw [append_list,HS.out,hXD,hsn,clDumpT_append];simp [clDumpT])
   clear hkid hc hE HXx hsn hlen hXD eXD
   have hkI:(j:Int)<(cl.length:Int):=by omega
   go_wp2_with (go_at_call 43;refine HI.out.mono ?_;rintro r w2 ⟨rfl,hb2⟩)
   exact ⟨⟨j+1,_,by omega,by go_num,rfl,HSN.out,hbl.trans (hb2.mono hw)⟩,by simp [intOf];omega⟩
  ·obtain rfl:j=cl.length:=by omega
   have hkI:decide ((cl.length:Int)<(cl.length:Int))=false:=decide_eq_false (by omega)
   go_wp2
   go_ret
   refine ⟨congrArg (fun z=>Ending.returned (Value.string z)) (bytes_ext ?_),hbl1.trans (hbl.mono hz1)⟩
   rw [HS.out,List.take_length] <;> simp
def FF.clP (c:Bool)(f:FF):FF:=if c=true then f else f.erase
def DD.clP (c:Bool)(d:DD):DD:={ d with params:=d.params.map (FF.clP c),res:=d.res.clP c }
def PP.clP (c:Bool)(p:PP):PP:={ p with defs:=p.defs.map (DD.clP c) }
theorem PP.clP_true (p:PP):p.clP true=p:=by
 have h1:FF.clP true=id:=rfl
 have h2:DD.clP true=id:=by funext d;simp [DD.clP,h1]
 simp [PP.clP,h2]
theorem PP.clP_false (p:PP):p.clP false=p.erase:=rfl
theorem FF.clP_name (c:Bool)(f:FF):(f.clP c).name=f.name∧(f.clP c).base=f.base∧(f.clP c).at_=f.at_∧(f.clP c).bare=f.bare:=by cases c <;> exact ⟨rfl,rfl,rfl,rfl⟩
theorem FF.clP_mem {c:Bool}{f:FF}{e:PE}(h:e∈(f.clP c).clause):e∈f.clause:=by
 cases c
 ·cases h
 ·exact h
theorem FF.clP_len (c:Bool)(f:FF):(f.clP c).clause.length≤f.clause.length:=by
 cases c
 ·exact Nat.zero_le _
 ·exact Nat.le_refl _
theorem parsDumpT_append:∀ (a b:List FF),parsDumpT (a++b)=parsDumpT a++parsDumpT b
 | [],b=>rfl
 | e :: a,b=>by simp [parsDumpT,parsDumpT_append a b]
theorem defsDumpT_append:∀ (a b:List DD),defsDumpT (a++b)=defsDumpT a++defsDumpT b
 | [],b=>rfl
 | e :: a,b=>by rw [List.cons_append,defsDumpT,defsDumpT,defsDumpT_append a b,List.append_assoc]
theorem parsT_take (l:List FF)(j:Nat):(parsDumpT (l.take j)).length≤(parsDumpT l).length:=by
 have:=congrArg List.length (parsDumpT_append (l.take j) (l.drop j))
 rw [List.take_append_drop,List.length_append] at this
 omega
theorem defsT_take (l:List DD)(j:Nat):(defsDumpT (l.take j)).length≤(defsDumpT l).length:=by
 have:=congrArg List.length (defsDumpT_append (l.take j) (l.drop j))
 rw [List.take_append_drop,List.length_append] at this
 omega
theorem clT_len {K:Nat}:∀ {l:List PE},(∀ e∈l,e.dumpT.length≤K)→(clDumpT l).length≤l.length * K
 | [],_=>by simp [clDumpT]
 | e :: l,h=>by
  have h1:=h e List.mem_cons_self
  have h2:=clT_len (l:=l) fun x hx=>h x (List.mem_cons_of_mem _ hx)
  rw [clDumpT,List.length_append,List.length_cons,Nat.succ_mul]
  omega
def clV (c:Bool)(ao:Option Addr)(n cc:Nat):Value:=if c=true then .slice ao n cc else .slice none 0 0
theorem clV_row {S:Shape}{P:Nat→Prop}{w:World}{f:FF}{ao:Option Addr}{cc:Nat}(c:Bool)(h:RowK (EK S) P w (.slice ao f.clause.length cc) f.clause):RowK (EK S) P w (clV c ao f.clause.length cc) (f.clP c).clause:=by
 cases c
 ·exact RowK.nil _ _ _
 ·exact h
theorem clV_slice (c:Bool)(f:FF)(ao:Option Addr)(cc:Nat):∃ a k,clV c ao f.clause.length cc=.slice a (f.clP c).clause.length k:=by
 cases c
 ·exact ⟨none,0,rfl⟩
 ·exact ⟨ao,cc,rfl⟩
def rdV (d:DD)(ap:Option Addr)(cp:Nat)(cv:Value)(ae:Option Addr)(ce:Nat):Array Value :=
 #[.bool d.pub,.slice ap d.params.length cp,.string ⟨d.res.name.toArray⟩,.int .i64 d.res.base,cv,.int .i64 d.res.at_,.int .i64 d.res.bare,.int .i64 d.body.op,.string ⟨d.body.name.toArray⟩,.string ⟨d.body.module.toArray⟩,.string ⟨d.body.txt.toArray⟩,.bool d.body.yes,.slice ae d.body.kids.length ce,.int .i64 d.body.at_]
theorem slot_dump {M:Nat}(c:Bool)(f:FF)(hs:f.small M)(ho:f.all PE.opsOk)(hz:f.all fun e=>e.size≤1099511627776)(hd:f.all fun e=>e.dumpT.length≤20000000)(B:Nat)(a3:Option Addr)(k3:Nat)(w:World)(h:RowK (EK XR) (fun b=>b<B) w (.slice a3 (f.clP c).clause.length k3) (f.clP c).clause)(hB:B≤w.heap.size) :
  Calls Tryz.prog 42 #[.agg #[.string ⟨f.name.toArray⟩,.int .i64 f.base,.slice a3 (f.clP c).clause.length k3,.int .i64 f.at_,.int .i64 f.bare]] w (StrPost (f.clP c).tdumpT w):=by
 have hc1:=hs.clause
 have hc2:=f.clP_len c
 have hcd:=clT_len (K:=20000000) (l:=(f.clP c).clause) fun e he=>hd e (FF.clP_mem he)
 have hcm:(f.clP c).clause.length * 20000000≤1 * 20000000:=Nat.mul_le_mul_right _ (by omega)
 have:=ffdump_any f.name f.base (f.clP c).clause f.at_ f.bare B a3 k3 w h hB (by rcases hs.base with q|q <;> omega) (by omega) (fun e he=>ho e (FF.clP_mem he)) (fun e he=>hz e (FF.clP_mem he)) (fun e he=>Nat.le_trans (hd e (FF.clP_mem he)) (by decide)) (by omega)
 rw [show (f.clP c).tdumpT=[58]++decF f.base++clDumpT (f.clP c).clause by rw [FF.tdumpT,(f.clP_name c).2.1]]
 exact this
theorem rpdump_any {M:Nat}(p:PP)(c:Bool)(hs:p.small M)(ho:p.all PE.opsOk)(hz:p.all fun e=>e.size≤1099511627776)(hd:p.all fun e=>e.dumpT.length≤20000000)(hl:(p.clP c).dumpT.length≤20000000000)(B:Nat)(ai:Option Addr)(ci:Nat)(ad:Option Addr)(cd:Nat)(w:World)
  (h:PAtR (fun b=>b<B) w (.slice ai p.imports.length ci) (.slice ad p.defs.length cd) p) (hB:B≤w.heap.size) :
  Calls Tryz.prog 19 #[.agg #[.slice ai p.imports.length ci,.slice ad p.defs.length cd],.bool c] w (StrPost (p.clP c).dumpT w):=by
 obtain ⟨hi,hdr⟩:=h
 obtain ⟨ao',cc',hv,hcap,hform⟩:=hi.form
 simp only [Value.slice.injEq] at hv
 obtain ⟨rfl,-,rfl⟩:=hv
 have HF:=Lib.hid hform
 obtain ⟨ao2,cc2,hv2,hcap2,hform2⟩:=hdr.form
 simp only [Value.slice.injEq] at hv2
 obtain ⟨rfl,-,rfl⟩:=hv2
 have HF2:=Lib.hid hform2
 have hbb:=below_new w (.cells #[.slice ai p.imports.length ci,.slice ad p.defs.length cd] 62)
 have hbox:=heap_alloc_new w (.cells #[.slice ai p.imports.length ci,.slice ad p.defs.length cd] 62)
 have hw1s:w.heap.size<(w.alloc (.cells #[.slice ai p.imports.length ci,.slice ad p.defs.length cd] 62)).heap.size:=by simp
 have hll:(impsDump p.imports).length+(defsDumpT (p.defs.map (DD.clP c))).length≤20000000000:=by
  rw [PP.dumpT,List.length_append] at hl
  exact hl
 have hil:=hs.ifew
 have hdl:=hs.dfew
 have HS:=Lib.hid hs
 have HOK:=Lib.hid ho
 have HZ:=Lib.hid hz
 have HDK:=Lib.hid hd
 clear hi hdr hform hform2 hl hs ho hz hd
 go_enter Tryz.func19,Tryz.ntmps19
 go_upto_region 1 with fail
 generalize w.alloc _=w1 at hbb hbox hw1s ⊢
 go_wp2
 go_loopw [5,6] (fun s q wr=>∃ (j:Nat) (S:ByteArray),j≤p.imports.length∧q=.int .i64 j∧s=.string S∧S.data.toList=impsDump (p.imports.take j)∧Below w1.heap.size w1 wr) (fun _ q _=>p.imports.length - (intOf q).toNat)
 case atStart=>exact ⟨0,_,Nat.zero_le _,rfl,rfl,rfl,Below.refl _ _⟩
 case round =>
  obtain ⟨j,S,hj,rfl,rfl,hS,hbl⟩:=hrel
  have hzr:=hbl.size
  obtain ⟨c0,c1,_⟩:=cells2T ((hbl.block w.heap.size hw1s).trans hbox)
  have hSz:S.size≤(impsDump p.imports).length:=by rw [← size_list,hS];exact impsDump_take _ _
  by_cases hlt:j<p.imports.length
  ·obtain ⟨b,off,rfl,hbB,hbw,hkid⟩:=HF.out (by omega)
   obtain ⟨_,_,hc⟩:=hkid j hlt
   have hsn:p.imports.take (j+1)=p.imports.take j++[p.imports[j]]:=List.take_succ_eq_append_getElem hlt
   have hlen:=impsDump_take p.imports (j+1)
   have hjI:(j:Int)<(p.imports.length:Int):=by omega
   rw [hsn,impsDump_append] at hlen
   generalize p.imports[j]=m at hc hsn hlen
   obtain ⟨nm,ma⟩:=m
   obtain ⟨NM,hNM,eNM⟩:=bytes_of nm
   have y0:w.cell? ⟨b,off+j * 1,none⟩=some (.string ⟨nm.toArray⟩):=hc 0 _ rfl
   rw [eNM,Nat.mul_one] at y0
   have y0':=((hbb.trans (hbl.mono (by omega))).cell (p:=⟨b,off+j,none⟩) hbw).trans y0
   simp only [impsDump,List.append_nil,List.length_append,List.length_cons,List.length_nil] at hlen
   have hnl:NM.size=nm.length:=by rw [← size_list,hNM]
   have hSl:S.size+NM.size+8≤20000000000:=by rw [← size_list,hS,hnl];omega
   have HSN:Hid ((S++(ByteArray.mk #[105,109,112,111,114,116,32]++NM++ByteArray.mk #[10])).data.toList=impsDump (p.imports.take (j+1))):=Lib.hid (by rw [append_list,append_list,append_list,hS,hNM,hsn,impsDump_append];simp [impsDump])
   clear hkid hc hsn hlen y0 hNM eNM hnl hS
   go_wp2
   go_roundw
   case rel=>exact ⟨j+1,_,by omega,by go_num,rfl,HSN.out,hbl⟩
   case measure=>simp [intOf];omega
  ·obtain rfl:j=p.imports.length:=by omega
   rw [List.take_length] at hS
   have hjI:decide ((p.imports.length:Int)<(p.imports.length:Int))=false:=decide_eq_false (by omega)
   have HSI:=Lib.hid hS
   clear hS
   go_wp2
   clear c0 c1
   go_loopw [5,7] (fun s q wr=>∃ (j:Nat) (S:ByteArray),j≤p.defs.length∧q=.int .i64 j∧s=.string S∧S.data.toList=impsDump p.imports++defsDumpT ((p.defs.map (DD.clP c)).take j)∧Below w1.heap.size w1 wr) (fun _ q _=>p.defs.length - (intOf q).toNat)
   case atStart=>exact ⟨0,_,Nat.zero_le _,rfl,rfl,by rw [HSI.out];simp [defsDumpT],hbl⟩
   case round =>
    clear hzr hSz hbl HSI
    obtain ⟨j,S,hj,rfl,rfl,hS,hbl⟩:=hrel
    have hzr:=hbl.size
    obtain ⟨c0,c1,_⟩:=cells2T ((hbl.block w.heap.size hw1s).trans hbox)
    by_cases hlt:j<p.defs.length
    ·obtain ⟨b,off,rfl,hbB,hbw,hkid⟩:=HF2.out (by omega)
     obtain ⟨⟨pv,cv,bm,bk⟩,⟨hpr,hcr,hbe⟩,hc⟩:=hkid j hlt
     have hmem:p.defs[j]∈p.defs:=List.getElem_mem hlt
     have hsn:(p.defs.map (DD.clP c)).take (j+1)=(p.defs.map (DD.clP c)).take j++[p.defs[j].clP c]:=by rw [List.take_succ_eq_append_getElem (by simpa using hlt),List.getElem_map]
     have hlen:=defsT_take (p.defs.map (DD.clP c)) (j+1)
     have hjI:(j:Int)<(p.defs.length:Int):=by omega
     rw [hsn,defsDumpT_append] at hlen
     have hds:=HS.out.defs _ hmem
     have hdo:=HOK.out _ hmem
     have hdz:=HZ.out _ hmem
     have hdk:=HDK.out _ hmem
     generalize p.defs[j]=d at hpr hcr hbe hc hsn hlen hds hdo hdz hdk
     obtain ⟨ap,cp,rfl⟩:=hpr.slice
     obtain ⟨ac,cc,rfl⟩:=hcr.slice
     obtain ⟨_,ae,ce,rfl,_⟩:=EAt.form hbe
     simp only [defsDumpT,List.append_nil,List.length_append] at hlen
     have hbw1:Below w.heap.size w wr:=hbb.trans (hbl.mono (by omega))
     have hcl:∀ (c:Nat) (u:Value),w.cell? ⟨b,c,none⟩=some u→wr.cell? ⟨b,c,none⟩=some u:=fun c u hu=>(hbw1.cell (p:=⟨b,c,none⟩) hbw).trans hu
     have y0:=hcl _ _ (show w.cell? ⟨b,off+j * 14,none⟩=some (.bool d.pub) from hc 0 _ rfl)
     have y1:=hcl _ _ (show w.cell? ⟨b,off+j * 14+1,none⟩=some (.slice ap d.params.length cp) from hc 1 _ rfl)
     have y2:=hcl _ _ (show w.cell? ⟨b,off+j * 14+2,none⟩=some (.string ⟨d.res.name.toArray⟩) from hc 2 _ rfl)
     have y3:=hcl _ _ (show w.cell? ⟨b,off+j * 14+3,none⟩=some (.int .i64 d.res.base) from hc 3 _ rfl)
     have y4:=hcl _ _ (show w.cell? ⟨b,off+j * 14+4,none⟩=some (.slice ac d.res.clause.length cc) from hc 4 _ rfl)
     have y5:=hcl _ _ (show w.cell? ⟨b,off+j * 14+5,none⟩=some (.int .i64 d.res.at_) from hc 5 _ rfl)
     have y6:=hcl _ _ (show w.cell? ⟨b,off+j * 14+6,none⟩=some (.int .i64 d.res.bare) from hc 6 _ rfl)
     have y7:=hcl _ _ (show w.cell? ⟨b,off+j * 14+7,none⟩=some (.int .i64 d.body.op) from hc 7 _ rfl)
     have y8:=hcl _ _ (show w.cell? ⟨b,off+j * 14+8,none⟩=some (.string ⟨d.body.name.toArray⟩) from hc 8 _ rfl)
     have y9:=hcl _ _ (show w.cell? ⟨b,off+j * 14+9,none⟩=some (.string ⟨d.body.module.toArray⟩) from hc 9 _ rfl)
     have y10:=hcl _ _ (show w.cell? ⟨b,off+j * 14+10,none⟩=some (.string ⟨d.body.txt.toArray⟩) from hc 10 _ rfl)
     have y11:=hcl _ _ (show w.cell? ⟨b,off+j * 14+11,none⟩=some (.bool d.body.yes) from hc 11 _ rfl)
     have y12:=hcl _ _ (show w.cell? ⟨b,off+j * 14+12,none⟩=some (.slice ae d.body.kids.length ce) from hc 12 _ rfl)
     have y13:=hcl _ _ (show w.cell? ⟨b,off+j * 14+13,none⟩=some (.int .i64 d.body.at_) from hc 13 _ rfl)
     have hdb:=heap_alloc_new wr (.cells (rdV d ap cp (.slice ac d.res.clause.length cc) ae ce) 80)
     have hwA:=hbw1.alloc hbw1.size (.cells (rdV d ap cp (.slice ac d.res.clause.length cc) ae ce) 80)
     have hblA:=hbl.alloc hzr (.cells (rdV d ap cp (.slice ac d.res.clause.length cc) ae ce) 80)
     generalize hA0:impsDump p.imports++defsDumpT ((p.defs.map (DD.clP c)).take j)=A0 at hS
     have hA0l:A0.length+(d.clP c).dumpT.length≤20000000000:=by rw [← hA0,List.length_append];omega
     have HA0:=Lib.hid hA0
     have HSN:=Lib.hid hsn
     clear hkid hc hcl hsn hA0 hlen
     go_upto_if 40 with fail
     clear y0 y1 y2 y3 y4 y5 y6 y7 y8 y9 y10 y11 y12 y13 c0 c1
     change Code.wp _ _ _ _ (wr.alloc (.cells (rdV d ap cp (.slice ac d.res.clause.length cc) ae ce) 80))
     generalize hdbn:wr.heap.size=db at hdb ⊢
     generalize wr.alloc _=wA at hdb hwA hblA ⊢
     have hdbl:=(Array.getElem?_eq_some_iff.1 hdb).1
     have hdbw:w1.heap.size≤db:=by omega
     obtain ⟨⟨z0,z1,z2,z3,z4,z5,z6⟩,_⟩:=fdef_cells hdb
     clear hdbn hbl hbw1
     have hwAz:=hwA.size
     have hwAz1:=hblA.size
     have hA0S:S.size=A0.length:=by rw [← size_list,hS]
     have hpub:(d.clP c).pub=d.pub:=rfl
     have hdnm:(d.clP c).res.name=d.res.name:=(d.res.clP_name c).1
     have hdd:(d.clP c).dumpT=(if d.pub=true then [112,117,98,32] else [])++d.res.name++parsDumpT (d.params.map (FF.clP c))++([32]++(d.res.clP c).tdumpT++[32,61,32]++d.body.dumpT++[10]):=by
      rw [DD.dumpT,hpub,hdnm];rfl
     have hddl:=congrArg List.length hdd
     simp only [List.length_append] at hddl
     have HDD:=Lib.hid hdd
     clear hdd hpub hdnm
     obtain ⟨NM,hNM,eNM⟩:=bytes_of d.res.name
     rw [eNM] at z2
     generalize hpb:d.pub=pb at z0 hddl
     have HPB:=Lib.hid hpb
     clear hpb
     go_cut [5] (fun s wc=>∃ S1:ByteArray,s=.string S1∧S1.data.toList=A0++(if d.pub=true then [112,117,98,32] else [])∧wc=wA)
     case first =>
      have HS0:=Lib.hid hS
      cases pb with
      | true =>
       simp only [if_true,List.length_cons,List.length_nil] at hddl
       clear hS
       go_wp2
       go_meet
       exact ⟨_,rfl,by rw [append_list,HS0.out,HPB.out];simp,rfl⟩
      | false =>
       clear hS
       go_wp2
       go_meet
       exact ⟨_,rfl,by rw [HS0.out,HPB.out];simp,rfl⟩
     case rest =>
      obtain ⟨S1,rfl,hS1,rfl⟩:=hcut
      obtain ⟨wA,rfl⟩:∃ wA:World,wA=wc:=⟨_,rfl⟩
      rw [← HPB.out] at hddl
      have hS1s:S1.size=A0.length+(if d.pub=true then [112,117,98,32] else []:List UInt8).length:=by rw [← size_list,hS1,List.length_append]
      have hNMs:NM.size=d.res.name.length:=by rw [← size_list,hNM]
      have hS2:(S1++NM).data.toList=A0++(if d.pub=true then [112,117,98,32] else [])++d.res.name:=by rw [append_list,hS1,hNM]
      have hsum1:S1.size+NM.size≤20000000000:=by omega
      have hS2s:(S1++NM).size=A0.length+(if d.pub=true then [112,117,98,32] else []:List UInt8).length+d.res.name.length:=by rw [← size_list,hS2];simp only [List.length_append]
      generalize hA1:A0++(if d.pub=true then [112,117,98,32] else [])++d.res.name=A1 at hS2
      have hA1l:A1.length+(parsDumpT (d.params.map (FF.clP c))).length+(d.res.clP c).tdumpT.length+d.body.dumpT.length+5≤20000000000:=by
       rw [← hA1]
       simp only [List.length_append,List.length_cons,List.length_nil] at hddl ⊢
       omega
      have HA1:=Lib.hid hA1
      have HS2:=Lib.hid hS2
      clear hS hS1 hS1s hNMs hS2s hddl hA0l hA0S hA1 hS2 hNM eNM HPB
      obtain ⟨ap',cp',hv3,hcap3,hform3⟩:=hpr.form
      simp only [Value.slice.injEq] at hv3
      obtain ⟨rfl,-,rfl⟩:=hv3
      have HF3:=Lib.hid hform3
      clear hpr hform3
      have hp8:=hds.few
      go_wp2
      clear z0 z1 z2 z3 z4 z5 z6
      generalize S1++NM=S2 at HS2 ⊢
      go_loopw [5,9] (fun s q wr=>∃ (k:Nat) (S3:ByteArray),k≤d.params.length∧q=.int .i64 k∧s=.string S3∧S3.data.toList=A1++parsDumpT ((d.params.map (FF.clP c)).take k)∧Below wA.heap.size wA wr) (fun _ q _=>d.params.length - (intOf q).toNat)
      case atStart=>exact ⟨0,_,Nat.zero_le _,rfl,rfl,by rw [HS2.out];simp [parsDumpT],Below.refl _ _⟩
      case round =>
       clear HS2 hsum1
       obtain ⟨k,S3,hk,rfl,rfl,hS3,hb3⟩:=hrel
       have hz3:=hb3.size
       have hdbr:=(hb3.block db hdbl).trans hdb
       obtain ⟨⟨z0,z1,z2,z3,z4,z5,z6⟩,⟨z7,z8,z9,z10,z11,z12,z13⟩,zz⟩:=fdef_cells hdbr
       have hw3:=hwA.trans (hb3.mono hwAz)
       have hS3l:S3.size≤A1.length+(parsDumpT (d.params.map (FF.clP c))).length:=by
        rw [← size_list,hS3,List.length_append]
        have:=parsT_take (d.params.map (FF.clP c)) k
        omega
       by_cases hlt3:k<d.params.length
       ·obtain ⟨b3,o3,rfl,hb3B,hb3w,hkid3⟩:=HF3.out (by omega)
        obtain ⟨cv3,hcr3,hc3⟩:=hkid3 k hlt3
        have hmem3:d.params[k]∈d.params:=List.getElem_mem hlt3
        have hsn3:(d.params.map (FF.clP c)).take (k+1)=(d.params.map (FF.clP c)).take k++[d.params[k].clP c]:=by rw [List.take_succ_eq_append_getElem (by simpa using hlt3),List.getElem_map]
        have hlen3:=parsT_take (d.params.map (FF.clP c)) (k+1)
        rw [hsn3,parsDumpT_append] at hlen3
        have hkI:(k:Int)<(d.params.length:Int):=by omega
        have hfs:=hds.params _ hmem3
        have hfo:=hdo.1 _ hmem3
        have hfz:=hdz.1 _ hmem3
        have hfk:=hdk.1 _ hmem3
        generalize d.params[k]=f at hcr3 hc3 hsn3 hlen3 hfs hfo hfz hfk
        obtain ⟨ac3,cc3,rfl⟩:=RowK.slice (show RowK (EK XR) (fun b=>b<B) w cv3 f.clause from hcr3)
        have hcr3:RowK (EK XR) (fun b=>b<B) w (.slice ac3 f.clause.length cc3) f.clause:=hcr3
        have hcl:∀ (c:Nat) (u:Value),w.cell? ⟨b3,c,none⟩=some u→wr.cell? ⟨b3,c,none⟩=some u:=fun c u hu=>(hw3.cell (p:=⟨b3,c,none⟩) hb3w).trans hu
        have v0:=hcl _ _ (show w.cell? ⟨b3,o3+k * 5,none⟩=some (.string ⟨f.name.toArray⟩) from hc3 0 _ rfl)
        have v1:=hcl _ _ (show w.cell? ⟨b3,o3+k * 5+1,none⟩=some (.int .i64 f.base) from hc3 1 _ rfl)
        have v2:=hcl _ _ (show w.cell? ⟨b3,o3+k * 5+2,none⟩=some (.slice ac3 f.clause.length cc3) from hc3 2 _ rfl)
        have v3:=hcl _ _ (show w.cell? ⟨b3,o3+k * 5+3,none⟩=some (.int .i64 f.at_) from hc3 3 _ rfl)
        have v4:=hcl _ _ (show w.cell? ⟨b3,o3+k * 5+4,none⟩=some (.int .i64 f.bare) from hc3 4 _ rfl)
        have hrowV:=clV_row c hcr3
        obtain ⟨a3,k3,eV⟩:=clV_slice c f ac3 cc3
        rw [eV] at hrowV
        have HTY:=Lib.hid (fun W (hW:Below w.heap.size w W)=>slot_dump c f hfs hfo hfz hfk B a3 k3 W (hrowV.frame (Alk.ofB hW (fun b hb=>by omega))) (Nat.le_trans hB hW.size))
        obtain ⟨TD,hTD,eTD⟩:=bytes_of (f.clP c).tdumpT
        unfold StrPost at HTY
        rw [eTD] at HTY
        simp only [parsDumpT,List.append_nil,List.length_append,(f.clP_name c).1,List.length_cons,List.length_nil] at hlen3
        have hpx:=heap_alloc_new wr (.cells #[.string ⟨f.name.toArray⟩,.int .i64 f.base,.slice ac3 f.clause.length cc3,.int .i64 f.at_,.int .i64 f.bare] 76)
        have hb4:=hb3.alloc hz3 (.cells #[.string ⟨f.name.toArray⟩,.int .i64 f.base,.slice ac3 f.clause.length cc3,.int .i64 f.at_,.int .i64 f.bare] 76)
        have HSN3:Hid (∀ NM3:ByteArray,NM3.data.toList=f.name→(S3++(ByteArray.mk #[32]++NM3++TD)).data.toList=A1++parsDumpT ((d.params.map (FF.clP c)).take (k+1))):=Lib.hid (fun NM3 h=>by
         rw [append_list,append_list,append_list,hS3,h,hTD,hsn3,parsDumpT_append]
         simp [parsDumpT,(f.clP_name c).1])
        have hTDs:TD.size=(f.clP c).tdumpT.length:=by rw [← size_list,hTD]
        have EV:=Lib.hid eV
        have hpw:wA.heap.size≤wr.heap.size:=hz3
        have hS3e:S3.size=A1.length+(parsDumpT ((d.params.map (FF.clP c)).take k)).length:=by rw [← size_list,hS3,List.length_append]
        have hsum3:S3.size+(1+f.name.length+TD.size)≤20000000000:=by omega
        clear hkid3 hc3 hcl hcr3 hsn3 hlen3 hfs hfo hfz hfk hrowV hTD eTD eV hS3 hS3e hTDs
        go_upto_if 61 with fail
        clear v0 v1 v2 v3 v4 z0 z1 z2 z3 z4 z5 z6 z7 z8 z9 z10 z11 z12 z13
        generalize wr.heap.size=px at hpx hpw ⊢
        generalize wr.alloc _=wB at hpx hb4 ⊢
        go_cut [10] (fun v wc=>v=.pointer (some ⟨px,0,none⟩)∧wc.heap[px]?=some (.cells #[.string ⟨f.name.toArray⟩,.int .i64 f.base,clV c ac3 f.clause.length cc3,.int .i64 f.at_,.int .i64 f.bare] 76 (0,0))∧Below wA.heap.size wA wc)
        case first =>
         obtain ⟨u0,u1,u2,u3,u4,uz⟩:=cells5 hpx
         cases c with
         | true =>
          go_wp2
          go_meet
          exact ⟨rfl,hpx,hb4⟩
         | false =>
          go_wp2
          go_meet
          exact ⟨rfl,heap_setCell_same wB px 2 _ _ (.slice none 0 0) hpx,hb4.setCell hpw _⟩
        case rest =>
         clear hpx hb4
         obtain ⟨rfl,hpx,hb4⟩:=hcut
         obtain ⟨wB,rfl⟩:∃ wB:World,wB=wc:=⟨_,rfl⟩
         rw [EV.out] at hpx
         have hpl:=(Array.getElem?_eq_some_iff.1 hpx).1
         obtain ⟨NM3,hNM3,eNM3⟩:=bytes_of f.name
         have HSN4:=Lib.hid (HSN3.out NM3 hNM3)
         have hNM3s:NM3.size=f.name.length:=by rw [← size_list,hNM3]
         rw [eNM3] at hpx HTY
         have hk1:¬ (9223372036854775807<1+NM3.size):=by omega
         have hk2:¬ (9223372036854775807<1+NM3.size+TD.size):=by omega
         have hk3:¬ (9223372036854775807<S3.size+(1+NM3.size+TD.size)):=by omega
         obtain ⟨u0,u1,u2,u3,u4,uz⟩:=cells5 hpx
         have hwB:Below w.heap.size w wB:=hwA.trans (hb4.mono hwAz)
         clear hNM3 eNM3 HSN3 uz hNM3s
         go_upto_region 19 with fail
         go_region_held3 (fun w'=>w'.cell? ⟨px,0,none⟩=some (.string NM3)∧w'.cell? ⟨px,1,none⟩=some (.int .i64 f.base)∧w'.cell? ⟨px,2,none⟩=some (.slice a3 (f.clP c).clause.length k3)∧w'.cell? ⟨px,3,none⟩=some (.int .i64 f.at_)∧w'.cell? ⟨px,4,none⟩=some (.int .i64 f.bare))
          (first|(with_reducible exact p3)|(go_keep;done))
          ((go_at_call 42;refine (HTY.out _ hwB.drew).mono ?_;rintro e w6 ⟨rfl,hb6⟩;have hq6:Below wB.heap.size wB w6:=(Below.refl wB.heap.size wB).drew.trans hb6;have p3:=And.intro (cell_later hq6 u0) (And.intro (cell_later hq6 u1) (And.intro (cell_later hq6 u2) (And.intro (cell_later hq6 u3) (cell_later hq6 u4))))))
         clear p3 hk1 hk2 hk3 u0 u1 u2 u3 u4
         go_wp2
         go_roundw
         case rel=>exact ⟨k+1,_,by omega,by go_num,rfl,HSN4.out,hb4.trans (hq6.mono hb4.size)⟩
         case measure=>simp [intOf];omega
       ·obtain rfl:k=d.params.length:=by omega
        rw [List.take_of_length_le (by simp)] at hS3
        have hkI:decide ((d.params.length:Int)<(d.params.length:Int))=false:=decide_eq_false (by omega)
        have hrowV:=clV_row c hcr
        obtain ⟨a3,k3,eV⟩:=clV_slice c d.res ac cc
        rw [eV] at hrowV
        have HTY:=Lib.hid (fun W (hW:Below w.heap.size w W)=>slot_dump c d.res hds.res hdo.2.1 hdz.2.1 hdk.2.1 B a3 k3 W (hrowV.frame (Alk.ofB hW (fun b hb=>by omega))) (Nat.le_trans hB hW.size))
        have HDX:=Lib.hid (fun W (hW:Below w.heap.size w W)=>rdump_any (SizeOf.sizeOf d.body+1) d.body (by omega) hdo.2.2 B bm ae ce W (EAt.frame (Alk.ofB hW (fun b hb=>by omega)) hbe) (Nat.le_trans hB hW.size) hdz.2.2 (Nat.le_trans hdk.2.2 (by decide)))
        obtain ⟨TD,hTD,eTD⟩:=bytes_of (d.res.clP c).tdumpT
        obtain ⟨XD,hXD,eXD⟩:=bytes_of d.body.dumpT
        unfold StrPost at HTY HDX
        rw [eTD] at HTY
        rw [eXD] at HDX
        have hTDs:TD.size=(d.res.clP c).tdumpT.length:=by rw [← size_list,hTD]
        have hXDs:XD.size=d.body.dumpT.length:=by rw [← size_list,hXD]
        have hS3e:S3.size=A1.length+(parsDumpT (d.params.map (FF.clP c))).length:=by rw [← size_list,hS3,List.length_append]
        have HFIN:Hid ((S3++(ByteArray.mk #[32]++TD++ByteArray.mk #[32,61,32]++XD++ByteArray.mk #[10])).data.toList=impsDump p.imports++defsDumpT ((p.defs.map (DD.clP c)).take (j+1))):=Lib.hid (by
         rw [HSN.out,defsDumpT_append,← List.append_assoc,HA0.out]
         simp only [append_list,hS3,hTD,hXD,defsDumpT,List.append_nil,HDD.out,← HA1.out,List.append_assoc])
        have hsum:S3.size+(1+TD.size+3+XD.size+1)≤20000000000:=by omega
        have EV:=Lib.hid eV
        have hb4:=hblA.trans (hb3.mono hwAz1)
        have hdbz:=(Array.getElem?_eq_some_iff.1 hdbr).1
        clear hS3 hS3e hTDs hXDs hTD hXD eTD eXD hrowV eV
        go_upto_if 72 with fail
        clear z0 z1 z2 z3 z5 z6 z7 z8 z9 z10 z11 z12 z13
        go_cut [8] (fun v wc=>v=.pointer (some ⟨db,0,none⟩)∧wc.heap[db]?=some (.cells (rdV d ap cp (clV c ac d.res.clause.length cc) ae ce) 80 (0,0))∧Below w1.heap.size w1 wc)
        case first =>
         cases c with
         | true =>
          go_wp2
          go_meet
          exact ⟨rfl,hdbr,hb4⟩
         | false =>
          go_wp2
          go_meet
          exact ⟨rfl,heap_setCell_same wr db 4 _ _ (.slice none 0 0) hdbr,hb4.setCell hdbw _⟩
        case rest =>
         clear z4 zz hdbr hb4
         obtain ⟨rfl,hdc,hb4⟩:=hcut
         obtain ⟨wB,rfl⟩:∃ wB:World,wB=wc:=⟨_,rfl⟩
         rw [EV.out] at hdc
         obtain ⟨⟨z0,z1,z2,z3,z4,z5,z6⟩,⟨z7,z8,z9,z10,z11,z12,z13⟩,zz⟩:=fdef_cells hdc
         have hk1:¬ (9223372036854775807<1+TD.size):=by omega
         have hk2:¬ (9223372036854775807<1+TD.size+3):=by omega
         have hk3:¬ (9223372036854775807<1+TD.size+3+XD.size):=by omega
         have hk4:¬ (9223372036854775807<1+TD.size+3+XD.size+1):=by omega
         have hk5:¬ (9223372036854775807<S3.size+(1+TD.size+3+XD.size+1)):=by omega
         have hwB:Below w.heap.size w wB:=hbb.trans (hb4.mono (by omega))
         clear z0 z1 zz
         have HSL:=Lib.hid (fun W (hW:Below wB.heap.size wB W)=>And.intro (cell_later hW z2) (And.intro (cell_later hW z3) (And.intro (cell_later hW z4) (And.intro (cell_later hW z5) (And.intro (cell_later hW z6) (And.intro (cell_later hW z7) (And.intro (cell_later hW z8) (And.intro (cell_later hW z9) (And.intro (cell_later hW z10) (And.intro (cell_later hW z11) (And.intro (cell_later hW z12) (cell_later hW z13))))))))))))
         go_upto_region 22 with fail
         go_region_held3 (fun W=>W.cell? ⟨db,2,none⟩=some (.string ⟨d.res.name.toArray⟩)∧W.cell? ⟨db,3,none⟩=some (.int .i64 d.res.base)∧W.cell? ⟨db,4,none⟩=some (.slice a3 (d.res.clP c).clause.length k3)∧W.cell? ⟨db,5,none⟩=some (.int .i64 d.res.at_)∧W.cell? ⟨db,6,none⟩=some (.int .i64 d.res.bare)∧W.cell? ⟨db,7,none⟩=some (.int .i64 d.body.op)∧W.cell? ⟨db,8,none⟩=some (.string ⟨d.body.name.toArray⟩)∧W.cell? ⟨db,9,none⟩=some (.string ⟨d.body.module.toArray⟩)∧W.cell? ⟨db,10,none⟩=some (.string ⟨d.body.txt.toArray⟩)∧W.cell? ⟨db,11,none⟩=some (.bool d.body.yes)∧W.cell? ⟨db,12,none⟩=some (.slice ae d.body.kids.length ce)∧W.cell? ⟨db,13,none⟩=some (.int .i64 d.body.at_))
          (first|(with_reducible exact p3)|(go_keep;done))
          (first|(go_at_call 42;refine (HTY.out _ hwB.drew).mono ?_;rintro e w6 ⟨rfl,hb6⟩;have hq6:Below wB.heap.size wB w6:=(Below.refl wB.heap.size wB).drew.trans hb6;have p3:=HSL.out _ hq6)|(go_at_call 43;refine (HDX.out _ (hwB.trans (hq6.mono hwB.size))).mono ?_;rintro e w7 ⟨rfl,hb7⟩;have hq7:Below wB.heap.size wB w7:=hq6.trans (hb7.mono hq6.size);have p3:=HSL.out _ hq7))
         clear p3 hk1 hk2 hk3 hk4 hk5 z2 z3 z4 z5 z6 z7 z8 z9 z10 z11 z12 z13
         go_wp2
         go_roundw
         case rel=>exact ⟨j+1,_,by omega,by go_num,rfl,HFIN.out,hb4.trans (hq7.mono hb4.size)⟩
         case measure=>simp [intOf];omega
    ·obtain rfl:j=p.defs.length:=by omega
     rw [List.take_of_length_le (by simp)] at hS
     have hjI:decide ((p.defs.length:Int)<(p.defs.length:Int))=false:=decide_eq_false (by omega)
     have HSF:=Lib.hid hS
     clear hS
     go_wp2
     go_ret
     refine ⟨congrArg (fun z=>Ending.returned (Value.string z)) (bytes_ext ?_),hbb.trans (hbl.mono (by omega))⟩
     rw [HSF.out,PP.dumpT]
     simp [PP.clP]
end Go.Proofs.YtemkhbmkaalgdaaGreatDoor
