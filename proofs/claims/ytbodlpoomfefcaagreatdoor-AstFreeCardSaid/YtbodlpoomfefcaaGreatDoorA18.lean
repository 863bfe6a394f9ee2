/- Walks and plain laws: TreeW2, IntPlain, TdumpW, TdumpW2. -/
import Derived.Test.YtbodlpoomfefcaaGreatDoorA17
import Derived.Lib.ItoaNum
import Derived.Lib.TrimByte
set_option maxHeartbeats 16000000
set_option maxRecDepth 100000
set_option linter.unusedVariables false
set_option linter.unusedSimpArgs false
namespace Go.Proofs.YtbodlpoomfefcaaGreatDoor
open Go.RowKit Go
def MarksAt (w:World)(kb:Nat)(kid:List Bool):Prop:=w.heap[kb]?=some (.cells (kid.map Value.bool).toArray 4 (0,0))
theorem MarksAt.cell {w:World}{kb:Nat}{kid:List Bool}(h:MarksAt w kb kid){j:Nat}(hj:j<kid.length):w.cell? ⟨kb,j,none⟩=some (.bool kid[j]):=by
 rw [Lib.cell_of_heap h]
 simp [hj]
theorem MarksAt.free {w:World}{kb:Nat}{kid:List Bool}(h:MarksAt w kb kid)(j:Nat):w.frozen? ⟨kb,j,none⟩=false:=by simp [World.frozen?,show w.heap[kb]?=_ from h]
theorem MarksAt.set {w:World}{kb:Nat}{kid:List Bool}(h:MarksAt w kb kid)(j:Nat)(b:Bool):MarksAt (w.setCell ⟨kb,j,none⟩ (.bool b)) kb (kid.set j b):=by
 have:=heap_setCell_same w kb j _ _ (.bool b) h
 rw [MarksAt,this]
 simp [List.map_set]
theorem boolIndex_any (kb m cap:Nat)(kid:List Bool)(p:Bool)(w:World)(h:MarksAt w kb kid)(hm:m≤kid.length)(hn:kid.length≤1099511627776)(hp:p=(kid.take m).contains false) :
  Calls Tryz.prog 219 #[.slice (some ⟨kb,0,none⟩) m cap,.bool false] w (IdxP p w):=by
 have HM:=Lib.hid (fun (j:Nat) (hj:j<kid.length)=>h.cell hj)
 have HP:=Lib.hid hp
 clear h hp
 go_enter Tryz.func219,Tryz.ntmps219
 go_wp2
 go_loop [8] (fun q=>∃ k:Nat,k≤m∧q=.int .i64 k∧∀ j,(hj:j<kid.length)→j<k→kid[j]=true) (fun q=>m - (intOf q).toNat)
 case atStart=>exact ⟨0,Nat.zero_le _,rfl,fun j _ h=>absurd h (by omega)⟩
 case round =>
  obtain ⟨k,hk,rfl,hj⟩:=hrel
  by_cases hlt:k<m
  ·have hx:=HM.out k (by omega)
   have hI:(k:Int)<(m:Int):=by omega
   cases hv:kid[k] with
   | false =>
    rw [hv] at hx
    have hc:(kid.take m).contains false=true:=by
     rw [List.contains_iff_mem,← hv]
     exact List.mem_take_iff_getElem.2 ⟨k,by omega,rfl⟩
    have HC:=Lib.hid hc
    clear hj hv hc
    go_wp2
    go_ret
    exact ⟨⟨k,rfl,⟨fun _=>HP.out.trans HC.out,fun _=>by omega⟩,by omega⟩,rfl⟩
   | true =>
    rw [hv] at hx
    have HJ:Hid (∀ j,(hj:j<kid.length)→j<k+1→kid[j]=true):=Lib.hid (fun j hjl hjk=>by
     by_cases hkj:j=k
     ·subst hkj;exact hv
     ·exact hj j hjl (by omega))
    clear hj hv
    go_wp2
    go_round
    case rel=>exact ⟨k+1,by omega,by go_num,HJ.out⟩
    case measure=>simp [intOf];omega
  ·obtain rfl:k=m:=by omega
   have hc:(kid.take k).contains false=false:=by
    rw [← Bool.not_eq_true,List.contains_iff_mem]
    intro q
    obtain ⟨j,hj1,hj2⟩:=List.mem_take_iff_getElem.1 q
    rw [hj j (by omega) (by omega)] at hj2
    cases hj2
   have HC:=Lib.hid hc
   have hI:decide ((k:Int)<(k:Int))=false:=decide_eq_false (by omega)
   clear hj hc
   go_wp2
   go_ret
   exact ⟨⟨-1,rfl,⟨fun h=>by omega,fun h=>by rw [HP.out,HC.out] at h;cases h⟩,by omega⟩,rfl⟩
theorem boolContains_any (kb m cap:Nat)(kid:List Bool)(w:World)(h:MarksAt w kb kid)(hm:m≤kid.length)(hn:kid.length≤1099511627776) :
  Calls Tryz.prog 149 #[.slice (some ⟨kb,0,none⟩) m cap,.bool false] w fun e w'=>e=.returned (.bool ((kid.take m).contains false))∧w'=w:=by
 have H:=Lib.hid (boolIndex_any kb m cap kid _ w h hm hn rfl)
 clear h
 go_enter Tryz.func149,Tryz.ntmps149
 go_wp2_with (go_at_call 219;refine H.out.mono ?_)
 rintro e w1 ⟨⟨r,rfl,hr,_⟩,rfl⟩
 have hq:((kid.take m).contains false)=decide (0≤r):=by
  by_cases h:0≤r
  ·rw [decide_eq_true h];exact hr.1 h
  ·rw [decide_eq_false h,← Bool.not_eq_true];exact fun q=>h (hr.2 q)
 have HQ:=Lib.hid hq
 clear hq hr
 go_wp2
 go_ret
 exact ⟨ret_bool HQ.out.symm,rfl⟩
theorem Tryz.infoBool:(Tryz.prog.info? 4).map (fun i=>(i.zero,i.size,i.bytes))=some (some (.bool false),1,1):=by kernel_rfl
theorem madeCells_bool (n:Nat):(madeCells (Value.bool false).cells (n * 1))=((List.replicate n false).map Value.bool).toArray:=by
 apply Array.toList_inj.1
 have:=toList_madeCells_one (.bool false) n
 rw [Nat.mul_one]
 show (madeCells #[Value.bool false] n).toList=_
 rw [this]
 simp
theorem right_any (B:Nat)(tv nv:Value)(toks:List Tok)(nodes:List Nd)(l:List Int)(g:Nat)(w:World)(h:TreeAt B w (.agg #[tv,nv]) toks nodes)(hB:B≤w.heap.size)(hn:nodes.length≤1000000)(hkl:∀ n∈nodes,n.kids.length≤1000000)
  (hlv:∀ kid,marksAll toks.length nodes=some kid→kid.length≠0→(kid.take (nodes.length - 1)).contains false=false→leavesM nodes g [((nodes.length:Nat):Int) - 1] []=some l) (hll:l.length≤549755813888) (_htl:toks.length≤1099511627776) :
  Calls Tryz.prog 91 #[.agg #[tv,nv]] w fun e w'=>e=.returned (.bool (rightB toks.length nodes l))∧Below w.heap.size w w':=by
 obtain ⟨i0,hi,hz0,hz1,hz2⟩:=info_parts Tryz.infoBool
 obtain ⟨at_,ct,an,cn,hv⟩:=h.slices
 simp only [Value.agg.injEq,Array.mk.injEq,List.cons.injEq,and_true] at hv
 obtain ⟨rfl,rfl⟩:=hv
 have hmk:=run_make (P:=Tryz.prog) (w.alloc (.cells #[.slice at_ toks.length ct,.slice an nodes.length cn] 25)) 229 4 i0 (.bool false) Tryz.underlying229 hi hz0 .i64 .i64 nodes.length nodes.length (by omega) (by omega) (by rw [hz2];omega) (by omega)
 rw [hz1,Int.toNat_natCast,madeCells_bool] at hmk
 have HT:=Lib.hid h
 have HLV:=Lib.hid hlv
 have HKL:=Lib.hid hkl
 clear h hlv hkl
 go_enter Tryz.func91,Tryz.ntmps91
 go_wp2
 have T2:=(Lib.alloc_old (w.alloc (.cells #[.slice at_ toks.length ct,.slice an nodes.length cn] 25)) (.cells (Array.replicate nodes.length (Value.bool false)) 4) w.heap.size (by simp)).trans (heap_alloc_new w (.cells #[.slice at_ toks.length ct,.slice an nodes.length cn] 25))
 have G2:MarksAt ((w.alloc (.cells #[.slice at_ toks.length ct,.slice an nodes.length cn] 25)).alloc (.cells (Array.replicate nodes.length (Value.bool false)) 4)) (w.heap.size+1) (List.replicate nodes.length false):=by
  have:=heap_alloc_new (w.alloc (.cells #[.slice at_ toks.length ct,.slice an nodes.length cn] 25)) (.cells (Array.replicate nodes.length (Value.bool false)) 4)
  rw [World.size_alloc] at this
  rw [MarksAt,this]
  simp
 have hb2:Below w.heap.size w ((w.alloc (.cells #[.slice at_ toks.length ct,.slice an nodes.length cn] 25)).alloc (.cells (Array.replicate nodes.length (Value.bool false)) 4)):=((Below.refl _ w).alloc (Nat.le_refl _) _).alloc (by simp) _
 clear hmk
 generalize (w.alloc _).alloc _=W2 at T2 G2 hb2 ⊢
 go_loopw [18] (fun q wr=>∃ (i:Nat) (kid:List Bool),i≤nodes.length∧q=.int .i64 i∧kid.length=nodes.length∧marksF toks.length i (nodes.drop i) kid=marksAll toks.length nodes∧MarksAt wr (w.heap.size+1) kid∧wr.heap[w.heap.size]?=some (.cells #[.slice at_ toks.length ct,.slice an nodes.length cn] 25 (0,0))∧Below w.heap.size w wr) (fun q _=>nodes.length - (intOf q).toNat)
 case atStart=>exact ⟨0,List.replicate nodes.length false,Nat.zero_le _,rfl,by simp,rfl,G2,T2,hb2⟩
 case round =>
  obtain ⟨i,kid,hi',rfl,hkl,hmk,hG,hT,hbl⟩:=hrel
  have hz:=hbl.size
  have c0:wr.cell? ⟨w.heap.size,0,none⟩=some (.slice at_ toks.length ct):=by rw [Lib.cell_of_heap hT];rfl
  have c1:wr.cell? ⟨w.heap.size,1,none⟩=some (.slice an nodes.length cn):=by rw [Lib.cell_of_heap hT];rfl
  clear T2 G2 hb2
  by_cases hlt:i<nodes.length
  ·obtain ⟨b,off,cap2,kv,hnv,hbB,hx0,hx1,hx2,hkv⟩:=HT.out.node hlt
   simp only [Value.slice.injEq] at hnv
   obtain ⟨rfl,-,rfl⟩:=hnv
   have hdr:nodes.drop i=nodes[i] :: nodes.drop (i+1):=List.drop_eq_getElem_cons hlt
   have hkn:=HKL.out nodes[i] (List.getElem_mem hlt)
   rw [hdr,marksF] at hmk
   obtain ⟨akv,ckv,rfl,_,_⟩:=hkv.form
   have x0:=(hbl.cell (p:=⟨b,off+i * 3,none⟩) (by show b<_;omega)).trans hx0
   have x1:=(hbl.cell (p:=⟨b,off+i * 3+1,none⟩) (by show b<_;omega)).trans hx1
   have x2:=(hbl.cell (p:=⟨b,off+i * 3+2,none⟩) (by show b<_;omega)).trans hx2
   have K:=(hkv.mono hB).below hbl
   have hiI:(i:Int)<(nodes.length:Int):=by omega
   have HMK:=Lib.hid hmk
   clear hmk hx0 hx1 hx2 hkv hdr
   generalize hnd:nodes[i]=nd at x0 x1 x2 K hkn HMK
   obtain ⟨kind,tok,ks⟩:=nd
   simp only at x0 x1 x2 K hkn
   have N1:=heap_alloc_new wr (.cells #[.int .i64 kind,.int .i64 tok,.slice akv ks.length ckv] 83)
   have hbn:=below_new wr (.cells #[.int .i64 kind,.int .i64 tok,.slice akv ks.length ckv] 83)
   have T1:=(hbn.block w.heap.size (Array.getElem?_eq_some_iff.1 hT).1).trans hT
   have G1:MarksAt (wr.alloc (.cells #[.int .i64 kind,.int .i64 tok,.slice akv ks.length ckv] 83)) (w.heap.size+1) kid:=(hbn.block _ (Array.getElem?_eq_some_iff.1 hG).1).trans hG
   have K1:=K.below (hbn.mono hz)
   have hb1:=hbl.trans (hbn.mono hz)
   go_upto_region 5 with (fail)
   clear c0 c1 x0 x1 x2 K hbn hT hG hbl
   generalize wr.heap.size=xb at N1 hz ⊢
   generalize wr.alloc _=W1 at N1 T1 G1 K1 hb1 ⊢
   have hz1:=hb1.size
   have c0:W1.cell? ⟨w.heap.size,0,none⟩=some (.slice at_ toks.length ct):=by rw [Lib.cell_of_heap T1];rfl
   have c1:W1.cell? ⟨w.heap.size,1,none⟩=some (.slice (some ⟨b,off,none⟩) nodes.length cn):=by rw [Lib.cell_of_heap T1];rfl
   have y0:W1.cell? ⟨xb,0,none⟩=some (.int .i64 kind):=by rw [Lib.cell_of_heap N1];rfl
   have y1:W1.cell? ⟨xb,1,none⟩=some (.int .i64 tok):=by rw [Lib.cell_of_heap N1];rfl
   have y2:W1.cell? ⟨xb,2,none⟩=some (.slice akv ks.length ckv):=by rw [Lib.cell_of_heap N1];rfl
   have HF:=Lib.hid (formed_any at_ (some ⟨b,off,none⟩) toks.length ct nodes.length cn i w.heap.size ⟨kind,tok,ks⟩ (.slice akv ks.length ckv) W1 K1 hz1 (by simp only;omega))
   by_cases hfm:formedB toks.length i ⟨kind,tok,ks⟩=true
   ·have hq:=HMK.out
    rw [if_pos hfm] at hq
    rw [hfm] at HF
    have HQ:=Lib.hid hq
    clear hq HMK
    have hlx:=(Array.getElem?_eq_some_iff.1 N1).1
    go_wp2_with (go_at_call 148;refine HF.out.mono ?_;rintro e w3 ⟨rfl,hb3⟩;have z2:w3.cell? ⟨xb,2,none⟩=some (.slice akv ks.length ckv):=(hb3.cell (p:=⟨xb,2,none⟩) hlx).trans y2)
    have T3:=(hb3.block w.heap.size (Array.getElem?_eq_some_iff.1 T1).1).trans T1
    have G3:MarksAt w3 (w.heap.size+1) kid:=(hb3.block _ (Array.getElem?_eq_some_iff.1 G1).1).trans G1
    have K3:=K1.below (hb3.mono hz1)
    have hb3':=hb1.trans (hb3.mono hz1)
    have hfk:∀ k∈ks,0≤k∧k<(i:Int):=by
     unfold formedB at hfm
     by_cases h1:kind<1∨19<kind
     ·rw [if_pos h1] at hfm;cases hfm
     rw [if_neg h1] at hfm
     by_cases h2:kind=19
     ·rw [if_pos h2] at hfm
      simp only [Bool.and_eq_true,decide_eq_true_eq] at hfm
      have:=List.length_eq_zero_iff.1 hfm.1
      subst this
      exact fun k hk=>by cases hk
     ·rw [if_neg h2,Bool.and_eq_true] at hfm
      have h3:=hfm.2
      rw [Bool.not_eq_true',← Bool.not_eq_true,List.any_eq_true] at h3
      intro k hk
      by_cases h4:0≤k∧k<(i:Int)
      ·exact h4
      ·exact absurd ⟨k,hk,by simp only [Bool.or_eq_true,decide_eq_true_eq];omega⟩ h3
    have HFK:=Lib.hid hfk
    clear hb3 T1 G1 K1 hb1 hz1 c0 c1 y0 y1 y2 N1 HF hfm hfk
    obtain ⟨akv',ckv',hvk,_,hkf⟩:=K3.form
    simp only [Value.slice.injEq] at hvk
    obtain ⟨rfl,-,rfl⟩:=hvk
    have HKF:=Lib.hid hkf
    clear hkf z2
    go_loopw [31] (fun q wi=>∃ (j:Nat) (kid':List Bool),j≤ks.length∧q=.int .i64 j∧kid'.length=nodes.length∧(markF kid' (ks.drop j)).bind (marksF toks.length (i+1) (nodes.drop (i+1)))=marksAll toks.length nodes∧MarksAt wi (w.heap.size+1) kid'∧(∀ q,q≠w.heap.size+1→wi.heap[q]?=w3.heap[q]?)∧Below w.heap.size w wi) (fun q _=>ks.length - (intOf q).toNat)
    case atStart=>exact ⟨0,kid,Nat.zero_le _,rfl,hkl,HQ.out,G3,fun _ _=>rfl,hb3'⟩
    case round =>
     obtain ⟨j,kid',hj,rfl,hkl',hq,hG,hoth,hbl⟩:=hrel
     by_cases hjl:j<ks.length
     ·obtain ⟨bk,offk,rfl,hbk,hcell⟩:=HKF.out (by omega)
      have hx:wr.cell? ⟨bk,offk+j,none⟩=some (.int .i64 ks[j]):=(World.cell?_of_block (a:=⟨bk,offk+j,none⟩) (hoth bk (by omega))).trans (hcell j hjl)
      have hdr:ks.drop j=ks[j] :: ks.drop (j+1):=List.drop_eq_getElem_cons hjl
      have hkr:=HFK.out ks[j] (List.getElem_mem hjl)
      rw [hdr,markF] at hq
      generalize ks[j]=k at hx hkr hq
      obtain ⟨k,rfl⟩:∃ kk:Nat,k=(kk:Int):=⟨k.toNat,by omega⟩
      rw [Int.toNat_natCast,List.getD_eq_getElem?_getD,List.getElem?_eq_getElem (by omega),Option.getD_some] at hq
      have hm:=hG.cell (j:=k) (by omega)
      have hjI:(j:Int)<(ks.length:Int):=by omega
      have hkI:(k:Int)<(nodes.length:Int):=by omega
      clear hcell hdr
      cases hv:kid'[k]'(by omega) with
      | true =>
       rw [hv] at hm hq
       rw [if_pos rfl,Option.bind_none] at hq
       have HRB:Hid (rightB toks.length nodes l=false):=Lib.hid (by rw [rightB,← hq])
       clear hq hv
       go_wp2
       go_ret
       exact ⟨ret_bool HRB.out.symm,hbl⟩
      | false =>
       rw [hv] at hm hq
       rw [if_neg (by decide)] at hq
       have hset:=hG.set k true
       have hfz:=hG.free k
       have HQ2:=Lib.hid hq
       have hoth2:∀ q,q≠w.heap.size+1→(wr.setCell ⟨w.heap.size+1,k,none⟩ (.bool true)).heap[q]?=w3.heap[q]?:=fun q hqn=>(heap_setCell_other _ _ _ _ hqn).trans (hoth q hqn)
       clear hq hv
       go_wp2
       go_roundw
       case rel=>exact ⟨j+1,_,by omega,by go_num,by rw [List.length_set];exact hkl',HQ2.out,hset,hoth2,hbl.setCell (by show w.heap.size≤w.heap.size+1;omega) _⟩
       case measure=>simp [intOf];omega
     ·obtain rfl:j=ks.length:=by omega
      rw [List.drop_length,markF,Option.bind_some] at hq
      have hTi:=(hoth w.heap.size (by omega)).trans T3
      have HQ2:=Lib.hid hq
      have hjI:decide ((ks.length:Int)<(ks.length:Int))=false:=decide_eq_false (by omega)
      clear hq
      go_wp2
      exact ⟨⟨i+1,kid',by omega,by go_num,hkl',HQ2.out,hG,hTi,hbl⟩,by simp [intOf];omega⟩
   ·have hq:=HMK.out
    rw [if_neg hfm] at hq
    have HRB:Hid (rightB toks.length nodes l=false):=Lib.hid (by rw [rightB,← hq])
    rw [Bool.not_eq_true] at hfm
    rw [hfm] at HF
    clear hq HMK
    go_wp2_with (go_at_call 148;refine HF.out.mono ?_;rintro e w3 ⟨rfl,hb3⟩)
    go_ret
    exact ⟨ret_bool HRB.out.symm,hb1.trans (hb3.mono hz1)⟩
  ·obtain rfl:i=nodes.length:=by omega
   rw [List.drop_length,marksF] at hmk
   have hqI:decide ((nodes.length:Int)<(nodes.length:Int))=false:=decide_eq_false (by omega)
   by_cases h0:nodes.length=0
   ·have HRB:Hid (rightB toks.length nodes l=false):=Lib.hid (by rw [rightB,← hmk];simp only [hkl,h0];rfl)
    have h0I:((nodes.length:Int) == 0)=true:=by simp [h0]
    clear hmk hG
    go_wp2
    go_ret
    exact ⟨ret_bool HRB.out.symm,hbl⟩
   ·have h0I:((nodes.length:Int) == 0)=false:=by simp [h0]
    have hR:=fun (W:World)=>root_any (.slice at_ toks.length ct) an nodes.length cn W (by omega)
    have HR:=Lib.hid hR
    have HG:=Lib.hid hG
    clear hR
    obtain ⟨p,hp⟩:∃ p,p=(kid.take (nodes.length - 1)).contains false:=⟨_,rfl⟩
    have HP:=Lib.hid hp
    have hnI:((nodes.length:Int) - 1)=((nodes.length - 1:Nat):Int):=by omega
    clear hp hG
    cases p with
    | true =>
     have HRB:Hid (rightB toks.length nodes l=false):=Lib.hid (by rw [rightB,← hmk];simp only;rw [← HP.out];simp)
     clear hmk
     go_wp2_with (first|(go_at_call 17;refine (HR.out _).mono ?_;rintro e w3 ⟨rfl,hb3⟩;rw [hnI])|(go_at_call 149;refine (boolContains_any (w.heap.size+1) (nodes.length - 1) nodes.length kid _ ((hb3.block _ (Array.getElem?_eq_some_iff.1 HG.out).1).trans HG.out) (by omega) (by omega)).mono ?_;rintro e w4 ⟨rfl,rfl⟩;rw [← HP.out]))
     go_ret
     exact ⟨ret_bool HRB.out.symm,hbl.trans (hb3.mono hz)⟩
    | false =>
     have hlq:=HLV.out kid hmk.symm (by omega) HP.out.symm
     have HRB:Hid (rightB toks.length nodes l=(countsB 0 l && decide (l.length=toks.length))):=Lib.hid (by
      rw [rightB,← hmk]
      simp only
      rw [← HP.out,decide_eq_false (by omega:¬ kid.length=0)]
      simp)
     have HL:=Lib.hid (fun (W:World) (hW:Below w.heap.size w W)=>leaves_any w.heap.size (.slice at_ toks.length ct) (.slice an nodes.length cn) toks nodes (((nodes.length:Nat):Int) - 1) l g W ((HT.out.mono hB).below hW) hW.size (by omega) hlq hll)
     rw [hnI] at HL
     clear hmk hlq
     go_wp2_with (first|(go_at_call 17;refine (HR.out _).mono ?_;rintro e w3 ⟨rfl,hb3⟩;rw [hnI])|(go_at_call 149;refine (boolContains_any (w.heap.size+1) (nodes.length - 1) nodes.length kid _ ((hb3.block _ (Array.getElem?_eq_some_iff.1 HG.out).1).trans HG.out) (by omega) (by omega)).mono ?_;rintro e w4 ⟨rfl,rfl⟩;rw [← HP.out]))
     have hb4:=hbl.trans (hb3.mono hz)
     have T4:=(hb3.block w.heap.size (Array.getElem?_eq_some_iff.1 hT).1).trans hT
     clear hb3 hbl hT c0 c1 HG HP hkl hz
     have hz4:=hb4.size
     have c0:w4.cell? ⟨w.heap.size,0,none⟩=some (.slice at_ toks.length ct):=by rw [Lib.cell_of_heap T4];rfl
     have c1:w4.cell? ⟨w.heap.size,1,none⟩=some (.slice an nodes.length cn):=by rw [Lib.cell_of_heap T4];rfl
     go_cut [8] (fun v wx=>∃ ao cap,v=.slice ao l.length cap∧Ints wx.heap.size wx (.slice ao l.length cap) l∧wx.heap[w.heap.size]?=some (.cells #[.slice at_ toks.length ct,.slice an nodes.length cn] 25 (0,0))∧Below w.heap.size w wx)
     case first =>
      have hT4l:=(Array.getElem?_eq_some_iff.1 T4).1
      go_region_with (first|(go_at_call 17;refine (HR.out _).mono ?_;rintro e w5 ⟨rfl,hb5⟩;rw [hnI];have d0:=(hb5.cell (p:=⟨w.heap.size,0,none⟩) hT4l).trans c0;have d1:=(hb5.cell (p:=⟨w.heap.size,1,none⟩) hT4l).trans c1)|(go_at_call 150;refine (HL.out _ (hb4.drew.trans (hb5.mono hz4))).mono ?_;rintro e w6 ⟨v6,rfl,hv6,hb6⟩;obtain ⟨al,cl,rfl,_,_⟩:=hv6.form))
      all_goals
       have hb56:=(hb4.drew.trans (hb5.mono hz4))
       have T6:=(hb6.block w.heap.size (Nat.lt_of_lt_of_le (Array.getElem?_eq_some_iff.1 T4).1 hb5.size)).trans ((hb5.block w.heap.size (Array.getElem?_eq_some_iff.1 T4).1).trans T4)
       clear c0 c1 d0 d1 T4
       go_wp2_with fail
       go_meet
       exact ⟨al,cl,rfl,hv6,T6,hb56.trans (hb6.mono hb56.size)⟩
     case rest =>
      obtain ⟨al,cl,rfl,hv,hT,hbc⟩:=hcut
      clear hb4 T4 c0 c1 HR HT HLV HKL
      obtain ⟨wo,rfl⟩:∃ wo:World,wo=wc:=⟨_,rfl⟩
      have c0:wo.cell? ⟨w.heap.size,0,none⟩=some (.slice at_ toks.length ct):=by rw [Lib.cell_of_heap hT];rfl
      obtain ⟨ao,cp,hvv,_,hvf⟩:=hv.form
      simp only [Value.slice.injEq] at hvv
      obtain ⟨rfl,-,rfl⟩:=hvv
      have HV:=Lib.hid hvf
      clear hvf hv hT HL
      go_wp2
      go_loopw [60] (fun q wr=>∃ j:Nat,j≤l.length∧q=.int .i64 j∧countsB 0 l=countsB j (l.drop j)∧wr=wo) (fun q _=>l.length - (intOf q).toNat)
      case atStart=>exact ⟨0,Nat.zero_le _,rfl,rfl,rfl⟩
      case round =>
       obtain ⟨j,hj,rfl,hcn,hwr⟩:=hrel
       subst hwr
       by_cases hjl:j<l.length
       ·obtain ⟨b,off,rfl,hb,hc⟩:=HV.out (by omega)
        have hx:=hc j hjl
        rw [List.drop_eq_getElem_cons hjl,countsB] at hcn
        have hjI:(j:Int)<(l.length:Int):=by omega
        generalize l[j]=x at hx hcn
        clear hc
        by_cases hxe:(j:Int)=x
        ·subst hxe
         rw [decide_eq_true rfl,Bool.true_and] at hcn
         have HC:=Lib.hid hcn
         clear hcn
         go_wp2
         exact ⟨⟨j+1,by omega,by go_num,HC.out,(by first|trivial|rfl)⟩,by simp [intOf];omega⟩
        ·rw [decide_eq_false hxe,Bool.false_and] at hcn
         have HC:=Lib.hid hcn
         have hne:((j:Int) == x)=false:=by simp [hxe]
         clear hcn
         go_wp2
         go_ret
         exact ⟨ret_bool (by rw [HRB.out,HC.out];rfl),hbc⟩
       ·obtain rfl:j=l.length:=by omega
        have hjI:decide ((l.length:Int)<(l.length:Int))=false:=decide_eq_false (by omega)
        rw [List.drop_length,countsB] at hcn
        have HC:=Lib.hid hcn
        clear hcn
        go_wp2
        go_ret
        refine ⟨ret_bool ?_,hbc⟩
        rw [HRB.out,HC.out,Bool.true_and]
        exact decide_eq_decide.2 (by omega)
end Go.Proofs.YtbodlpoomfefcaaGreatDoor

namespace Go.Proofs.YtbodlpoomfefcaaGreatDoor
theorem dec_digits (u:Nat):Lib.decDigits u=decF u:=by
 induction u using Nat.strongRecOn with
 | _ u ih =>
  rw [Lib.decDigits,decF]
  split
  ·rfl
  ·rw [ih (u / 10) (by omega)]
theorem trim_right (l:List UInt8):Lib.trimRightB l 48=trimZ l:=rfl
theorem magV_few:∀ (ws:List Nat) (n:Nat),trimW ws=ws→magV ws<4294967296 ^ n→ws.length≤n
 | [],n,_,_=>Nat.zero_le _
 | d :: l,0,h,hm=>by
  have:=trimW_pos h (by simp)
  simp only [Nat.pow_zero] at hm
  omega
 | d :: l,n+1,h,hm=>by
  have hl:trimW l=l:=by
   rw [trimW] at h
   split at h
   ·cases h
   ·injection h
  have:=magV_few l n hl (by
   rw [magV,Nat.pow_succ] at hm
   generalize 4294967296 ^ n=p at hm ⊢
   omega)
  rw [List.length_cons]
  omega
theorem int_text (n:Int)(k:Nat)(h0:n≠0)(hk:n.natAbs<10 ^ k):(trimZ (lowD k n.natAbs)++(if n<0 then [45] else [])).reverse=intF n:=by
 rw [List.reverse_append,low_text _ _ (by omega) hk,intF]
 split <;> simp
theorem lowD_len:∀ (k n:Nat),(lowD k n).length=k
 | 0,_=>rfl
 | k+1,n=>by rw [lowD,List.length_cons,lowD_len k]
theorem lowD_nine (k n:Nat):lowD (k+9) n=lowD k n++lowD 9 (n / 10 ^ k % 1000000000):=by
 rw [lowD_add k 9,show (1000000000:Nat)=10 ^ 9 from rfl,lowD_mod 9 9 _ (Nat.le_refl _)]
theorem short_div (ws:List Nat)(n k:Nat)(h:magV ws=n / 10 ^ k):magV (trimW (shortF 1000000000 ws).1)=n / 10 ^ (k+9)∧(shortF 1000000000 ws).2=n / 10 ^ k % 1000000000:=by
 have h1:=shortF_val 1000000000 ws
 have h2:=shortF_rest 1000000000 (by omega) ws
 rw [magV_trim,← h]
 have e:n / 10 ^ (k+9)=magV ws / 1000000000:=by
  rw [h,Nat.pow_add,Nat.div_div_eq_div_mul]
 rw [e]
 omega
theorem trim_len (l:List UInt8):(trimZ l).length≤l.length:=by
 rw [trimZ,List.length_reverse]
 have:=(List.dropWhile_suffix (l:=l.reverse) (p:=(· == 48))).length_le
 simpa using this
end Go.Proofs.YtbodlpoomfefcaaGreatDoor

namespace Go.Proofs.YtbodlpoomfefcaaGreatDoor
open Go.RowKit Go
def DmpPost (B' b:Nat)(acc:List UInt8)(w:World)(e:Ending)(w':World):Prop:=e=.returned (.tuple #[])∧Bld B' b acc w'∧Below B' w w'∧Lib.OthersKept 5 (some b) w w'
def TdDoes (B B' b:Nat)(tv nv:Value)(toks:List Tok)(nodes:List Nd)(g:Nat):Prop:=∀ (n:Int) (s acc:List UInt8) (w:World),TreeAt B w (.agg #[tv,nv]) toks nodes→B≤B'→Bld B' b acc w→B'≤w.heap.size→dumpM toks nodes g n=some s→acc.length+s.length≤1099511627776 →
 Calls Tryz.prog 47 #[.agg #[tv,nv],.pointer (some ⟨b,0,none⟩),.int .i64 n] w (DmpPost B' b (acc++s) w)
theorem itoa_any (i:Nat)(h:i<100)(w:World):Calls Tryz.prog 92 #[.int .i64 i] w fun e w'=>e=.returned (.string ⟨(decF i).toArray⟩)∧w'=w:=by
 rw [← dec_digits]
 exact Tryz.strconv_Itoa_small i h w
theorem tree_cells {w:World}{b:Nat}{x y:Value}(h:w.heap[b]?=some (.cells #[x,y] 25 (0,0))):w.cell? ⟨b,0,none⟩=some x∧w.cell? ⟨b,1,none⟩=some y:=by
 constructor <;> (rw [Lib.cell_of_heap h];rfl)
theorem tdump_leaf (B B' b:Nat)(tv nv:Value)(toks:List Tok)(nodes:List Nd)(k u:Nat)(ks:List Int)(acc:List UInt8)(w:World)(h:TreeAt B w (.agg #[tv,nv]) toks nodes)(hBB:B≤B')(hbd:Bld B' b acc w)(hB:B'≤w.heap.size)
  (hn:nodes[k]?=some ⟨19,(u:Nat),ks⟩) (hu:u<toks.length) (hlen:acc.length+(leafDump toks[u]).length≤1099511627776) :
  Calls Tryz.prog 47 #[.agg #[tv,nv],.pointer (some ⟨b,0,none⟩),.int .i64 k] w (DmpPost B' b (acc++leafDump toks[u]) w):=by
 obtain ⟨hi,hni⟩:=List.getElem?_eq_some_iff.1 hn
 obtain ⟨bn,off,cap,kv,rfl,hbn,x0,x1,x2,hkv⟩:=h.node hi
 obtain ⟨b2,off2,cap2,rfl,hb2,t0,t1,t2,t3⟩:=h.tok hu
 obtain ⟨akv,ckv,rfl,-,-⟩:=hkv.form
 rw [hni] at x0 x1 x2
 simp only at x0 x1 x2
 generalize hkl:ks.length=kl at x2
 generalize toks[u]=t at t0 t1 t2 t3 hlen
 obtain ⟨c,x,y,q⟩:=t
 simp only [strV] at t0 t1 t2 t3
 obtain ⟨X,rfl,eX⟩:=bytes_of x
 obtain ⟨Y,rfl,eY⟩:=bytes_of y
 rw [eX] at t1
 rw [eY] at t2
 have hal:=(Below.refl w.heap.size w).alloc (Nat.le_refl _) (.cells #[.slice (some ⟨b2,off2,none⟩) toks.length cap2,.slice (some ⟨bn,off,none⟩) nodes.length cap] 25)
 have hal2:=hal.alloc (by simp) (.cells #[.int .i64 19,.int .i64 (u:Nat),.slice akv kl ckv] 83)
 have hal3:=hal2.alloc (by simp;omega) (.cells #[.int .i64 c,.string X,.string Y,.int .i64 q] 80)
 have hb3:=((hbd.alloc (.cells #[.slice (some ⟨b2,off2,none⟩) toks.length cap2,.slice (some ⟨bn,off,none⟩) nodes.length cap] 25)).alloc (.cells #[.int .i64 19,.int .i64 (u:Nat),.slice akv kl ckv] 83)).alloc (.cells #[.int .i64 c,.string X,.string Y,.int .i64 q] 80)
 have hk3:=(((Lib.OthersKept.refl 5 (some b) w).alloc (.cells #[.slice (some ⟨b2,off2,none⟩) toks.length cap2,.slice (some ⟨bn,off,none⟩) nodes.length cap] 25)).alloc (.cells #[.int .i64 19,.int .i64 (u:Nat),.slice akv kl ckv] 83)).alloc (.cells #[.int .i64 c,.string X,.string Y,.int .i64 q] 80)
 have x0':=(hal.cell (p:=⟨bn,off+k * 3,none⟩) (by show bn<_;omega)).trans x0
 have x1':=(hal.cell (p:=⟨bn,off+k * 3+1,none⟩) (by show bn<_;omega)).trans x1
 have x2':=(hal.cell (p:=⟨bn,off+k * 3+2,none⟩) (by show bn<_;omega)).trans x2
 have y0:=(hal2.cell (p:=⟨b2,off2+u * 4,none⟩) (by show b2<_;omega)).trans t0
 have y1:=(hal2.cell (p:=⟨b2,off2+u * 4+1,none⟩) (by show b2<_;omega)).trans t1
 have y2:=(hal2.cell (p:=⟨b2,off2+u * 4+2,none⟩) (by show b2<_;omega)).trans t2
 have y3:=(hal2.cell (p:=⟨b2,off2+u * 4+3,none⟩) (by show b2<_;omega)).trans t3
 have i1:(k:Int)<(nodes.length:Int):=by omega
 have i2:(u:Int)<(toks.length:Int):=by omega
 simp only [leafDump,List.length_append,size_list] at hlen
 clear t0 t1 t2 t3 x0 x1 x2 hn hni h hkv hal hal2 hi eX eY
 have hk4:((((w.alloc (.cells #[.slice (some ⟨b2,off2,none⟩) toks.length cap2,.slice (some ⟨bn,off,none⟩) nodes.length cap] 25)).alloc (.cells #[.int .i64 19,.int .i64 (u:Nat),.slice akv kl ckv] 83)).alloc (.cells #[.int .i64 c,.string X,.string Y,.int .i64 q] 80))).heap[w.heap.size+1+1]?=some (.cells #[.int .i64 c,.string X,.string Y,.int .i64 q] 80 (0,0)):=by
  have:=heap_alloc_new ((w.alloc (.cells #[.slice (some ⟨b2,off2,none⟩) toks.length cap2,.slice (some ⟨bn,off,none⟩) nodes.length cap] 25)).alloc (.cells #[.int .i64 19,.int .i64 (u:Nat),.slice akv kl ckv] 83)) (.cells #[.int .i64 c,.string X,.string Y,.int .i64 q] 80)
  rw [World.size_alloc,World.size_alloc] at this
  exact this
 by_cases h5:c=5
 ·have h5I:((c:Int) == 5)=true:=by simp;omega
  rw [if_pos h5] at hlen
  have H5:=Lib.hid h5
  clear h5
  simp only [List.length_cons,List.length_nil] at hlen
  go_enter Tryz.func47,Tryz.ntmps47
  go_upto_region 6 with (go_at_call 90;refine (write_any B' b acc ⟨#[36]⟩ _ hb3 (by show acc.length+1≤140737488355328;omega) (by simp;omega)).mono ?_;rintro e w4 ⟨rfl,hb4,hl4,ho4⟩)
  have z4:=hb3.block ho4 hk4 (by decide) (by decide)
  have z2:w4.cell? ⟨w.heap.size+1+1,2,none⟩=some (.string Y):=by rw [Lib.cell_of_heap z4];rfl
  have hz4:=hl4.size
  simp only [World.size_alloc] at hz4
  clear z4 hb3 hk4
  go_wp2_with (go_at_call 90;refine (write_any B' b _ Y _ hb4 (by have e:(ByteArray.mk #[36]).data.toList.length=1:=rfl;rw [List.length_append,e];omega) (by omega)).mono ?_;rintro e w5 ⟨rfl,hb5,hl5,ho5⟩)
  go_end0
  refine ⟨rfl,?_,(hal3.mono hB).trans (hl4.trans hl5),hk3.trans (ho4.trans ho5)⟩
  rw [leafDump,if_pos H5.out,← List.append_assoc]
  exact hb5
 ·have h5I:((c:Int) == 5)=false:=by simp;omega
  rw [if_neg h5] at hlen
  simp only [List.length_nil] at hlen
  go_enter Tryz.func47,Tryz.ntmps47
  go_wp2_with (go_at_call 90;(refine (write_any B' b acc Y _ hb3 (by omega) (by simp;omega)).mono ?_;rintro e w4 ⟨rfl,hb4,hl4,ho4⟩))
  go_end0
  refine ⟨rfl,?_,(hal3.mono hB).trans hl4,hk3.trans ho4⟩
  rw [leafDump,if_neg h5,List.nil_append]
  exact hb4
theorem tdump_node (B B' b:Nat)(tv nv:Value)(toks:List Tok)(nodes:List Nd)(g k kd:Nat)(tk:Int)(ks:List Int)(s acc:List UInt8)(w:World)(h:TreeAt B w (.agg #[tv,nv]) toks nodes)(hBB:B≤B')(hbd:Bld B' b acc w)(hB:B'≤w.heap.size)
  (IH:TdDoes B B' b tv nv toks nodes g) (hn:nodes[k]?=some ⟨kd,tk,ks⟩) (hkd:kd<100) (hk19:kd≠19) (hks:ks.length≤1000000) (hs:dumpKids (dumpM toks nodes g) ks=some s) (hlen:acc.length+([40]++decF kd++s++[41]).length≤1099511627776) :
  Calls Tryz.prog 47 #[.agg #[tv,nv],.pointer (some ⟨b,0,none⟩),.int .i64 k] w (DmpPost B' b (acc++([40]++decF kd++s++[41])) w):=by
 obtain ⟨hi,hni⟩:=List.getElem?_eq_some_iff.1 hn
 obtain ⟨at_,ct,an,cn,hv⟩:=h.slices
 obtain ⟨bn,off,cap,kv,rfl,hbn,x0,x1,x2,hkv⟩:=h.node hi
 simp only [Value.agg.injEq,Array.mk.injEq,List.cons.injEq,and_true] at hv
 obtain ⟨rfl,-⟩:=hv
 obtain ⟨akv,ckv,rfl,-,hkf⟩:=hkv.form
 rw [hni] at x0 x1 x2 hkf
 simp only at x0 x1 x2 hkf
 have hal:=(Below.refl w.heap.size w).alloc (Nat.le_refl _) (.cells #[.slice at_ toks.length ct,.slice (some ⟨bn,off,none⟩) nodes.length cap] 25)
 have hal2:=hal.alloc (by simp) (.cells #[.int .i64 kd,.int .i64 tk,.slice akv ks.length ckv] 83)
 have hb2:=(hbd.alloc (.cells #[.slice at_ toks.length ct,.slice (some ⟨bn,off,none⟩) nodes.length cap] 25)).alloc (.cells #[.int .i64 kd,.int .i64 tk,.slice akv ks.length ckv] 83)
 have hk2:=((Lib.OthersKept.refl 5 (some b) w).alloc (.cells #[.slice at_ toks.length ct,.slice (some ⟨bn,off,none⟩) nodes.length cap] 25)).alloc (.cells #[.int .i64 kd,.int .i64 tk,.slice akv ks.length ckv] 83)
 have x0':=(hal.cell (p:=⟨bn,off+k * 3,none⟩) (by show bn<_;omega)).trans x0
 have x1':=(hal.cell (p:=⟨bn,off+k * 3+1,none⟩) (by show bn<_;omega)).trans x1
 have x2':=(hal.cell (p:=⟨bn,off+k * 3+2,none⟩) (by show bn<_;omega)).trans x2
 have i1:(k:Int)<(nodes.length:Int):=by omega
 have hkI:((kd:Int) == 19)=false:=by simp;omega
 have e2:=heap_alloc_new (w.alloc (.cells #[.slice at_ toks.length ct,.slice (some ⟨bn,off,none⟩) nodes.length cap] 25)) (.cells #[.int .i64 kd,.int .i64 tk,.slice akv ks.length ckv] 83)
 rw [World.size_alloc] at e2
 have e1:=(Lib.alloc_old (w.alloc (.cells #[.slice at_ toks.length ct,.slice (some ⟨bn,off,none⟩) nodes.length cap] 25)) (.cells #[.int .i64 kd,.int .i64 tk,.slice akv ks.length ckv] 83) w.heap.size (by simp)).trans (heap_alloc_new w (.cells #[.slice at_ toks.length ct,.slice (some ⟨bn,off,none⟩) nodes.length cap] 25))
 obtain ⟨DG,hDG,eDG⟩:=bytes_of (decF kd)
 have HIT:Hid (∀ W,Calls Tryz.prog 92 #[.int .i64 kd] W fun e w'=>e=.returned (.string DG)∧w'=W):=Lib.hid fun W=>(itoa_any kd hkd W).mono fun e w' h=>⟨by rw [h.1,← hDG,← eDG,← hDG],h.2⟩
 rw [← hDG] at hlen ⊢
 simp only [List.length_append,size_list,List.length_cons,List.length_nil] at hlen
 have HT:=Lib.hid h
 have HKF:=Lib.hid hkf
 have HS:=Lib.hid hs
 have hD0:(ByteArray.mk #[40]++DG).data.toList=[40]++DG.data.toList:=by simp
 clear x0 x1 x2 hn hni h hkv hal hi hkf hk19 hkd hDG eDG hs hbd
 go_enter Tryz.func47,Tryz.ntmps47
 go_upto_region 8 with (first|(go_at_call 92;refine (HIT.out _).mono ?_;rintro e w3 ⟨rfl,rfl⟩)|(go_at_call 90;refine (write_any B' b acc (ByteArray.mk #[40]++DG) _ hb2 (by rw [← size_list,hD0];simp;omega) (by simp;omega)).mono ?_;rintro e w4 ⟨rfl,hb4,hl4,ho4⟩))
 have hbB:Below B' w w4:=(hal2.mono hB).trans hl4
 have hk4:=hk2.trans ho4
 have T4:=hb2.block ho4 e1 (by decide) (by decide)
 have N4:=hb2.block ho4 e2 (by decide) (by decide)
 have q2:w4.cell? ⟨w.heap.size+1,2,none⟩=some (.slice akv ks.length ckv):=by rw [Lib.cell_of_heap N4];rfl
 rw [hD0] at hb4
 clear hb2 hl4 ho4 e1 e2 N4 hk2 hal2 HIT hD0 x0' x1' x2' i1 hkI
 have hab:(acc++([40]++DG.data.toList))++s=acc++([40]++DG.data.toList)++s:=rfl
 generalize hA:acc++([40]++DG.data.toList)=A at hb4 hab
 have hAl:A.length+s.length+1≤1099511627776:=by
  rw [← hA]
  simp only [List.length_append,size_list,List.length_cons,List.length_nil]
  omega
 have HA:Hid (acc++([40]++DG.data.toList++s++[41])=A++s++[41]):=Lib.hid (by rw [← hA];simp)
 clear hA hlen hab
 go_wp2
 go_loopw [42] (fun q wr=>∃ (j:Nat) (a r:List UInt8),j≤ks.length∧q=.int .i64 j∧dumpKids (dumpM toks nodes g) (ks.drop j)=some r∧a++r=A++s∧Bld B' b a wr∧wr.heap[w.heap.size]?=some (.cells #[.slice at_ toks.length ct,.slice (some ⟨bn,off,none⟩) nodes.length cap] 25 (0,0))∧Below B' w wr∧Lib.OthersKept 5 (some b) w wr) (fun q _=>ks.length - (intOf q).toNat)
 case atStart=>exact ⟨0,A,s,Nat.zero_le _,rfl,HS.out,rfl,hb4,T4,hbB,hk4⟩
 case round =>
  obtain ⟨j,a,r,hj,rfl,hr,har,hbd,hT,hbl,hok⟩:=hrel
  have hz:=hbl.size
  have hlt0:=(Array.getElem?_eq_some_iff.1 hT).1
  have hal:=congrArg List.length har
  rw [List.length_append,List.length_append] at hal
  obtain ⟨c0,c1⟩:=tree_cells hT
  by_cases hjl:j<ks.length
  ·obtain ⟨bk,offk,rfl,hbk,hcell⟩:=HKF.out (by omega)
   have hx:=(hbl.cell (p:=⟨bk,offk+j,none⟩) (by show bk<_;omega)).trans (hcell j hjl)
   rw [List.drop_eq_getElem_cons hjl,dumpKids] at hr
   generalize ks[j]=k1 at hx hr
   obtain ⟨s1,h1,hr⟩:=Option.bind_eq_some_iff.1 hr
   obtain ⟨s2,h2,hr⟩:=Option.bind_eq_some_iff.1 hr
   injection hr with hr
   rw [← hr] at har hal
   simp only [List.length_append,List.length_cons,List.length_nil] at hal
   have hjI:(j:Int)<(ks.length:Int):=by omega
   have H2:=Lib.hid h2
   have HR:Hid (a++[32]++s1++s2=A++s):=Lib.hid (by rw [← har];simp)
   have HT1:=Lib.hid (fun W (hW:Below B' w W)=>(HT.out.below (hW.mono hBB)))
   have H1:=Lib.hid h1
   have HTT:=Lib.hid hT
   clear hcell hr har h1 h2 hT
   go_upto_region 12 with (go_at_call 90;refine (write_any B' b a ⟨#[32]⟩ _ hbd (by show a.length+1≤140737488355328;omega) (by omega)).mono ?_;rintro e w5 ⟨rfl,hb5,hl5,ho5⟩)
   have T5:=hbd.block ho5 HTT.out (by decide) (by decide)
   obtain ⟨d0,d1⟩:=tree_cells T5
   have hz5:=hl5.size
   have hbl5:=hbl.trans hl5
   have hC:=IH k1 s1 _ w5 (HT1.out w5 hbl5) hBB hb5 (by omega) H1.out (by
    rw [List.length_append]
    have e:(ByteArray.mk #[32]).data.toList.length=1:=rfl
    rw [e]
    omega)
   have HC:=Lib.hid hC
   have hok5:=hok.trans ho5
   have HB5:=Lib.hid hb5
   clear hC c0 c1 hbd hl5 ho5 hok hb5
   go_wp2_with (go_at_call 47;refine HC.out.mono ?_;rintro e w6 ⟨rfl,hb6,hl6,ho6⟩)
   refine ⟨⟨j+1,_,s2,by omega,by go_num,H2.out,HR.out,hb6,?_,hbl5.trans hl6,hok5.trans ho6⟩,by simp [intOf];omega⟩
   exact HB5.out.block ho6 T5 (by decide) (by decide)
  ·obtain rfl:j=ks.length:=by omega
   have hjI:decide ((ks.length:Int)<(ks.length:Int))=false:=decide_eq_false (by omega)
   rw [List.drop_length,dumpKids] at hr
   injection hr with hr
   rw [← hr,List.append_nil] at har
   have HR:=Lib.hid har
   clear hr har HS
   go_wp2_with (go_at_call 90;refine (write_any B' b a ⟨#[41]⟩ _ hbd (by show a.length+1≤140737488355328;omega) (by omega)).mono ?_;rintro e w5 ⟨rfl,hb5,hl5,ho5⟩)
   go_end0
   refine ⟨rfl,?_,hbl.trans hl5,hok.trans ho5⟩
   show Bld B' b (acc++([40]++DG.data.toList++s++[41])) w5
   rw [HA.out,← HR.out]
   exact hb5
structure GoodT (toks:List Tok) (nodes:List Nd) (D:List UInt8):Prop where
 pos:0<nodes.length
 few:nodes.length≤1000000
 kids:∀ n∈nodes,n.kids.length≤1000000
 fewt:toks.length≤1000000
 right:rightB toks.length nodes (tokR 0 toks.length)=true
 leaves:leavesM nodes (nodes.length+1) [((nodes.length:Nat):Int) - 1] []=some (tokR 0 toks.length)
 dump:dumpM toks nodes nodes.length ((nodes.length:Int) - 1)=some D
 dlen:D.length≤1099511627776
 kinds:∀ n∈nodes,0≤n.kind∧n.kind<100
 leafs:∀ n∈nodes,n.kind=19→0≤n.tok∧n.tok<(toks.length:Int)
theorem tdump_any {toks:List Tok}{nodes:List Nd}{D:List UInt8}(G:GoodT toks nodes D)(B B' b:Nat)(tv nv:Value):∀ g,TdDoes B B' b tv nv toks nodes g
 | 0=>fun n s acc w h hBB hbd hB hs hlen=>by rw [dumpM] at hs;cases hs
 | g+1=>fun n s acc w h hBB hbd hB hs hlen=>by
  rw [dumpM] at hs
  by_cases h0:n<0
  ·rw [if_pos h0] at hs;cases hs
  rw [if_neg h0] at hs
  obtain ⟨k,rfl⟩:∃ k:Nat,n=(k:Int):=⟨n.toNat,by omega⟩
  rw [Int.toNat_natCast] at hs
  cases hn:nodes[k]? with
  | none=>rw [hn] at hs;cases hs
  | some x =>
   rw [hn] at hs
   simp only at hs
   have hm:=List.mem_of_getElem? hn
   obtain ⟨kind,tok,ks⟩:=x
   have hkd:=G.kinds _ hm
   simp only at hkd hs
   by_cases h19:kind=19
   ·rw [if_pos h19] at hs
    subst h19
    have hl:=G.leafs _ hm rfl
    simp only at hl
    rw [if_neg (by omega)] at hs
    obtain ⟨u,rfl⟩:∃ u:Nat,tok=(u:Int):=⟨tok.toNat,by omega⟩
    have hul:u<toks.length:=by omega
    rw [Int.toNat_natCast,List.getElem?_eq_getElem hul,Option.map_some] at hs
    injection hs with hs
    subst hs
    exact tdump_leaf B B' b tv nv toks nodes k u ks acc w h hBB hbd hB hn hul hlen
   ·rw [if_neg h19] at hs
    obtain ⟨kd,rfl⟩:∃ kd:Nat,kind=(kd:Int):=⟨kind.toNat,by omega⟩
    rw [Int.toNat_natCast] at hs
    obtain ⟨r,hr,rfl⟩:=Option.map_eq_some_iff.1 hs
    exact tdump_node B B' b tv nv toks nodes g k kd tok ks r acc w h hBB hbd hB (tdump_any G B B' b tv nv g) hn (by omega) (by omega) (G.kids _ hm) hr hlen
theorem check_yes {toks:List Tok}{nodes:List Nd}{D:List UInt8}(G:GoodT toks nodes D)(B:Nat)(tv nv:Value)(w:World)(h:TreeAt B w (.agg #[tv,nv]) toks nodes)(hB:B≤w.heap.size) :
  Calls Tryz.prog 46 #[.agg #[tv,nv],.int .i64 ((nodes.length:Int) - 1)] w fun e w'=>e=.returned (.int .i64 0)∧Below w.heap.size w w':=by
 have hR:=fun W (hW:Below w.heap.size w W)=>right_any B tv nv toks nodes (tokR 0 toks.length) (nodes.length+1) W (h.below (hW.mono hB)) (Nat.le_trans hB hW.size) G.few G.kids (fun _ _ _ _=>G.leaves) (by simp [tokR];have:=G.fewt;omega) (by have:=G.fewt;omega)
 rw [G.right] at hR
 have hp:=G.pos
 have hf:=G.few
 obtain ⟨at_,ct,an,cn,hv⟩:=h.slices
 simp only [Value.agg.injEq,Array.mk.injEq,List.cons.injEq,and_true] at hv
 obtain ⟨rfl,rfl⟩:=hv
 have hI1:((nodes.length:Int) - 1)<(nodes.length:Int):=by omega
 have hI0:0≤((nodes.length:Int) - 1):=by omega
 have HR:=Lib.hid hR
 have hbb:=(Below.refl w.heap.size w).alloc (Nat.le_refl _) (.cells #[.slice at_ toks.length ct,.slice an nodes.length cn] 25)
 have e1:=heap_alloc_new w (.cells #[.slice at_ toks.length ct,.slice an nodes.length cn] 25)
 clear h G hR
 go_enter Tryz.func46,Tryz.ntmps46
 go_upto_region 3 with (go_at_call 91;refine (HR.out _ hbb).mono ?_;rintro e w3 ⟨rfl,hb3⟩)
 have T3:=(hb3.block w.heap.size (by simp)).trans e1
 obtain ⟨c0,c1⟩:=tree_cells T3
 have hb4:=hbb.trans (hb3.mono (by simp))
 clear hb3 e1 T3 HR hbb
 go_wp2
 go_ret
 exact ⟨rfl,hb4⟩
theorem dump_yes {toks:List Tok}{nodes:List Nd}{D:List UInt8}(G:GoodT toks nodes D)(B:Nat)(tv nv:Value)(w:World)(h:TreeAt B w (.agg #[tv,nv]) toks nodes)(hB:B≤w.heap.size) :
  Calls Tryz.prog 16 #[.agg #[tv,nv],.int .i64 ((nodes.length:Int) - 1)] w fun e w'=>e=.returned (.tuple #[.string ⟨D.toArray⟩,.int .i64 0])∧Below w.heap.size w w':=by
 have HR:=Lib.hid (fun W (hW:Below w.heap.size w W)=>check_yes G B tv nv W (h.below (hW.mono hB)) (Nat.le_trans hB hW.size))
 have hdl:=G.dlen
 have HD:=Lib.hid (fun W (hW:Below w.heap.size w W)=>tdump_any G B W.heap.size W.heap.size tv nv nodes.length ((nodes.length:Int) - 1) D [] (W.alloc (.cells #[.pointer none,.slice none 0 0] 100)) (h.below ((hW.alloc hW.size _).mono hB)) (Nat.le_trans hB hW.size) (Bld.fresh W) (by simp) G.dump (by rw [List.length_nil];omega))
 obtain ⟨at_,ct,an,cn,hv⟩:=h.slices
 simp only [Value.agg.injEq,Array.mk.injEq,List.cons.injEq,and_true] at hv
 obtain ⟨rfl,rfl⟩:=hv
 have hbb:=(Below.refl w.heap.size w).alloc (Nat.le_refl _) (.cells #[.slice at_ toks.length ct,.slice an nodes.length cn] 25)
 have e1:=heap_alloc_new w (.cells #[.slice at_ toks.length ct,.slice an nodes.length cn] 25)
 clear h G
 go_enter Tryz.func16,Tryz.ntmps16
 go_upto_region 4 with (go_at_call 46;refine (HR.out _ hbb).mono ?_;rintro e w3 ⟨rfl,hb3⟩)
 have T3:=(hb3.block w.heap.size (by simp)).trans e1
 have hb4:=hbb.trans (hb3.mono (by simp))
 have HD3:=Lib.hid (HD.out w3 hb4)
 have T4:=(Lib.alloc_old w3 (.cells #[.pointer none,.slice none 0 0] 100) w.heap.size (Array.getElem?_eq_some_iff.1 T3).1).trans T3
 have hb5:=hb4.alloc hb4.size (.cells #[.pointer none,.slice none 0 0] 100)
 obtain ⟨c0,c1⟩:=tree_cells T4
 have hz3:=hb4.size
 clear hb3 e1 T3 T4 HR hbb HD
 go_wp2_with (first|(go_at_call 47;refine HD3.out.mono ?_;rintro e w6 ⟨rfl,hbd6,hl6,ho6⟩;rw [List.nil_append] at hbd6;have hz6:=hl6.size;simp only [World.size_alloc] at hz6)|(go_at_call 48;refine (bstring_any w3.heap.size w3.heap.size D _ hbd6 (by omega)).mono ?_;rintro e w7 ⟨rfl,hbd7,hl7,ho7⟩))
 go_ret2
 exact ⟨rfl,hb5.trans ((hl6.mono hz3).trans (hl7.mono hz3))⟩
theorem show_any (B:Nat)(tv nv:Value)(toks:List Tok)(w:World)(hl:toks.length≤1099511627776)(hn:tokAt toks toks.length≤1099511627776)(h:Rec B w tv 4 tokCells toks)(hB:B≤w.heap.size) :
  Calls Tryz.prog 15 #[.agg #[tv,nv]] w fun e w'=>e=.returned (.string ⟨(wholeF toks).toArray⟩)∧Below w.heap.size w w':=by
 have HW:=Lib.hid (fun W (hW:Below w.heap.size w W)=>whole_any tv toks W hl hn ((h.below (hW.mono hB)).mono (Nat.le_trans hB hW.size)))
 obtain ⟨X,hX,eX⟩:=bytes_of (wholeF toks)
 rw [eX] at HW ⊢
 have hbb:=(Below.refl w.heap.size w).alloc (Nat.le_refl _) (.cells #[tv,nv] 25)
 clear h
 go_enter Tryz.func15,Tryz.ntmps15
 go_wp2_with (go_at_call 45;refine (HW.out _ hbb).mono ?_;rintro e w3 ⟨rfl,hb3⟩)
 go_ret
 exact ⟨rfl,hbb.trans (hb3.mono (by simp))⟩
end Go.Proofs.YtbodlpoomfefcaaGreatDoor
