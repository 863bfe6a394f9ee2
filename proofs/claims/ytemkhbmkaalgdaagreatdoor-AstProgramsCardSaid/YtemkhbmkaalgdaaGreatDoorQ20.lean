/- Walks and plain laws: TreeW2, Builder, IntPlain, LexWhole. -/
import Derived.Test.YtemkhbmkaalgdaaGreatDoorQ19
import Derived.Lib.ItoaNum
import Derived.Lib.TrimByte
set_option maxHeartbeats 16000000
set_option maxRecDepth 100000
namespace Go.Proofs.YtemkhbmkaalgdaaGreatDoor
open Go.RowKit Go
def MarksAt (w:World)(kb:Nat)(kid:List Bool):Prop:=w.heap[kb]?=some (.cells (kid.map Value.bool).toArray 4 (0,0))
theorem MarksAt.cell {w:World}{kb:Nat}{kid:List Bool}(h:MarksAt w kb kid){j:Nat}(hj:j<kid.length):w.cell? ⟨kb,j,none⟩=some (.bool kid[j]):=by
 rw [Lib.cell_of_heap h]
 simp [hj]
theorem MarksAt.free {w:World}{kb:Nat}{kid:List Bool}(h:MarksAt w kb kid)(j:Nat):w.frozen? ⟨kb,j,none⟩=false:=by simp [World.frozen?,show w.heap[kb]?=_ from h]
theorem MarksAt.set {w:World}{kb:Nat}{kid:List Bool}(h:MarksAt w kb kid)(j:Nat)(b:Bool):MarksAt (w.setCell ⟨kb,j,none⟩ (.bool b)) kb (kid.set j b):=by
 have:=heap_setCell_same w kb j _ _ (.bool b) h
 rw [MarksAt,this]
 simp [List.map_set]
theorem boolIndex_any (kb m cap:Nat)(kid:List Bool)(p:Bool)(w:World)(h:MarksAt w kb kid)(hm:m≤kid.length)(hn:kid.length≤1099511627776)(hp:p=(kid.take m).contains false) :
  Calls Tryz.prog 125 #[.slice (some ⟨kb,0,none⟩) m cap,.bool false] w (IdxP p w):=by
 have HM:=Lib.hid (fun (j:Nat) (hj:j<kid.length)=>h.cell hj)
 have HP:=Lib.hid hp
 clear h hp
 go_enter Tryz.func125,Tryz.ntmps125
 go_wp2
 go_loop [8] (fun q=>∃ k:Nat,k≤m∧q=.int .i64 k∧∀ j,(hj:j<kid.length)→j<k→kid[j]=true) (fun q=>m - (intOf q).toNat)
 case atStart=>exact ⟨0,Nat.zero_le _,rfl,fun j _ h=>absurd h (by omega)⟩
 case round =>
  obtain ⟨k,hk,rfl,hj⟩:=hrel
  by_cases hlt:k<m
  ·have hx:=HM.out k (by omega)
   have hI:(k:Int)<(m:Int):=by omega
   cases hv:kid[k] with
   | false =>
    rw [hv] at hx
    have hc:(kid.take m).contains false=true:=by
     rw [List.contains_iff_mem,← hv]
     exact List.mem_take_iff_getElem.2 ⟨k,by omega,rfl⟩
    have HC:=Lib.hid hc
    clear hj hv hc
    go_wp2
    go_ret
    exact ⟨⟨k,rfl,⟨fun _=>HP.out.trans HC.out,fun _=>by omega⟩,by omega⟩,rfl⟩
   | true =>
    rw [hv] at hx
    have HJ:Hid (∀ j,(hj:j<kid.length)→j<k+1→kid[j]=true):=Lib.hid (fun j hjl hjk=>by
     by_cases hkj:j=k
     ·subst hkj;exact hv
     ·exact hj j hjl (by omega))
    clear hj hv
    go_wp2
    go_round
    case rel=>exact ⟨k+1,by omega,by go_num,HJ.out⟩
    case measure=>simp [intOf];omega
  ·obtain rfl:k=m:=by omega
   have hc:(kid.take k).contains false=false:=by
    rw [← Bool.not_eq_true,List.contains_iff_mem]
    intro q
    obtain ⟨j,hj1,hj2⟩:=List.mem_take_iff_getElem.1 q
    rw [hj j (by omega) (by omega)] at hj2
    cases hj2
   have HC:=Lib.hid hc
   have hI:decide ((k:Int)<(k:Int))=false:=decide_eq_false (by omega)
   clear hj hc
   go_wp2
   go_ret
   exact ⟨⟨-1,rfl,⟨fun h=>by omega,fun h=>by rw [HP.out,HC.out] at h;cases h⟩,by omega⟩,rfl⟩
theorem boolContains_any (kb m cap:Nat)(kid:List Bool)(w:World)(h:MarksAt w kb kid)(hm:m≤kid.length)(hn:kid.length≤1099511627776) :
  Calls Tryz.prog 92 #[.slice (some ⟨kb,0,none⟩) m cap,.bool false] w fun e w'=>e=.returned (.bool ((kid.take m).contains false))∧w'=w:=by
 have H:=Lib.hid (boolIndex_any kb m cap kid _ w h hm hn rfl)
 clear h
 go_enter Tryz.func92,Tryz.ntmps92
 go_wp2_with (go_at_call 125;refine H.out.mono ?_)
 rintro e w1 ⟨⟨r,rfl,hr,_⟩,rfl⟩
 have hq:((kid.take m).contains false)=decide (0≤r):=by
  by_cases h:0≤r
  ·rw [decide_eq_true h];exact hr.1 h
  ·rw [decide_eq_false h,← Bool.not_eq_true];exact fun q=>h (hr.2 q)
 have HQ:=Lib.hid hq
 clear hq hr
 go_wp2
 go_ret
 exact ⟨ret_bool HQ.out.symm,rfl⟩
theorem Tryz.infoBool:(Tryz.prog.info? 4).map (fun i=>(i.zero,i.size,i.bytes))=some (some (.bool false),1,1):=by kernel_rfl
theorem madeCells_bool (n:Nat):(madeCells (Value.bool false).cells (n * 1))=((List.replicate n false).map Value.bool).toArray:=by
 apply Array.toList_inj.1
 have:=toList_madeCells_one (.bool false) n
 rw [Nat.mul_one]
 show (madeCells #[Value.bool false] n).toList=_
 rw [this]
 simp
theorem right_any (B:Nat)(tv nv:Value)(toks:List Tok)(nodes:List Nd)(l:List Int)(g:Nat)(w:World)(h:TreeAt B w (.agg #[tv,nv]) toks nodes)(hB:B≤w.heap.size)(hn:nodes.length≤1000000)(hkl:∀ n∈nodes,n.kids.length≤1000000)
  (hlv:∀ kid,marksAll toks.length nodes=some kid→kid.length≠0→(kid.take (nodes.length - 1)).contains false=false→leavesM nodes g [((nodes.length:Nat):Int) - 1] []=some l) (hll:l.length≤549755813888) (_htl:toks.length≤1099511627776) :
  Calls Tryz.prog 62 #[.agg #[tv,nv]] w fun e w'=>e=.returned (.bool (rightB toks.length nodes l))∧Below w.heap.size w w':=by
 obtain ⟨i0,hi,hz0,hz1,hz2⟩:=info_parts Tryz.infoBool
 obtain ⟨at_,ct,an,cn,hv⟩:=h.slices
 simp only [Value.agg.injEq,Array.mk.injEq,List.cons.injEq,and_true] at hv
 obtain ⟨rfl,rfl⟩:=hv
 have hmk:=run_make (P:=Tryz.prog) (w.alloc (.cells #[.slice at_ toks.length ct,.slice an nodes.length cn] 25)) 157 4 i0 (.bool false) Tryz.underlying157 hi hz0 .i64 .i64 nodes.length nodes.length (by omega) (by omega) (by rw [hz2];omega) (by omega)
 rw [hz1,Int.toNat_natCast,madeCells_bool] at hmk
 have HT:=Lib.hid h
 have HLV:=Lib.hid hlv
 have HKL:=Lib.hid hkl
 clear h hlv hkl
 go_enter Tryz.func62,Tryz.ntmps62
 go_wp2
 have T2:=(Lib.alloc_old (w.alloc (.cells #[.slice at_ toks.length ct,.slice an nodes.length cn] 25)) (.cells (Array.replicate nodes.length (Value.bool false)) 4) w.heap.size (by simp)).trans (heap_alloc_new w (.cells #[.slice at_ toks.length ct,.slice an nodes.length cn] 25))
 have G2:MarksAt ((w.alloc (.cells #[.slice at_ toks.length ct,.slice an nodes.length cn] 25)).alloc (.cells (Array.replicate nodes.length (Value.bool false)) 4)) (w.heap.size+1) (List.replicate nodes.length false):=by
  have:=heap_alloc_new (w.alloc (.cells #[.slice at_ toks.length ct,.slice an nodes.length cn] 25)) (.cells (Array.replicate nodes.length (Value.bool false)) 4)
  rw [World.size_alloc] at this
  rw [MarksAt,this]
  simp
 have hb2:Below w.heap.size w ((w.alloc (.cells #[.slice at_ toks.length ct,.slice an nodes.length cn] 25)).alloc (.cells (Array.replicate nodes.length (Value.bool false)) 4)):=((Below.refl _ w).alloc (Nat.le_refl _) _).alloc (by simp) _
 clear hmk
 generalize (w.alloc _).alloc _=W2 at T2 G2 hb2 ⊢
 go_loopw [18] (fun q wr=>∃ (i:Nat) (kid:List Bool),i≤nodes.length∧q=.int .i64 i∧kid.length=nodes.length∧marksF toks.length i (nodes.drop i) kid=marksAll toks.length nodes∧MarksAt wr (w.heap.size+1) kid∧wr.heap[w.heap.size]?=some (.cells #[.slice at_ toks.length ct,.slice an nodes.length cn] 25 (0,0))∧Below w.heap.size w wr) (fun q _=>nodes.length - (intOf q).toNat)
 case atStart=>exact ⟨0,List.replicate nodes.length false,Nat.zero_le _,rfl,by simp,rfl,G2,T2,hb2⟩
 case round =>
  obtain ⟨i,kid,hi',rfl,hkl,hmk,hG,hT,hbl⟩:=hrel
  have hz:=hbl.size
  have c0:wr.cell? ⟨w.heap.size,0,none⟩=some (.slice at_ toks.length ct):=by rw [Lib.cell_of_heap hT];rfl
  have c1:wr.cell? ⟨w.heap.size,1,none⟩=some (.slice an nodes.length cn):=by rw [Lib.cell_of_heap hT];rfl
  clear T2 G2 hb2
  by_cases hlt:i<nodes.length
  ·obtain ⟨b,off,cap2,kv,hnv,hbB,hx0,hx1,hx2,hkv⟩:=HT.out.node hlt
   simp only [Value.slice.injEq] at hnv
   obtain ⟨rfl,-,rfl⟩:=hnv
   have hdr:nodes.drop i=nodes[i] :: nodes.drop (i+1):=List.drop_eq_getElem_cons hlt
   have hkn:=HKL.out nodes[i] (List.getElem_mem hlt)
   rw [hdr,marksF] at hmk
   obtain ⟨akv,ckv,rfl,_,_⟩:=hkv.form
   have x0:=(hbl.cell (p:=⟨b,off+i * 3,none⟩) (by show b<_;omega)).trans hx0
   have x1:=(hbl.cell (p:=⟨b,off+i * 3+1,none⟩) (by show b<_;omega)).trans hx1
   have x2:=(hbl.cell (p:=⟨b,off+i * 3+2,none⟩) (by show b<_;omega)).trans hx2
   have K:=(hkv.mono hB).below hbl
   have hiI:(i:Int)<(nodes.length:Int):=by omega
   have HMK:=Lib.hid hmk
   clear hmk hx0 hx1 hx2 hkv hdr
   generalize hnd:nodes[i]=nd at x0 x1 x2 K hkn HMK
   obtain ⟨kind,tok,ks⟩:=nd
   simp only at x0 x1 x2 K hkn
   have N1:=heap_alloc_new wr (.cells #[.int .i64 kind,.int .i64 tok,.slice akv ks.length ckv] 85)
   have hbn:=below_new wr (.cells #[.int .i64 kind,.int .i64 tok,.slice akv ks.length ckv] 85)
   have T1:=(hbn.block w.heap.size (Array.getElem?_eq_some_iff.1 hT).1).trans hT
   have G1:MarksAt (wr.alloc (.cells #[.int .i64 kind,.int .i64 tok,.slice akv ks.length ckv] 85)) (w.heap.size+1) kid:=(hbn.block _ (Array.getElem?_eq_some_iff.1 hG).1).trans hG
   have K1:=K.below (hbn.mono hz)
   have hb1:=hbl.trans (hbn.mono hz)
   go_upto_region 5 with (fail)
   clear c0 c1 x0 x1 x2 K hbn hT hG hbl
   generalize wr.heap.size=xb at N1 hz ⊢
   generalize wr.alloc _=W1 at N1 T1 G1 K1 hb1 ⊢
   have hz1:=hb1.size
   have c0:W1.cell? ⟨w.heap.size,0,none⟩=some (.slice at_ toks.length ct):=by rw [Lib.cell_of_heap T1];rfl
   have c1:W1.cell? ⟨w.heap.size,1,none⟩=some (.slice (some ⟨b,off,none⟩) nodes.length cn):=by rw [Lib.cell_of_heap T1];rfl
   have y0:W1.cell? ⟨xb,0,none⟩=some (.int .i64 kind):=by rw [Lib.cell_of_heap N1];rfl
   have y1:W1.cell? ⟨xb,1,none⟩=some (.int .i64 tok):=by rw [Lib.cell_of_heap N1];rfl
   have y2:W1.cell? ⟨xb,2,none⟩=some (.slice akv ks.length ckv):=by rw [Lib.cell_of_heap N1];rfl
   have HF:=Lib.hid (formed_any at_ (some ⟨b,off,none⟩) toks.length ct nodes.length cn i w.heap.size ⟨kind,tok,ks⟩ (.slice akv ks.length ckv) W1 K1 hz1 (by simp only;omega))
   by_cases hfm:formedB toks.length i ⟨kind,tok,ks⟩=true
   ·have hq:=HMK.out
    rw [if_pos hfm] at hq
    rw [hfm] at HF
    have HQ:=Lib.hid hq
    clear hq HMK
    have hlx:=(Array.getElem?_eq_some_iff.1 N1).1
    go_wp2_with (go_at_call 91;refine HF.out.mono ?_;rintro e w3 ⟨rfl,hb3⟩;have z2:w3.cell? ⟨xb,2,none⟩=some (.slice akv ks.length ckv):=(hb3.cell (p:=⟨xb,2,none⟩) hlx).trans y2)
    have T3:=(hb3.block w.heap.size (Array.getElem?_eq_some_iff.1 T1).1).trans T1
    have G3:MarksAt w3 (w.heap.size+1) kid:=(hb3.block _ (Array.getElem?_eq_some_iff.1 G1).1).trans G1
    have K3:=K1.below (hb3.mono hz1)
    have hb3':=hb1.trans (hb3.mono hz1)
    have hfk:∀ k∈ks,0≤k∧k<(i:Int):=by
     unfold formedB at hfm
     by_cases h1:kind<1∨19<kind
     ·rw [if_pos h1] at hfm;cases hfm
     rw [if_neg h1] at hfm
     by_cases h2:kind=19
     ·rw [if_pos h2] at hfm
      simp only [Bool.and_eq_true,decide_eq_true_eq] at hfm
      have:=List.length_eq_zero_iff.1 hfm.1
      subst this
      exact fun k hk=>by cases hk
     ·rw [if_neg h2,Bool.and_eq_true] at hfm
      have h3:=hfm.2
      rw [Bool.not_eq_true',← Bool.not_eq_true,List.any_eq_true] at h3
      intro k hk
      by_cases h4:0≤k∧k<(i:Int)
      ·exact h4
      ·exact absurd ⟨k,hk,by simp only [Bool.or_eq_true,decide_eq_true_eq];omega⟩ h3
    have HFK:=Lib.hid hfk
    clear hb3 T1 G1 K1 hb1 hz1 c0 c1 y0 y1 y2 N1 HF hfm hfk
    obtain ⟨akv',ckv',hvk,_,hkf⟩:=K3.form
    simp only [Value.slice.injEq] at hvk
    obtain ⟨rfl,-,rfl⟩:=hvk
    have HKF:=Lib.hid hkf
    clear hkf z2
    go_loopw [31] (fun q wi=>∃ (j:Nat) (kid':List Bool),j≤ks.length∧q=.int .i64 j∧kid'.length=nodes.length∧(markF kid' (ks.drop j)).bind (marksF toks.length (i+1) (nodes.drop (i+1)))=marksAll toks.length nodes∧MarksAt wi (w.heap.size+1) kid'∧(∀ q,q≠w.heap.size+1→wi.heap[q]?=w3.heap[q]?)∧Below w.heap.size w wi) (fun q _=>ks.length - (intOf q).toNat)
    case atStart=>exact ⟨0,kid,Nat.zero_le _,rfl,hkl,HQ.out,G3,fun _ _=>rfl,hb3'⟩
    case round =>
     obtain ⟨j,kid',hj,rfl,hkl',hq,hG,hoth,hbl⟩:=hrel
     by_cases hjl:j<ks.length
     ·obtain ⟨bk,offk,rfl,hbk,hcell⟩:=HKF.out (by omega)
      have hx:wr.cell? ⟨bk,offk+j,none⟩=some (.int .i64 ks[j]):=(World.cell?_of_block (a:=⟨bk,offk+j,none⟩) (hoth bk (by omega))).trans (hcell j hjl)
      have hdr:ks.drop j=ks[j] :: ks.drop (j+1):=List.drop_eq_getElem_cons hjl
      have hkr:=HFK.out ks[j] (List.getElem_mem hjl)
      rw [hdr,markF] at hq
      generalize ks[j]=k at hx hkr hq
      obtain ⟨k,rfl⟩:∃ kk:Nat,k=(kk:Int):=⟨k.toNat,by omega⟩
      rw [Int.toNat_natCast,List.getD_eq_getElem?_getD,List.getElem?_eq_getElem (by omega),Option.getD_some] at hq
      have hm:=hG.cell (j:=k) (by omega)
      have hjI:(j:Int)<(ks.length:Int):=by omega
      have hkI:(k:Int)<(nodes.length:Int):=by omega
      clear hcell hdr
      cases hv:kid'[k]'(by omega) with
      | true =>
       rw [hv] at hm hq
       rw [if_pos rfl,Option.bind_none] at hq
       have HRB:Hid (rightB toks.length nodes l=false):=Lib.hid (by rw [rightB,← hq])
       clear hq hv
       go_wp2
       go_ret
       exact ⟨ret_bool HRB.out.symm,hbl⟩
      | false =>
       rw [hv] at hm hq
       rw [if_neg (by decide)] at hq
       have hset:=hG.set k true
       have hfz:=hG.free k
       have HQ2:=Lib.hid hq
       have hoth2:∀ q,q≠w.heap.size+1→(wr.setCell ⟨w.heap.size+1,k,none⟩ (.bool true)).heap[q]?=w3.heap[q]?:=fun q hqn=>(heap_setCell_other _ _ _ _ hqn).trans (hoth q hqn)
       clear hq hv
       go_wp2
       go_roundw
       case rel=>exact ⟨j+1,_,by omega,by go_num,by rw [List.length_set];exact hkl',HQ2.out,hset,hoth2,hbl.setCell (by show w.heap.size≤w.heap.size+1;omega) _⟩
       case measure=>simp [intOf];omega
     ·obtain rfl:j=ks.length:=by omega
      rw [List.drop_length,markF,Option.bind_some] at hq
      have hTi:=(hoth w.heap.size (by omega)).trans T3
      have HQ2:=Lib.hid hq
      have hjI:decide ((ks.length:Int)<(ks.length:Int))=false:=decide_eq_false (by omega)
      clear hq
      go_wp2
      exact ⟨⟨i+1,kid',by omega,by go_num,hkl',HQ2.out,hG,hTi,hbl⟩,by simp [intOf];omega⟩
   ·have hq:=HMK.out
    rw [if_neg hfm] at hq
    have HRB:Hid (rightB toks.length nodes l=false):=Lib.hid (by rw [rightB,← hq])
    rw [Bool.not_eq_true] at hfm
    rw [hfm] at HF
    clear hq HMK
    go_wp2_with (go_at_call 91;refine HF.out.mono ?_;rintro e w3 ⟨rfl,hb3⟩)
    go_ret
    exact ⟨ret_bool HRB.out.symm,hb1.trans (hb3.mono hz1)⟩
  ·obtain rfl:i=nodes.length:=by omega
   rw [List.drop_length,marksF] at hmk
   have hqI:decide ((nodes.length:Int)<(nodes.length:Int))=false:=decide_eq_false (by omega)
   by_cases h0:nodes.length=0
   ·have HRB:Hid (rightB toks.length nodes l=false):=Lib.hid (by rw [rightB,← hmk];simp only [hkl,h0];rfl)
    have h0I:((nodes.length:Int) == 0)=true:=by simp [h0]
    clear hmk hG
    go_wp2
    go_ret
    exact ⟨ret_bool HRB.out.symm,hbl⟩
   ·have h0I:((nodes.length:Int) == 0)=false:=by simp [h0]
    have hR:=fun (W:World)=>root_any (.slice at_ toks.length ct) an nodes.length cn W (by omega)
    have HR:=Lib.hid hR
    have HG:=Lib.hid hG
    clear hR
    obtain ⟨p,hp⟩:∃ p,p=(kid.take (nodes.length - 1)).contains false:=⟨_,rfl⟩
    have HP:=Lib.hid hp
    have hnI:((nodes.length:Int) - 1)=((nodes.length - 1:Nat):Int):=by omega
    clear hp hG
    cases p with
    | true =>
     have HRB:Hid (rightB toks.length nodes l=false):=Lib.hid (by rw [rightB,← hmk];simp only;rw [← HP.out];simp)
     clear hmk
     go_wp2_with (first|(go_at_call 13;refine (HR.out _).mono ?_;rintro e w3 ⟨rfl,hb3⟩;rw [hnI])|(go_at_call 92;refine (boolContains_any (w.heap.size+1) (nodes.length - 1) nodes.length kid _ ((hb3.block _ (Array.getElem?_eq_some_iff.1 HG.out).1).trans HG.out) (by omega) (by omega)).mono ?_;rintro e w4 ⟨rfl,rfl⟩;rw [← HP.out]))
     go_ret
     exact ⟨ret_bool HRB.out.symm,hbl.trans (hb3.mono hz)⟩
    | false =>
     have hlq:=HLV.out kid hmk.symm (by omega) HP.out.symm
     have HRB:Hid (rightB toks.length nodes l=(countsB 0 l && decide (l.length=toks.length))):=Lib.hid (by
      rw [rightB,← hmk]
      simp only
      rw [← HP.out,decide_eq_false (by omega:¬ kid.length=0)]
      simp)
     have HL:=Lib.hid (fun (W:World) (hW:Below w.heap.size w W)=>leaves_any w.heap.size (.slice at_ toks.length ct) (.slice an nodes.length cn) toks nodes (((nodes.length:Nat):Int) - 1) l g W ((HT.out.mono hB).below hW) hW.size (by omega) hlq hll)
     rw [hnI] at HL
     clear hmk hlq
     go_wp2_with (first|(go_at_call 13;refine (HR.out _).mono ?_;rintro e w3 ⟨rfl,hb3⟩;rw [hnI])|(go_at_call 92;refine (boolContains_any (w.heap.size+1) (nodes.length - 1) nodes.length kid _ ((hb3.block _ (Array.getElem?_eq_some_iff.1 HG.out).1).trans HG.out) (by omega) (by omega)).mono ?_;rintro e w4 ⟨rfl,rfl⟩;rw [← HP.out]))
     have hb4:=hbl.trans (hb3.mono hz)
     have T4:=(hb3.block w.heap.size (Array.getElem?_eq_some_iff.1 hT).1).trans hT
     clear hb3 hbl hT c0 c1 HG HP hkl hz
     have hz4:=hb4.size
     have c0:w4.cell? ⟨w.heap.size,0,none⟩=some (.slice at_ toks.length ct):=by rw [Lib.cell_of_heap T4];rfl
     have c1:w4.cell? ⟨w.heap.size,1,none⟩=some (.slice an nodes.length cn):=by rw [Lib.cell_of_heap T4];rfl
     go_cut [8] (fun v wx=>∃ ao cap,v=.slice ao l.length cap∧Ints wx.heap.size wx (.slice ao l.length cap) l∧wx.heap[w.heap.size]?=some (.cells #[.slice at_ toks.length ct,.slice an nodes.length cn] 25 (0,0))∧Below w.heap.size w wx)
     case first =>
      have hT4l:=(Array.getElem?_eq_some_iff.1 T4).1
      go_region_with (first|(go_at_call 13;refine (HR.out _).mono ?_;rintro e w5 ⟨rfl,hb5⟩;rw [hnI];have d0:=(hb5.cell (p:=⟨w.heap.size,0,none⟩) hT4l).trans c0;have d1:=(hb5.cell (p:=⟨w.heap.size,1,none⟩) hT4l).trans c1)|(go_at_call 93;refine (HL.out _ (hb4.drew.trans (hb5.mono hz4))).mono ?_;rintro e w6 ⟨v6,rfl,hv6,hb6⟩;obtain ⟨al,cl,rfl,_,_⟩:=hv6.form))
      all_goals
       have hb56:=(hb4.drew.trans (hb5.mono hz4))
       have T6:=(hb6.block w.heap.size (Nat.lt_of_lt_of_le (Array.getElem?_eq_some_iff.1 T4).1 hb5.size)).trans ((hb5.block w.heap.size (Array.getElem?_eq_some_iff.1 T4).1).trans T4)
       clear c0 c1 d0 d1 T4
       go_wp2_with fail
       go_meet
       exact ⟨al,cl,rfl,hv6,T6,hb56.trans (hb6.mono hb56.size)⟩
     case rest =>
      obtain ⟨al,cl,rfl,hv,hT,hbc⟩:=hcut
      clear hb4 T4 c0 c1 HR HT HLV HKL
      obtain ⟨wo,rfl⟩:∃ wo:World,wo=wc:=⟨_,rfl⟩
      have c0:wo.cell? ⟨w.heap.size,0,none⟩=some (.slice at_ toks.length ct):=by rw [Lib.cell_of_heap hT];rfl
      obtain ⟨ao,cp,hvv,_,hvf⟩:=hv.form
      simp only [Value.slice.injEq] at hvv
      obtain ⟨rfl,-,rfl⟩:=hvv
      have HV:=Lib.hid hvf
      clear hvf hv hT HL
      go_wp2
      go_loopw [60] (fun q wr=>∃ j:Nat,j≤l.length∧q=.int .i64 j∧countsB 0 l=countsB j (l.drop j)∧wr=wo) (fun q _=>l.length - (intOf q).toNat)
      case atStart=>exact ⟨0,Nat.zero_le _,rfl,rfl,rfl⟩
      case round =>
       obtain ⟨j,hj,rfl,hcn,hwr⟩:=hrel
       subst hwr
       by_cases hjl:j<l.length
       ·obtain ⟨b,off,rfl,hb,hc⟩:=HV.out (by omega)
        have hx:=hc j hjl
        rw [List.drop_eq_getElem_cons hjl,countsB] at hcn
        have hjI:(j:Int)<(l.length:Int):=by omega
        generalize l[j]=x at hx hcn
        clear hc
        by_cases hxe:(j:Int)=x
        ·subst hxe
         rw [decide_eq_true rfl,Bool.true_and] at hcn
         have HC:=Lib.hid hcn
         clear hcn
         go_wp2
         exact ⟨⟨j+1,by omega,by go_num,HC.out,(by first|trivial|rfl)⟩,by simp [intOf];omega⟩
        ·rw [decide_eq_false hxe,Bool.false_and] at hcn
         have HC:=Lib.hid hcn
         have hne:((j:Int) == x)=false:=by simp [hxe]
         clear hcn
         go_wp2
         go_ret
         exact ⟨ret_bool (by rw [HRB.out,HC.out];rfl),hbc⟩
       ·obtain rfl:j=l.length:=by omega
        have hjI:decide ((l.length:Int)<(l.length:Int))=false:=decide_eq_false (by omega)
        rw [List.drop_length,countsB] at hcn
        have HC:=Lib.hid hcn
        clear hcn
        go_wp2
        go_ret
        refine ⟨ret_bool ?_,hbc⟩
        rw [HRB.out,HC.out,Bool.true_and]
        exact decide_eq_decide.2 (by omega)
end Go.Proofs.YtemkhbmkaalgdaaGreatDoor

namespace Go.Proofs.YtemkhbmkaalgdaaGreatDoor
open Go.RowKit
theorem sizeBuilder:(Tryz.prog.info? 102).map (·.size)=some 2:=by kernel_rfl
theorem liesBuilder:liesAt Tryz.prog Tryz.prog.depth 102 (2 / Tryz.prog.cellsOf 102) 0 102 1=true:=by kernel_rfl
theorem Tryz.infoByte:(Tryz.prog.info? 5).map (fun i=>(i.zero,i.size,i.bytes))=some (some (.int .u8 0),1,1):=by kernel_rfl
theorem copyCheck_used (b:Nat)(w:World)(h0:w.cell? ⟨b,0,none⟩=some (.pointer (some ⟨b,0,none⟩))) :
  Calls Tryz.prog 66 #[.pointer (some ⟨b,0,none⟩)] w fun e w'=>e=.returned (.tuple #[])∧w'=w:=by
 obtain ⟨j,hj,_⟩:=Option.map_eq_some_iff.1 sizeBuilder
 go_enter Tryz.func66,Tryz.ntmps66
 go_wp2
 rw [Lib.run_neq_ptr_same w _ Tryz.underlying99 hj]
 go_wp2
 go_end0
 exact ⟨rfl,rfl⟩
theorem copyCheck_fresh (b:Nat)(w:World)(h0:w.cell? ⟨b,0,none⟩=some (.pointer none))(hsh:w.shape? b=some (102,2))(hfz:w.frozen? ⟨b,0,none⟩=false) :
  Calls Tryz.prog 66 #[.pointer (some ⟨b,0,none⟩)] w fun e w'=>e=.returned (.tuple #[])∧w'=w.setCell ⟨b,0,none⟩ (.pointer (some ⟨b,0,none⟩)):=by
 obtain ⟨j,hj,hjs⟩:=Option.map_eq_some_iff.1 sizeBuilder
 go_enter Tryz.func66,Tryz.ntmps66
 go_wp2
 rw [Lib.run_to_unsafe w ⟨b,0,none⟩ Tryz.underlying99 Tryz.underlying162 hj (by rw [hjs];decide) hsh (Nat.zero_lt_succ 1)]
 simp only [Result.andThen]
 rw [Oper.upon_value]
 go_wp2
 rw [run_callFunc_extern Tryz.func97 (by kernel_rfl) (by kernel_rfl) (by kernel_rfl) (e:=Extern.AbiNoEscape.same) (by kernel_rfl)]
 rw [Lib.run_noEscape]
 simp only [Result.andThen]
 rw [Oper.upon_value]
 go_wp2
 rw [Lib.run_from_unsafe w ⟨b,0,none⟩ Tryz.underlying162 Tryz.underlying99 hj hsh liesBuilder]
 simp only [Result.andThen]
 rw [Oper.upon_value]
 go_wp2
 go_end0
 exact ⟨rfl,rfl⟩
theorem copyCheck_k (B b:Nat)(bs:List Value)(w:World)(h:Lib.IsBuilderF 102 5 B b bs w) :
  Calls Tryz.prog 66 #[.pointer (some ⟨b,0,none⟩)] w fun e w'=>e=.returned (.tuple #[])∧(Lib.BuilderAtF 102 5 B b (.pointer (some ⟨b,0,none⟩)) bs w'∧Below B w w'∧Lib.OthersKept 5 (some b) w w'):=by
 rcases h with h|h
 ·refine (copyCheck_fresh b w h.cell0 h.shape h.frozen0).mono ?_
  rintro e w' ⟨rfl,rfl⟩
  exact ⟨rfl,h.used _,(Below.refl B w).setCell (p:=⟨b,0,none⟩) h.1 _,(Lib.OthersKept.refl _ _ w).setCell ⟨b,0,none⟩ rfl _⟩
 ·refine (copyCheck_used b w h.cell0).mono ?_
  rintro e w' ⟨rfl,rfl⟩
  exact ⟨rfl,h,Below.refl B _,Lib.OthersKept.refl _ _ _⟩
theorem writeString (B b:Nat)(bs:List Value)(s:ByteArray)(w:World)(h:Lib.IsBuilderF 102 5 B b bs w)(hlen:bs.length+s.size≤140737488355328)(hBw:B≤w.heap.size) :
  Calls Tryz.prog 40 #[.pointer (some ⟨b,0,none⟩),.string s] w fun e w'=>e=.returned (.tuple #[.int .i64 s.size,.nilIface])∧(Lib.IsBuilderF 102 5 B b (bs++Lib.strCells s) w'∧Below B w w'∧Lib.OthersKept 5 (some b) w w'):=by
 obtain ⟨i0,hi,hz0,hz1,hz2⟩:=info_parts Tryz.infoByte
 go_enter Tryz.func40,Tryz.ntmps40
 go_wp2_with (go_at_call 66;refine (copyCheck_k B b bs _ h).mono ?_)
 rintro e w1 ⟨rfl,h1,hb1,hk1⟩
 obtain ⟨hB,v,hbk,hown,hne⟩:=h1
 have c0:w1.cell? ⟨b,0,none⟩=some (.pointer (some ⟨b,0,none⟩)):=by rw [Lib.cell_of_heap hbk];rfl
 have c1:w1.cell? ⟨b,1,none⟩=some v:=by rw [Lib.cell_of_heap hbk];rfl
 go_wp2_with (at_builtin;refine Lib.wpList_append_own_stringF _ rfl _ _ 100 9 rfl B 5 i0 Tryz.underlying100 Tryz.underlying9 hi hz0 hz1 hz2 _ _ _ rfl hown s rfl ?c3 ?c4 ?c5 ?_)
 case c3=>unfold maxLen;omega
 case c4=>omega
 case c5=>have:=hb1.size;omega
 intro v' w2 hown' hgrow _
 have hlt:b<w1.heap.size:=by
  rcases Nat.lt_or_ge b w1.heap.size with h'|h'
  ·exact h'
  ·simp [Array.getElem?_eq_none h'] at hbk
 have hb2:w2.heap[b]?=some (.cells #[.pointer (some ⟨b,0,none⟩),v] 102 (0,0)):=by
  rw [hgrow.block b hlt (fun e=>hne e.symm)]
  exact hbk
 have d0:w2.cell? ⟨b,0,none⟩=some (.pointer (some ⟨b,0,none⟩)):=by rw [Lib.cell_of_heap hb2];rfl
 have d1:w2.cell? ⟨b,1,none⟩=some v:=by rw [Lib.cell_of_heap hb2];rfl
 have f1:w2.frozen? ⟨b,1,none⟩=false:=Lib.frozen_of_heap hb2 1
 obtain ⟨ao,n',cap,rfl⟩:∃ ao n' cap,v'=.slice ao n' cap:=by
  rcases hown'.2 with ⟨hv,_⟩|⟨g,cap,cur,fz,hv,_⟩
  ·exact ⟨_,_,_,hv⟩
  ·exact ⟨_,_,_,hv⟩
 go_wp2
 go_ret2
 refine ⟨rfl,?_,?_,(hk1.grown hgrow (Lib.ownsRowF_kind hown)).setCell ⟨b,1,none⟩ rfl _⟩
 ·exact Or.inr (Lib.BuilderAtF.put (T:=102) (e:=5) hB hb2 (bs':=bs++Lib.strCells s) (by simpa [Lib.strCells_length] using hown') (by decide))
 ·exact (hb1.grown hgrow (by have:=hb1.size;omega) (fun k hk=>(hown.lt k hk).1)).setCell (p:=⟨b,1,none⟩) hB _
def Bld (B b:Nat)(acc:List UInt8)(w:World):Prop:=Lib.IsBuilderF 102 5 B b (Lib.byteCells acc) w
theorem Bld.at {B b:Nat}{acc:List UInt8}{w:World}(h:Bld B b acc w):∃ p,Lib.BuilderAtF 102 5 B b p (Lib.byteCells acc) w:=by
 rcases h with h|h
 ·exact ⟨_,h⟩
 ·exact ⟨_,h⟩
theorem Bld.le {B b:Nat}{acc:List UInt8}{w:World}(h:Bld B b acc w):B≤b:=by obtain ⟨p,h⟩:=h.at;exact h.1
theorem Bld.lt {B b:Nat}{acc:List UInt8}{w:World}(h:Bld B b acc w):b<w.heap.size:=by obtain ⟨p,h⟩:=h.at;exact h.lt
theorem Bld.alloc {B b:Nat}{acc:List UInt8}{w:World}(h:Bld B b acc w)(o:Obj):Bld B b acc (w.alloc o):=by
 rcases h with h|h
 ·exact Or.inl (h.alloc o)
 ·exact Or.inr (h.alloc o)
theorem Bld.drew {B b:Nat}{acc:List UInt8}{w:World}(h:Bld B b acc w):Bld B b acc w.drew:=by
 rcases h with h|h
 ·exact Or.inl h.drew
 ·exact Or.inr h.drew
theorem Bld.fresh (w:World):Bld w.heap.size w.heap.size [] (w.alloc (.cells #[.pointer none,.slice none 0 0] 102)) :=
 Lib.IsBuilderF.of (Lib.fresh_isBuilder 102 5 w)
theorem Bld.mono {B B' b:Nat}{acc:List UInt8}{w:World}(h:Bld B b acc w)(hb:B'≤B):Bld B' b acc w:=by
 have key:∀ p,Lib.BuilderAtF 102 5 B b p (Lib.byteCells acc) w→Lib.BuilderAtF 102 5 B' b p (Lib.byteCells acc) w:=by
  rintro p ⟨h1,v,h2,⟨h3,h4⟩,h5⟩
  refine ⟨by omega,v,h2,⟨h3,?_⟩,h5⟩
  rcases h4 with h4|⟨g,cap,cur,fz,q1,q2,q3⟩
  ·exact Or.inl h4
  ·exact Or.inr ⟨g,cap,cur,fz,q1,by omega,q3⟩
 rcases h with h|h
 ·exact Or.inl (key _ h)
 ·exact Or.inr (key _ h)
theorem Bld.ne {B b k:Nat}{acc:List UInt8}{w:World}(h:Bld B b acc w){cs:Array Value}{T:TypeId}{fr:Nat × Nat}(hk:w.heap[k]?=some (.cells cs T fr))(hT:T≠102):k≠b:=by
 obtain ⟨p,_,v,hb,_⟩:=h.at
 rintro rfl
 rw [hk] at hb
 simp only [Option.some.injEq,Obj.cells.injEq] at hb
 exact hT hb.2.1
theorem Bld.block {B b k:Nat}{acc:List UInt8}{w w':World}(h:Bld B b acc w)(ho:Lib.OthersKept 5 (some b) w w'){cs:Array Value}{T:TypeId}{fr:Nat × Nat}(hk:w.heap[k]?=some (.cells cs T fr))
  (hT:T≠102) (he:T≠5):w'.heap[k]?=some (.cells cs T fr) :=
 ho k _ hk (fun e=>h.ne hk hT (Option.some.inj e)) (fun c fz e=>he (by injection e))
theorem Bld.row {B b base e sz n:Nat}{v:Value}{xs:List Value}{acc:List UInt8}{w w':World}(h:Bld B b acc w)(ho:Lib.OthersKept 5 (some b) w w')(hr:w.ownsRow base e sz v n xs)
  (hT:e≠102) (he:e≠5):w'.ownsRow base e sz v n xs:=by
 obtain ⟨h1,h2⟩:=hr
 refine ⟨h1,?_⟩
 rcases h2 with h2|⟨g,cap,cur,q1,q2,q3,q4⟩
 ·exact Or.inl h2
 ·exact Or.inr ⟨g,cap,cur,q1,q2,h.block ho q3 hT he,q4⟩
theorem Bld.grown {B b base e sz n:Nat}{v:Value}{xs:List Value}{acc:List UInt8}{w w':World}(h:Bld B b acc w)(hr:w.ownsRow base e sz v n xs)(hg:w.grownBy w' v.ownBlock)
  (hT:e≠102) (he:e≠5):Bld B b acc w':=by
 have hrow:∀ k,v.ownBlock=some k→∃ cs,w.heap[k]?=some (.cells cs e (0,0)):=by
  intro k hk
  rcases hr.2 with ⟨rfl,_⟩|⟨g,cap,cur,rfl,_,hgg,_⟩
  ·simp [Value.ownBlock] at hk
  ·simp [Value.ownBlock] at hk;subst hk;exact ⟨_,hgg⟩
 have key:∀ p,Lib.BuilderAtF 102 5 B b p (Lib.byteCells acc) w→Lib.BuilderAtF 102 5 B b p (Lib.byteCells acc) w':=by
  rintro p ⟨h1,u,h2,h3,h5⟩
  have hlt:b<w.heap.size:=h.lt
  refine ⟨h1,u,?_,h3.kept hg ?_,h5⟩
  ·rw [hg.block b hlt (fun q=>?_)]
   ·exact h2
   ·obtain ⟨cs,hcs⟩:=hrow b q.symm
    exact h.ne hcs hT rfl
  ·rcases h3.2 with ⟨rfl,_⟩|⟨g,cap,cur,fz,rfl,_,hgg,_⟩
   ·exact Or.inl rfl
   ·refine Or.inr (fun q=>?_)
    obtain ⟨cs,hcs⟩:=hrow g (by rw [← q];rfl)
    rw [hcs] at hgg
    simp only [Option.some.injEq,Obj.cells.injEq] at hgg
    exact he hgg.2.1
 rcases h with h|h
 ·exact Or.inl (key _ h)
 ·exact Or.inr (key _ h)
theorem write_any (B b:Nat)(acc:List UInt8)(s:ByteArray)(w:World)(h:Bld B b acc w)(hlen:acc.length+s.size≤140737488355328)(hBw:B≤w.heap.size) :
  Calls Tryz.prog 40 #[.pointer (some ⟨b,0,none⟩),.string s] w fun e w'=>e=.returned (.tuple #[.int .i64 s.size,.nilIface])∧Bld B b (acc++s.data.toList) w'∧Below B w w'∧Lib.OthersKept 5 (some b) w w':=by
 have:=writeString B b (Lib.byteCells acc) s w h (by rw [Lib.byteCells_length];exact hlen) hBw
 rw [Lib.strCells_eq,← Lib.byteCells_append] at this
 exact this
theorem bstring_any (B b:Nat)(acc:List UInt8)(w:World)(h:Bld B b acc w)(hBw:B≤w.heap.size) :
  Calls Tryz.prog 37 #[.pointer (some ⟨b,0,none⟩)] w fun e w'=>e=.returned (.string ⟨acc.toArray⟩)∧Bld B b acc w'∧Below B w w'∧Lib.OthersKept 5 (some b) w w' :=
 Tryz.Builder_String_any_k B b acc w h hBw
end Go.Proofs.YtemkhbmkaalgdaaGreatDoor

namespace Go.Proofs.YtemkhbmkaalgdaaGreatDoor
theorem dec_digits (u:Nat):Lib.decDigits u=decF u:=by
 induction u using Nat.strongRecOn with
 | _ u ih =>
  rw [Lib.decDigits,decF]
  split
  ·rfl
  ·rw [ih (u / 10) (by omega)]
theorem trim_right (l:List UInt8):Lib.trimRightB l 48=trimZ l:=rfl
theorem magV_few:∀ (ws:List Nat) (n:Nat),trimW ws=ws→magV ws<4294967296 ^ n→ws.length≤n
 | [],n,_,_=>Nat.zero_le _
 | d :: l,0,h,hm=>by
  have:=trimW_pos h (by simp)
  simp only [Nat.pow_zero] at hm
  omega
 | d :: l,n+1,h,hm=>by
  have hl:trimW l=l:=by
   rw [trimW] at h
   split at h
   ·cases h
   ·injection h
  have:=magV_few l n hl (by
   rw [magV,Nat.pow_succ] at hm
   generalize 4294967296 ^ n=p at hm ⊢
   omega)
  rw [List.length_cons]
  omega
theorem int_text (n:Int)(k:Nat)(h0:n≠0)(hk:n.natAbs<10 ^ k):(trimZ (lowD k n.natAbs)++(if n<0 then [45] else [])).reverse=intF n:=by
 rw [List.reverse_append,low_text _ _ (by omega) hk,intF]
 split <;> simp
theorem lowD_len:∀ (k n:Nat),(lowD k n).length=k
 | 0,_=>rfl
 | k+1,n=>by rw [lowD,List.length_cons,lowD_len k]
theorem lowD_nine (k n:Nat):lowD (k+9) n=lowD k n++lowD 9 (n / 10 ^ k % 1000000000):=by
 rw [lowD_add k 9,show (1000000000:Nat)=10 ^ 9 from rfl,lowD_mod 9 9 _ (Nat.le_refl _)]
theorem short_div (ws:List Nat)(n k:Nat)(h:magV ws=n / 10 ^ k):magV (trimW (shortF 1000000000 ws).1)=n / 10 ^ (k+9)∧(shortF 1000000000 ws).2=n / 10 ^ k % 1000000000:=by
 have h1:=shortF_val 1000000000 ws
 have h2:=shortF_rest 1000000000 (by omega) ws
 rw [magV_trim,← h]
 have e:n / 10 ^ (k+9)=magV ws / 1000000000:=by
  rw [h,Nat.pow_add,Nat.div_div_eq_div_mul]
 rw [e]
 omega
theorem trim_len (l:List UInt8):(trimZ l).length≤l.length:=by
 rw [trimZ,List.length_reverse]
 have:=(List.dropWhile_suffix (l:=l.reverse) (p:=(· == 48))).length_le
 simpa using this
end Go.Proofs.YtemkhbmkaalgdaaGreatDoor

namespace Go.Proofs.YtemkhbmkaalgdaaGreatDoor
open Go.RowKit
def wholeF:List Tok→List UInt8
 | []=>[]
 | t :: l=>t.lead++t.text++wholeF l
theorem wholeF_len:∀ (l:List Tok),(wholeF l).length=tokAt l l.length
 | []=>rfl
 | t :: l=>by rw [wholeF,List.length_append,List.length_append,wholeF_len l,List.length_cons,tokAt_cons,tokLen]
theorem wholeF_snoc:∀ (l:List Tok) (t:Tok),wholeF (l++[t])=wholeF l++(t.lead++t.text)
 | [],t=>by simp [wholeF]
 | x :: l,t=>by simp only [List.cons_append,wholeF,wholeF_snoc l t,List.append_assoc]
theorem Laid.whole_take {T:List UInt8}{p:Nat}{l:List Tok}(h:Laid T p l):∀ k,k≤l.length→wholeF (l.take k)=T.take (tokAt l k)
 | 0,_=>by simp [wholeF,tokAt_zero]
 | k+1,hk=>by
  have hl:k<l.length:=hk
  have hle:=h.inside (k+1) hk
  rw [tokAt_succ l k hl,tokLen] at hle
  rw [List.take_succ_eq_append_getElem hl,wholeF_snoc,h.whole_take k (by omega),tokAt_succ l k hl,tokLen]
  have h1:=h.lead k hl
  have h2:=h.text k hl
  generalize tokAt l k=a at h1 h2 hle ⊢
  rw [← Nat.add_assoc,List.take_add (i:=a+l[k].lead.length),List.take_add (i:=a),h1,h2,List.append_assoc]
theorem Laid.whole_eq {T:List UInt8}{p:Nat}{l:List Tok}(h:Laid T p l):wholeF l=T:=by
 have:=h.whole_take l.length (Nat.le_refl _)
 rw [List.take_length,h.whole,List.take_length] at this
 exact this
theorem wholeF_take_len:∀ (l:List Tok) (k:Nat),k≤l.length→(wholeF (l.take k)).length=tokAt l k
 | l,0,_=>by simp [wholeF,tokAt_zero]
 | [],k+1,h=>absurd h (by simp)
 | t :: l,k+1,h=>by
  rw [List.take_succ_cons,wholeF,List.length_append,List.length_append,wholeF_take_len l k (by simpa using h),tokAt_cons,tokLen]
theorem tokAt_mono (l:List Tok):∀ (i j:Nat),i≤j→j≤l.length→tokAt l i≤tokAt l j:=by
 intro i j h hj
 induction j with
 | zero=>exact Nat.le_of_eq (by rw [Nat.le_zero.1 h])
 | succ j ih =>
  rcases Nat.lt_or_ge i (j+1) with h'|h'
  ·have:=ih (by omega) (by omega)
   rw [tokAt_succ l j (by omega)]
   omega
  ·obtain rfl:i=j+1:=by omega
   exact Nat.le_refl _
theorem bytes_of (y:List UInt8):∃ Y:ByteArray,Y.data.toList=y∧ByteArray.mk y.toArray=Y:=⟨⟨y.toArray⟩,rfl,rfl⟩
theorem whole_any (v:Value)(l:List Tok)(w:World)(hl:l.length≤1099511627776)(hn:tokAt l l.length≤1099511627776)(hv:Rec w.heap.size w v 4 tokCells l) :
  Calls Tryz.prog 34 #[v] w fun e w'=>e=.returned (.string ⟨(wholeF l).toArray⟩)∧Below w.heap.size w w':=by
 obtain ⟨ao,cap,rfl,hcap,hf⟩:=hv.form (fun _=>rfl)
 clear hv
 go_enter Tryz.func34,Tryz.ntmps34
 go_wp2
 go_loopw [8] (fun i wr=>∃ k:Nat,k≤l.length∧i=.int .i64 k∧Bld w.heap.size w.heap.size (wholeF (l.take k)) wr∧Below w.heap.size w wr) (fun i _=>l.length - (intOf i).toNat)
 case atStart=>exact ⟨0,Nat.zero_le _,rfl,Bld.fresh w,(Below.refl _ _).alloc (Nat.le_refl _) _⟩
 case round =>
  obtain ⟨k,hk,rfl,hbd,hbl⟩:=hrel
  have hz:=hbl.size
  by_cases hlt:k<l.length
  ·obtain ⟨b,off,rfl,hb,hcell⟩:=hf (by omega)
   have hx0:=(hbl.cell (p:=⟨b,off+k * 4,none⟩) hb).trans (hcell k 0 _ hlt rfl)
   have hx1:=(hbl.cell (p:=⟨b,off+k * 4+1,none⟩) hb).trans (hcell k 1 _ hlt rfl)
   have hx2:=(hbl.cell (p:=⟨b,off+k * 4+2,none⟩) hb).trans (hcell k 2 _ hlt rfl)
   have hx3:=(hbl.cell (p:=⟨b,off+k * 4+3,none⟩) hb).trans (hcell k 3 _ hlt rfl)
   have hmo:=tokAt_mono l (k+1) l.length hlt (Nat.le_refl _)
   rw [tokAt_succ l k hlt,tokLen,← wholeF_take_len l k hk] at hmo
   have hsn:wholeF (l.take (k+1))=wholeF (l.take k)++(l[k].lead++l[k].text):=by rw [List.take_succ_eq_append_getElem hlt,wholeF_snoc]
   generalize l[k]=t at hx0 hx1 hx2 hx3 hmo hsn
   obtain ⟨c,x,y,q⟩:=t
   simp only at hx0 hx1 hx2 hx3 hmo hsn
   obtain ⟨X,rfl,eX⟩:=bytes_of x
   obtain ⟨Y,rfl,eY⟩:=bytes_of y
   rw [eX] at hx1
   rw [eY] at hx2
   simp only [size_list] at hmo
   generalize wholeF (l.take k)=acc at hbd hmo hsn
   have HS:=Lib.hid hsn
   have hbd1:=hbd.alloc (.cells #[.int .i64 c,.string X,.string Y,.int .i64 q] 83)
   have hbl1:=hbl.alloc hz (.cells #[.int .i64 c,.string X,.string Y,.int .i64 q] 83)
   clear hcell hf hsn eX eY
   go_wp2_with (go_at_call 40;refine (write_any w.heap.size w.heap.size acc (X++Y) _ hbd1 ?c1 ?c2).mono ?_)
   case c1=>simp only [ByteArray.size_append];omega
   case c2=>simp;omega
   rintro e w2 ⟨rfl,hbd2,hb2,ho2⟩
   rw [append_list,← HS.out] at hbd2
   clear ho2
   go_wp2
   go_roundw
   case rel=>exact ⟨k+1,by omega,by go_num,hbd2,hbl1.trans hb2⟩
   case measure=>simp [intOf];omega
  ·have hkl:k=l.length:=by omega
   subst hkl
   rw [List.take_length] at hbd
   clear hf
   go_wp2_with (go_at_call 37;refine (bstring_any w.heap.size w.heap.size _ _ hbd hz).mono ?_;rintro e w4 ⟨rfl,hbd4,hb4,ho4⟩)
   go_ret
   exact ⟨rfl,hbl.trans hb4⟩
end Go.Proofs.YtemkhbmkaalgdaaGreatDoor
