/- Walks and plain laws: ReadW7, ReadW9. -/
import Derived.Test.YtbodlpoomfefcaaGreatDoorA19
set_option maxHeartbeats 16000000
set_option maxRecDepth 100000
set_option linter.unusedVariables false
set_option linter.unusedSimpArgs false
namespace Go.Proofs.YtbodlpoomfefcaaGreatDoor
open Go.RowKit Go
def binV:Array Value:=(binL.map fun x=>Value.string ⟨x.toArray⟩).toArray
def binAt (k:Nat):ByteArray:=⟨(binL.getD k []).toArray⟩
theorem binSigns_any (w:World):Calls Tryz.prog 127 #[] w fun e w'=>e=.returned (.agg binV)∧Below w.heap.size w w':=by
 go_enter Tryz.func127,Tryz.ntmps127
 apply wp_seq_k
 intro K0 hK0
 have HK:=Lib.hid hK0
 clear hK0
 go_wp2
 apply HK.out
 apply wp_seq_k
 intro K1 hK1
 apply wp_region_lit
 refine wpList_buildTo rfl 207 _ rfl (some 1) rfl binV (by kernel_rfl) ?_
 refine wpList_store_rowTo rfl 207 _ _ rfl rfl w.heap.size binV rfl rfl 207 _ (heap_alloc_new _ _) (by kernel_rfl) (by decide) (by kernel_rfl) ?_
 rw [World.setRow_alloc_new]
 apply wpList_nil
 apply hK1
 go_wp2
 refine bodyPost_ret (v:=.agg binV) (results_cell_row rfl _ _ w.heap.size 207 _ (0,0) _ rfl (heap_alloc_new _ _) Tryz.underlying207 rfl (by kernel_rfl)) rfl ⟨rfl,(Below.refl _ _).alloc (Nat.le_refl _) _⟩
theorem bin_index:∀ k:Nat,k<14→∀ w:World,(Instr.index 207 (.agg binV) (.int .i64 k)).run Tryz.prog w=.ok (.string (binAt k)) w
 | 0,_=>fun _=>by kernel_rfl
 | 1,_=>fun _=>by kernel_rfl
 | 2,_=>fun _=>by kernel_rfl
 | 3,_=>fun _=>by kernel_rfl
 | 4,_=>fun _=>by kernel_rfl
 | 5,_=>fun _=>by kernel_rfl
 | 6,_=>fun _=>by kernel_rfl
 | 7,_=>fun _=>by kernel_rfl
 | 8,_=>fun _=>by kernel_rfl
 | 9,_=>fun _=>by kernel_rfl
 | 10,_=>fun _=>by kernel_rfl
 | 11,_=>fun _=>by kernel_rfl
 | 12,_=>fun _=>by kernel_rfl
 | 13,_=>fun _=>by kernel_rfl
 | n+14,h=>absurd h (by omega)
theorem bin_nodup:∀ j,j<14→∀ k,k<14→binL.getD j []=binL.getD k []→j=k:=by decide
theorem binAt_list (k:Nat):(binAt k).toList=binL.getD k []:=by rw [Go.ByteArray.toList_eq];rfl
theorem bin_ne (j k:Nat)(hj:j<14)(hk:k<14)(h:j≠k):((binAt j).toList == (binAt k).toList)=false:=by
 rw [← Bool.not_eq_true,beq_iff_eq,binAt_list,binAt_list]
 exact fun q=>h (bin_nodup j hj k hk q)
theorem bin_same (k:Nat):((binAt k).toList == (binAt k).toList)=true:=by rw [beq_iff_eq]
theorem binL_at {x:List UInt8}(h:x∈binL):binL.idxOf x<14∧(ByteArray.mk x.toArray)=binAt (binL.idxOf x):=by
 have h1:binL.idxOf x<14:=List.idxOf_lt_length_of_mem h
 refine ⟨h1,?_⟩
 unfold binAt
 have h2:binL.getD (binL.idxOf x) []=x:=by
  rw [List.getD_eq_getElem?_getD,List.getElem?_eq_getElem (List.idxOf_lt_length_of_mem h),Option.getD_some,List.getElem_idxOf]
 rw [h2]
theorem set4_cell (w:World)(b:Nat)(v0 v1 v2 v3:Value){k j:Nat}(h:k≠b):((((w.setCell ⟨b,0,none⟩ v0).setCell ⟨b,1,none⟩ v1).setCell ⟨b,2,none⟩ v2).setCell ⟨b,3,none⟩ v3).cell? ⟨k,j,none⟩=w.cell? ⟨k,j,none⟩:=by
 refine World.cell?_of_block (a:=⟨k,j,none⟩) ?_
 show ((((w.setCell ⟨b,0,none⟩ v0).setCell ⟨b,1,none⟩ v1).setCell ⟨b,2,none⟩ v2).setCell ⟨b,3,none⟩ v3).heap[k]?=w.heap[k]?
 rw [heap_setCell_other _ _ _ _ h,heap_setCell_other _ _ _ _ h,heap_setCell_other _ _ _ _ h,heap_setCell_other _ _ _ _ h]
theorem tok0_cells {w:World}{b:Nat}(h:w.heap[b]?=some (.cells #[.int .i64 0,.string ⟨#[]⟩,.string ⟨#[]⟩,.int .i64 0] 80 (0,0))) :
  w.cell? ⟨b,0,none⟩=some (.int .i64 0)∧w.cell? ⟨b,1,none⟩=some (.string ⟨#[]⟩)∧w.cell? ⟨b,2,none⟩=some (.string ⟨#[]⟩)∧w.cell? ⟨b,3,none⟩=some (.int .i64 0)∧∀ j,w.frozen? ⟨b,j,none⟩=false :=
 ⟨by rw [Lib.cell_of_heap h];rfl,by rw [Lib.cell_of_heap h];rfl,by rw [Lib.cell_of_heap h];rfl,by rw [Lib.cell_of_heap h];rfl,by intro j;simp [World.frozen?,h]⟩
theorem rbinary_any (pes:List PE)(B:Nat)(tv nv:Value)(toks:List Tok)(nodes:List Nd)(i:Nat)(ks:List Int)(w:World)(h:TreeAt B w (.agg #[tv,nv]) toks nodes)(hB:B≤w.heap.size)(hn:nodes[i]?=some ⟨10,-1,ks⟩)
  (k1 u1:Nat) (hq1:ks[1]?=some (k1:Int)) (hl1:nodes[k1]?=some ⟨19,(u1:Nat),[]⟩) (tk1:Tok) (hut1:toks[u1]?=some tk1) (htx:tk1.text∈binL)
  (hM:∀ (op at_:Nat) (W:World),TreeAt B W (.agg #[tv,nv]) toks nodes→B≤W.heap.size→Calls Tryz.prog 79 #[.agg #[tv,nv],.int .i64 op,.int .i64 at_,.int .i64 i] W (EPost XA (.mk op [] [] 0 [] false pes at_) W)) :
  Calls Tryz.prog 77 #[.agg #[tv,nv],.int .i64 i] w (EPost XA (.mk (7+binL.idxOf tk1.text) [] [] 0 [] false pes tk1.place) w):=by
 have HM:=Lib.hid hM
 obtain ⟨hm14,hmt⟩:=binL_at htx
 obtain ⟨hu1,hut1'⟩:=List.getElem?_eq_some_iff.1 hut1
 obtain ⟨hp1,hp2⟩:=List.getElem?_eq_some_iff.1 hq1
 have HK:=Lib.hid (fun W hT hW=>rtoken_any B tv nv toks nodes k1 u1 W hT hW hl1 hu1)
 rw [hut1'] at HK
 unfold tokVal strV at HK
 rw [hmt] at HK
 generalize binL.idxOf tk1.text=m at hm14 HK ⊢
 obtain ⟨N,hN⟩:∃ N,7+m=N:=⟨_,rfl⟩
 rw [hN]
 have HN:=Lib.hid hN
 clear hN
 obtain ⟨hi,hni⟩:=List.getElem?_eq_some_iff.1 hn
 have HT:=Lib.hid h
 obtain ⟨a1,c1,_,_,e⟩:=h.slices
 obtain ⟨b,off,cap,kv,rfl,hb,x0,x1,x2,hkv⟩:=h.node hi
 obtain ⟨rfl,-⟩:tv=.slice a1 toks.length c1∧_:=by simpa using e
 rw [hni] at hkv
 simp only at hkv
 obtain ⟨ak,ck,rfl,_,hkf⟩:=hkv.form
 obtain ⟨bk,ok,rfl,hbk,hkc⟩:=hkf (by omega)
 have hz:=hkc 1 hp1
 rw [hp2] at hz
 clear e hkv hkf hkc hn hni x0 x1 hut1 hut1' hq1 hp2 hl1 hM htx hmt
 have hal2:=((Below.refl w.heap.size w).alloc (Nat.le_refl _) (.cells #[.slice a1 toks.length c1,.slice (some ⟨b,off,none⟩) nodes.length cap] 86)).alloc (by simp) (.cells #[.int .i64 0,.string ⟨#[]⟩,.string ⟨#[]⟩,.bool false,.slice none 0 0,.bool false,.slice none 0 0,.int .i64 0] 40)
 have X2:=cell_later hal2 x2
 have Z2:=cell_later hal2 hz
 have g0:=(Lib.alloc_old _ (.cells #[.int .i64 0,.string ⟨#[]⟩,.string ⟨#[]⟩,.bool false,.slice none 0 0,.bool false,.slice none 0 0,.int .i64 0] 40) w.heap.size (by simp)).trans (heap_alloc_new w (.cells #[.slice a1 toks.length c1,.slice (some ⟨b,off,none⟩) nodes.length cap] 86))
 have g1:=heap_alloc_new (w.alloc (.cells #[.slice a1 toks.length c1,.slice (some ⟨b,off,none⟩) nodes.length cap] 86)) (.cells #[.int .i64 0,.string ⟨#[]⟩,.string ⟨#[]⟩,.bool false,.slice none 0 0,.bool false,.slice none 0 0,.int .i64 0] 40)
 rw [World.size_alloc] at g1
 have hiI:(i:Int)<(nodes.length:Int):=by omega
 have hp1I:(1:Int)<(ks.length:Int):=by omega
 have hCT:=HT.out
 clear h x2 hz
 go_enter Tryz.func77,Tryz.ntmps77
 go_upto_region 1 with (fail)
 generalize (w.alloc _).alloc _=w2 at g0 g1 hal2 X2 Z2 ⊢
 have r0:w2.cell? ⟨w.heap.size,0,none⟩=some (.slice a1 toks.length c1):=by rw [Lib.cell_of_heap g0];rfl
 have r1:w2.cell? ⟨w.heap.size,1,none⟩=some (.slice (some ⟨b,off,none⟩) nodes.length cap):=by rw [Lib.cell_of_heap g0];rfl
 have HK':=Lib.hid (fun W (hb:Below w2.heap.size w2 W)=>(HK.out W (hCT.below ((hal2.trans (hb.mono hal2.size)).mono hB)) (by have:=hal2.size;have:=hb.size;omega)).mono (R':=fun e w'=>e=.returned (.agg #[.int .i64 tk1.kind,.string ⟨tk1.lead.toArray⟩,.string (binAt m),.int .i64 tk1.place])∧Below w2.heap.size w2 w'∧Below W.heap.size W w') fun e w' h=>⟨h.1,hb.trans (h.2.mono hb.size),h.2⟩)
 have hlt2:w.heap.size+1<w2.heap.size:=(Array.getElem?_eq_some_iff.1 g1).1
 go_cut [5] (fun p wc=>∃ X:Nat,p=.pointer (some ⟨X,0,none⟩)∧wc.heap[X]?=some (.cells #[.int .i64 tk1.kind,.string ⟨tk1.lead.toArray⟩,.string (binAt m),.int .i64 tk1.place] 80 (0,0))∧wc.heap[w.heap.size]?=some (.cells #[.slice a1 toks.length c1,.slice (some ⟨b,off,none⟩) nodes.length cap] 86 (0,0))∧wc.heap[w.heap.size+1]?=some (.cells #[.int .i64 0,.string ⟨#[]⟩,.string ⟨#[]⟩,.bool false,.slice none 0 0,.bool false,.slice none 0 0,.int .i64 0] 40 (0,0))∧Below w.heap.size w wc)
 case first =>
  go_region_held3 (fun w'=>w'.cell? ⟨w.heap.size,0,none⟩=some (.slice a1 toks.length c1)∧w'.cell? ⟨w.heap.size,1,none⟩=some (.slice (some ⟨b,off,none⟩) nodes.length cap)∧w'.cell? ⟨b,off+i * 3+2,none⟩=some (.slice (some ⟨bk,ok,none⟩) ks.length ck)∧w'.cell? ⟨bk,ok+1,none⟩=some (.int .i64 k1))
   (first|go_keep|exact p3|exact ⟨(set4_cell w3 w2.heap.size _ _ _ _ (by omega)).trans p3.1,(set4_cell w3 w2.heap.size _ _ _ _ (by omega)).trans p3.2.1,(set4_cell w3 w2.heap.size _ _ _ _ (by omega)).trans p3.2.2.1,(set4_cell w3 w2.heap.size _ _ _ _ (by omega)).trans p3.2.2.2⟩)
   (first|(go_at_call 40;refine (HK'.out _ ?_).mono ?_;(first|exact (Below.refl _ _).drew|exact ((Below.refl _ _).alloc (Nat.le_refl _) _).drew);rintro e w3 ⟨rfl,hq3,hb3⟩;have p3:=And.intro (cell_later hq3 r0) (And.intro (cell_later hq3 r1) (And.intro (cell_later hq3 X2) (cell_later hq3 Z2)));try (have hTz:=(hb3.block w2.heap.size (by simp)).trans (heap_alloc_new w2 (.cells #[.int .i64 0,.string ⟨#[]⟩,.string ⟨#[]⟩,.int .i64 0] 80));obtain ⟨tz0,tz1,tz2,tz3,tz4⟩:=tok0_cells hTz)))
  ·have hb3':Below w.heap.size w w3:=hal2.trans (hq3.mono hal2.size)
   have q0:=(hq3.block w.heap.size (by omega)).trans g0
   have q1:=(hq3.block (w.heap.size+1) (by omega)).trans g1
   have hz3:=hq3.size
   clear r0 r1 X2 Z2 p3
   go_wp2_with fail
   go_meet
   exact ⟨w3.heap.size,rfl,heap_alloc_new _ _,(Lib.alloc_old w3 _ w.heap.size (by omega)).trans q0,(Lib.alloc_old w3 _ (w.heap.size+1) (by omega)).trans q1,hb3'.alloc hb3'.size _⟩
  ·have hb3':Below w.heap.size w w3:=hal2.trans (hq3.mono hal2.size)
   have q0:=(hq3.block w.heap.size (by omega)).trans g0
   have q1:=(hq3.block (w.heap.size+1) (by omega)).trans g1
   obtain ⟨S3,So,_⟩:=store4 hTz (.int .i64 tk1.kind) (.string ⟨tk1.lead.toArray⟩) (.string (binAt m)) (.int .i64 tk1.place)
   have hle:w.heap.size≤w2.heap.size:=by omega
   clear r0 r1 X2 Z2 p3 tz0 tz1 tz2 tz3 tz4
   go_wp2_with fail
   go_meet
   exact ⟨w2.heap.size,rfl,S3,(So w.heap.size (by omega)).trans q0,(So (w.heap.size+1) (by omega)).trans q1,(((hb3'.setCell hle _).setCell hle _).setCell hle _).setCell hle _⟩
 case rest =>
  obtain ⟨X,rfl,hX,G0,G1,halw⟩:=hcut
  have hszw:=halw.size
  clear g0 g1 hal2 X2 Z2 r0 r1 HK HK' hlt2
  go_wp2_with (go_at_call 127;refine (binSigns_any _).mono ?_;rintro e w5 ⟨rfl,hb5⟩)
  have hz5:=hb5.size
  have Y:=(hb5.block X (Array.getElem?_eq_some_iff.1 hX).1).trans hX
  have Y0:=(hb5.block w.heap.size (Array.getElem?_eq_some_iff.1 G0).1).trans G0
  have Y1:=(hb5.block (w.heap.size+1) (Array.getElem?_eq_some_iff.1 G1).1).trans G1
  have hal5:=halw.trans (hb5.mono hszw)
  have hlw5:w.heap.size+1<w5.heap.size:=(Array.getElem?_eq_some_iff.1 Y1).1
  have HM':=Lib.hid ((HM.out N tk1.place w5 (hCT.below (hal5.mono hB)) (by omega)).mono fun _ _ h=>h.m)
  clear hX G0 G1 hb5 halw
  have f2:w5.cell? ⟨X,2,none⟩=some (.string (binAt m)):=by rw [Lib.cell_of_heap Y];rfl
  have f3:w5.cell? ⟨X,3,none⟩=some (.int .i64 tk1.place):=by rw [Lib.cell_of_heap Y];rfl
  have r0:w5.cell? ⟨w.heap.size,0,none⟩=some (.slice a1 toks.length c1):=by rw [Lib.cell_of_heap Y0];rfl
  have r1:w5.cell? ⟨w.heap.size,1,none⟩=some (.slice (some ⟨b,off,none⟩) nodes.length cap):=by rw [Lib.cell_of_heap Y0];rfl
  go_loop [20] (fun q=>∃ k:Nat,k≤m∧q=.int .i64 k) (fun q=>14 - (intOf q).toNat)
  case atStart=>exact ⟨0,Nat.zero_le _,rfl⟩
  case round =>
   obtain ⟨k,hk,rfl⟩:=hrel
   have hkI:(k:Int)<14:=by omega
   have hx:=bin_index k (by omega)
   by_cases hkm:k=m
   ·subst hkm
    have he:=bin_same k
    have hop:(7:Int)+(k:Int)=(N:Int):=by have:=HN.out;omega
    go_wp2_with (go_at_call 79;refine HM'.out.mono ?_)
    rintro e w8 ⟨am,wn,cm,ae,ce,rfl,hxe,hb8⟩
    have D1:=(hb8.block (w.heap.size+1) (by omega)).trans Y1
    clear r0 r1 f2 f3 Y Y0 Y1 hop
    have d0:w8.cell? ⟨w.heap.size+1,0,none⟩=some (.int .i64 0):=by rw [Lib.cell_of_heap D1];rfl
    have d1:w8.cell? ⟨w.heap.size+1,1,none⟩=some (.string ⟨#[]⟩):=by rw [Lib.cell_of_heap D1];rfl
    have d2:w8.cell? ⟨w.heap.size+1,2,none⟩=some (.string ⟨#[]⟩):=by rw [Lib.cell_of_heap D1];rfl
    have d3:w8.cell? ⟨w.heap.size+1,3,none⟩=some (.bool false):=by rw [Lib.cell_of_heap D1];rfl
    have d4:w8.cell? ⟨w.heap.size+1,4,none⟩=some (.slice none 0 0):=by rw [Lib.cell_of_heap D1];rfl
    have d5:w8.cell? ⟨w.heap.size+1,5,none⟩=some (.bool false):=by rw [Lib.cell_of_heap D1];rfl
    have d6:w8.cell? ⟨w.heap.size+1,6,none⟩=some (.slice none 0 0):=by rw [Lib.cell_of_heap D1];rfl
    have d7:w8.cell? ⟨w.heap.size+1,7,none⟩=some (.int .i64 0):=by rw [Lib.cell_of_heap D1];rfl
    have dz:∀ j,w8.frozen? ⟨w.heap.size+1,j,none⟩=false:=by intro j;simp [World.frozen?,D1]
    go_wp2
    obtain ⟨hE,hb9⟩:=EPost.store (w0:=w) (b:=w.heap.size+1) hxe hb8 hal5 (by omega) (by omega) (.int .i64 N) (.string ⟨#[]⟩) (.string ⟨#[]⟩) (.bool false) (.slice am wn cm) (.bool false) (.slice ae pes.length ce) (.int .i64 tk1.place)
    refine bodyPost_ret (v:=.agg #[.int .i64 N,.string ⟨#[]⟩,.string ⟨#[]⟩,.bool false,.slice am wn cm,.bool false,.slice ae pes.length ce,.int .i64 tk1.place]) (by simp [results,Tryz.results77,go_sem,d0,d1,d2,d3,d4,d5,d6,d7]) rfl ?_
    exact ⟨_,_,rfl,hE,hb9⟩
   ·have he:=bin_ne k m (by omega) hm14 hkm
    go_wp2
    go_round
    case rel=>exact ⟨k+1,by omega,by go_num⟩
    case measure=>simp [intOf];omega
theorem exprE_cells {w:World}{b:Nat}{c0 c1 c2 c3 c4 c5 c6 c7:Value}{T:TypeId}(h:w.heap[b]?=some (.cells #[c0,c1,c2,c3,c4,c5,c6,c7] T (0,0))) :
  w.cell? ⟨b,1,none⟩=some c1∧w.cell? ⟨b,2,none⟩=some c2∧∀ j,w.frozen? ⟨b,j,none⟩=false :=
 ⟨by rw [Lib.cell_of_heap h];rfl,by rw [Lib.cell_of_heap h];rfl,by intro j;simp [World.frozen?,h]⟩
theorem rcall_any (q:Bool)(nm md:List UInt8)(pes:List PE)(B:Nat)(tv nv:Value)(toks:List Tok)(nodes:List Nd)(i:Nat)(ks:List Int)(w:World)(h:TreeAt B w (.agg #[tv,nv]) toks nodes)(hB:B≤w.heap.size)(hn:nodes[i]?=some ⟨13,-1,ks⟩)
  (k0 u0:Nat) (hq0:ks[0]?=some (k0:Int)) (hl0:nodes[k0]?=some ⟨19,(u0:Nat),[]⟩) (tk0:Tok) (hut0:toks[u0]?=some tk0)
  (k1 u1:Nat) (hq1:ks[1]?=some (k1:Int)) (hl1:nodes[k1]?=some ⟨19,(u1:Nat),[]⟩) (tk1:Tok) (hut1:toks[u1]?=some tk1) (htx:tk1.text=if q=true then [46] else [40])
  (k2 u2:Nat) (hq2:q=true→ks[2]?=some (k2:Int)) (hl2:q=true→nodes[k2]?=some ⟨19,(u2:Nat),[]⟩) (tk2:Tok) (hut2:q=true→toks[u2]?=some tk2)
  (hqq:(q=true∧nm=tk2.text∧md=tk0.text)∨(q=false∧nm=tk0.text∧md=[]))
  (hM:∀ (op at_:Nat) (W:World),TreeAt B W (.agg #[tv,nv]) toks nodes→B≤W.heap.size→Calls Tryz.prog 79 #[.agg #[tv,nv],.int .i64 op,.int .i64 at_,.int .i64 i] W (EPost XA (.mk op [] [] 0 [] false pes at_) W)) :
  Calls Tryz.prog 78 #[.agg #[tv,nv],.int .i64 i] w (EPost XA (.mk 24 nm md 0 [] false pes tk0.place) w):=by
 have HQ:=Lib.hid hqq
 have HM:=Lib.hid hM
 obtain ⟨hu0,hut0'⟩:=List.getElem?_eq_some_iff.1 hut0
 obtain ⟨hu1,hut1'⟩:=List.getElem?_eq_some_iff.1 hut1
 obtain ⟨hp0,hp0'⟩:=List.getElem?_eq_some_iff.1 hq0
 obtain ⟨hp1,hp1'⟩:=List.getElem?_eq_some_iff.1 hq1
 have HK:=Lib.hid (fun W hT hW=>rtoken_any B tv nv toks nodes k0 u0 W hT hW hl0 hu0)
 rw [hut0'] at HK
 unfold tokVal strV at HK
 have HX:=Lib.hid (fun W hT hW=>rtext_any B tv nv toks nodes k1 u1 W hT hW hl1 hu1)
 rw [hut1',htx] at HX
 unfold strV at HX
 have HY:Hid (q=true→∀ W,TreeAt B W (.agg #[tv,nv]) toks nodes→B≤W.heap.size→Calls Tryz.prog 74 #[.agg #[tv,nv],.int .i64 k2] W fun e w'=>e=.returned (.string ⟨tk2.text.toArray⟩)∧Below W.heap.size W w'):=Lib.hid (fun hq W hT hW=>by
  obtain ⟨hu2,hut2'⟩:=List.getElem?_eq_some_iff.1 (hut2 hq)
  have:=rtext_any B tv nv toks nodes k2 u2 W hT hW (hl2 hq) hu2
  rw [hut2'] at this
  exact this)
 obtain ⟨hi,hni⟩:=List.getElem?_eq_some_iff.1 hn
 have HT:=Lib.hid h
 obtain ⟨a1,c1,_,_,e⟩:=h.slices
 obtain ⟨b,off,cap,kv,rfl,hb,x0,x1,x2,hkv⟩:=h.node hi
 obtain ⟨rfl,-⟩:tv=.slice a1 toks.length c1∧_:=by simpa using e
 rw [hni] at hkv
 simp only at hkv
 obtain ⟨ak,ck,rfl,_,hkf⟩:=hkv.form
 obtain ⟨bk,ok,rfl,hbk,hkc⟩:=hkf (by omega)
 have hz:=hkc 0 hp0
 rw [hp0',Nat.add_zero] at hz
 have hz1:=hkc 1 hp1
 rw [hp1'] at hz1
 have hz2:q=true→w.cell? ⟨bk,ok+2,none⟩=some (.int .i64 k2)∧2<ks.length:=fun hq=>by
  obtain ⟨hp2,hp2'⟩:=List.getElem?_eq_some_iff.1 (hq2 hq)
  have:=hkc 2 hp2
  rw [hp2'] at this
  exact ⟨this,hp2⟩
 have HZ1:=Lib.hid hz1
 have HZ2:=Lib.hid hz2
 clear e hkv hkf hkc hn hni x0 x1 hut0 hut0' hut1 hut1' hq0 hq1 hp0' hp1' hl0 hl1 hM htx hq2 hl2 hut2 hz1 hz2 hqq
 have hal2:=((Below.refl w.heap.size w).alloc (Nat.le_refl _) (.cells #[.slice a1 toks.length c1,.slice (some ⟨b,off,none⟩) nodes.length cap] 86)).alloc (by simp) (.cells #[.int .i64 0,.string ⟨#[]⟩,.string ⟨#[]⟩,.bool false,.slice none 0 0,.bool false,.slice none 0 0,.int .i64 0] 40)
 have X2:=cell_later hal2 x2
 have Z2:=cell_later hal2 hz
 have g0:=(Lib.alloc_old _ (.cells #[.int .i64 0,.string ⟨#[]⟩,.string ⟨#[]⟩,.bool false,.slice none 0 0,.bool false,.slice none 0 0,.int .i64 0] 40) w.heap.size (by simp)).trans (heap_alloc_new w (.cells #[.slice a1 toks.length c1,.slice (some ⟨b,off,none⟩) nodes.length cap] 86))
 have g1:=heap_alloc_new (w.alloc (.cells #[.slice a1 toks.length c1,.slice (some ⟨b,off,none⟩) nodes.length cap] 86)) (.cells #[.int .i64 0,.string ⟨#[]⟩,.string ⟨#[]⟩,.bool false,.slice none 0 0,.bool false,.slice none 0 0,.int .i64 0] 40)
 rw [World.size_alloc] at g1
 have hiI:(i:Int)<(nodes.length:Int):=by omega
 have hp0I:(0:Int)<(ks.length:Int):=by omega
 have hp1I:(1:Int)<(ks.length:Int):=by omega
 have hCT:=HT.out
 clear h x2 hz
 go_enter Tryz.func78,Tryz.ntmps78
 go_upto_region 2 with (fail)
 generalize (w.alloc _).alloc _=w2 at g0 g1 hal2 X2 Z2 ⊢
 have r0:w2.cell? ⟨w.heap.size,0,none⟩=some (.slice a1 toks.length c1):=by rw [Lib.cell_of_heap g0];rfl
 have r1:w2.cell? ⟨w.heap.size,1,none⟩=some (.slice (some ⟨b,off,none⟩) nodes.length cap):=by rw [Lib.cell_of_heap g0];rfl
 have HK':=Lib.hid (fun W (hb:Below w2.heap.size w2 W)=>(HK.out W (hCT.below ((hal2.trans (hb.mono hal2.size)).mono hB)) (by have:=hal2.size;have:=hb.size;omega)).mono (R':=fun e w'=>e=.returned (.agg #[.int .i64 tk0.kind,.string ⟨tk0.lead.toArray⟩,.string ⟨tk0.text.toArray⟩,.int .i64 tk0.place])∧Below w2.heap.size w2 w'∧Below W.heap.size W w') fun e w' h=>⟨h.1,hb.trans (h.2.mono hb.size),h.2⟩)
 have hlt2:w.heap.size+1<w2.heap.size:=(Array.getElem?_eq_some_iff.1 g1).1
 go_cut [6] (fun p wc=>∃ X:Nat,p=.pointer (some ⟨X,0,none⟩)∧wc.heap[X]?=some (.cells #[.int .i64 tk0.kind,.string ⟨tk0.lead.toArray⟩,.string ⟨tk0.text.toArray⟩,.int .i64 tk0.place] 80 (0,0))∧wc.heap[w.heap.size]?=some (.cells #[.slice a1 toks.length c1,.slice (some ⟨b,off,none⟩) nodes.length cap] 86 (0,0))∧wc.heap[w.heap.size+1]?=some (.cells #[.int .i64 0,.string ⟨#[]⟩,.string ⟨#[]⟩,.bool false,.slice none 0 0,.bool false,.slice none 0 0,.int .i64 0] 40 (0,0))∧Below w.heap.size w wc∧w.heap.size+1<X)
 case first =>
  go_region_held3 (fun w'=>w'.cell? ⟨w.heap.size,0,none⟩=some (.slice a1 toks.length c1)∧w'.cell? ⟨w.heap.size,1,none⟩=some (.slice (some ⟨b,off,none⟩) nodes.length cap)∧w'.cell? ⟨bk,ok,none⟩=some (.int .i64 k0))
   (first|go_keep|exact p3|exact ⟨(set4_cell w3 w2.heap.size _ _ _ _ (by omega)).trans p3.1,(set4_cell w3 w2.heap.size _ _ _ _ (by omega)).trans p3.2.1,(set4_cell w3 w2.heap.size _ _ _ _ (by omega)).trans p3.2.2⟩)
   (first|(go_at_call 40;refine (HK'.out _ ?_).mono ?_;(first|exact (Below.refl _ _).drew|exact ((Below.refl _ _).alloc (Nat.le_refl _) _).drew);rintro e w3 ⟨rfl,hq3,hb3⟩;have p3:=And.intro (cell_later hq3 r0) (And.intro (cell_later hq3 r1) (cell_later hq3 Z2));try (have hTz:=(hb3.block w2.heap.size (by simp)).trans (heap_alloc_new w2 (.cells #[.int .i64 0,.string ⟨#[]⟩,.string ⟨#[]⟩,.int .i64 0] 80));obtain ⟨tz0,tz1,tz2,tz3,tz4⟩:=tok0_cells hTz)))
  ·have hb3':Below w.heap.size w w3:=hal2.trans (hq3.mono hal2.size)
   have q0:=(hq3.block w.heap.size (by omega)).trans g0
   have q1:=(hq3.block (w.heap.size+1) (by omega)).trans g1
   have hz3:=hq3.size
   clear r0 r1 X2 Z2 p3
   go_wp2_with fail
   go_meet
   exact ⟨w3.heap.size,rfl,heap_alloc_new _ _,(Lib.alloc_old w3 _ w.heap.size (by omega)).trans q0,(Lib.alloc_old w3 _ (w.heap.size+1) (by omega)).trans q1,hb3'.alloc hb3'.size _,by omega⟩
  ·have hb3':Below w.heap.size w w3:=hal2.trans (hq3.mono hal2.size)
   have q0:=(hq3.block w.heap.size (by omega)).trans g0
   have q1:=(hq3.block (w.heap.size+1) (by omega)).trans g1
   obtain ⟨S3,So,_⟩:=store4 hTz (.int .i64 tk0.kind) (.string ⟨tk0.lead.toArray⟩) (.string ⟨tk0.text.toArray⟩) (.int .i64 tk0.place)
   have hle:w.heap.size≤w2.heap.size:=by omega
   clear r0 r1 X2 Z2 p3 tz0 tz1 tz2 tz3 tz4
   go_wp2_with fail
   go_meet
   exact ⟨w2.heap.size,rfl,S3,(So w.heap.size (by omega)).trans q0,(So (w.heap.size+1) (by omega)).trans q1,(((hb3'.setCell hle _).setCell hle _).setCell hle _).setCell hle _,hlt2⟩
 case rest =>
  obtain ⟨X,rfl,hX,G0,G1,halw,hXlt⟩:=hcut
  obtain ⟨wy,rfl⟩:∃ wy:World,wy=wc:=⟨_,rfl⟩
  have hszw:=halw.size
  have hXs:=(Array.getElem?_eq_some_iff.1 hX).1
  clear g0 g1 hal2 X2 Z2 r0 r1 HK HK' hlt2
  have f2:wy.cell? ⟨X,2,none⟩=some (.string ⟨tk0.text.toArray⟩):=by rw [Lib.cell_of_heap hX];rfl
  have f3:wy.cell? ⟨X,3,none⟩=some (.int .i64 tk0.place):=by rw [Lib.cell_of_heap hX];rfl
  have r0:wy.cell? ⟨w.heap.size,0,none⟩=some (.slice a1 toks.length c1):=by rw [Lib.cell_of_heap G0];rfl
  have r1:wy.cell? ⟨w.heap.size,1,none⟩=some (.slice (some ⟨b,off,none⟩) nodes.length cap):=by rw [Lib.cell_of_heap G0];rfl
  have HM':=Lib.hid ((HM.out 24 tk0.place wy (hCT.below (halw.mono hB)) (by omega)).mono fun _ _ h=>h.m)
  go_wp2_with (go_at_call 79;refine HM'.out.mono ?_)
  rintro e w8 ⟨am,wn,cm,ae,ce,rfl,hxe,hb8⟩
  have hz8:=hb8.size
  have D0:=(hb8.block w.heap.size (by omega)).trans G0
  have D1:=(hb8.block (w.heap.size+1) (by omega)).trans G1
  have DX:=(hb8.block X hXs).trans hX
  have hal8:=halw.trans (hb8.mono hszw)
  clear r0 r1 f2 f3 G0 G1 hX
  have f2:w8.cell? ⟨X,2,none⟩=some (.string ⟨tk0.text.toArray⟩):=by rw [Lib.cell_of_heap DX];rfl
  have f2':∀ o,(w8.alloc o).cell? ⟨X,2,none⟩=some (.string ⟨tk0.text.toArray⟩):=fun o=>Lib.cell?_alloc_some o f2
  go_upto_region 5 with (fail)
  have hal9:=hal8.alloc hal8.size (.cells #[.int .i64 24,.string ⟨tk0.text.toArray⟩,.string ⟨#[]⟩,.bool false,.slice am wn cm,.bool false,.slice ae pes.length ce,.int .i64 tk0.place] 40)
  have N9:=heap_alloc_new w8 (.cells #[.int .i64 24,.string ⟨tk0.text.toArray⟩,.string ⟨#[]⟩,.bool false,.slice am wn cm,.bool false,.slice ae pes.length ce,.int .i64 tk0.place] 40)
  have D0:=(Lib.alloc_old w8 (.cells #[.int .i64 24,.string ⟨tk0.text.toArray⟩,.string ⟨#[]⟩,.bool false,.slice am wn cm,.bool false,.slice ae pes.length ce,.int .i64 tk0.place] 40) _ (Array.getElem?_eq_some_iff.1 D0).1).trans D0
  have D1:=(Lib.alloc_old w8 (.cells #[.int .i64 24,.string ⟨tk0.text.toArray⟩,.string ⟨#[]⟩,.bool false,.slice am wn cm,.bool false,.slice ae pes.length ce,.int .i64 tk0.place] 40) _ (Array.getElem?_eq_some_iff.1 D1).1).trans D1
  have DX:=(Lib.alloc_old w8 (.cells #[.int .i64 24,.string ⟨tk0.text.toArray⟩,.string ⟨#[]⟩,.bool false,.slice am wn cm,.bool false,.slice ae pes.length ce,.int .i64 tk0.place] 40) _ (Array.getElem?_eq_some_iff.1 DX).1).trans DX
  have hx9:EAt XA (fun b=>wy.heap.size≤b∧b<w8.heap.size) (w8.alloc (.cells #[.int .i64 24,.string ⟨tk0.text.toArray⟩,.string ⟨#[]⟩,.bool false,.slice am wn cm,.bool false,.slice ae pes.length ce,.int .i64 tk0.place] 40)) (.slice am wn cm) (.slice ae pes.length ce) (.mk 24 [] [] 0 [] false pes tk0.place):=(hxe.imp (fun b hb hlt=>(⟨hb,hlt⟩:wy.heap.size≤b∧b<w8.heap.size))).frame ⟨by simp,fun b _ hb=>Lib.alloc_old _ _ _ hb⟩
  have hs9:(w8.alloc (.cells #[.int .i64 24,.string ⟨tk0.text.toArray⟩,.string ⟨#[]⟩,.bool false,.slice am wn cm,.bool false,.slice ae pes.length ce,.int .i64 tk0.place] 40)).heap.size=w8.heap.size+1:=by simp
  clear f2 f2' hxe hb8
  generalize w8.alloc _=w9 at D0 D1 DX N9 hal9 hx9 hs9 ⊢
  have k1c:=cell_later hal9 HZ1.out
  have r0:w9.cell? ⟨w.heap.size,0,none⟩=some (.slice a1 toks.length c1):=by rw [Lib.cell_of_heap D0];rfl
  have r1:w9.cell? ⟨w.heap.size,1,none⟩=some (.slice (some ⟨b,off,none⟩) nodes.length cap):=by rw [Lib.cell_of_heap D0];rfl
  have HX':=HX.out w9.drew (hCT.below ((hal9.mono hB).drew)) (show B≤w9.heap.size by omega)
  go_still_tail 4,(by kernel_rfl)
  change wpList _ _ _ _ _ w9.drew
  clear HX
  rcases HQ.out with ⟨hq1,rfl,rfl⟩|⟨hq1,rfl,rfl⟩
  ·have HY':=HY.out hq1
   obtain ⟨hz2,hp2⟩:=HZ2.out hq1
   subst hq1
   have HX2:=Lib.hid (show Calls Tryz.prog 74 #[.agg #[.slice a1 toks.length c1,.slice (some ⟨b,off,none⟩) nodes.length cap],.int .i64 k1] w9.drew fun e w'=>e=.returned (.string ⟨#[46]⟩)∧Below w9.drew.heap.size w9.drew w' from HX')
   have HY2:=Lib.hid HY'
   have HZ3:=Lib.hid hz2
   have hp2I:(2:Int)<(ks.length:Int):=by omega
   clear HX' HY' hz2 HY HZ2 HQ
   go_wp2_with (go_at_call 74;refine HX2.out.mono ?_)
   rintro e w10 ⟨rfl,hb10⟩
   have hz10:w9.heap.size≤w10.heap.size:=hb10.size
   have hb10':Below w9.heap.size w9 w10:=(Below.refl w9.heap.size w9).drew.trans hb10
   have E0:=(hb10'.block w.heap.size (Array.getElem?_eq_some_iff.1 D0).1).trans D0
   have E1:=(hb10'.block (w.heap.size+1) (Array.getElem?_eq_some_iff.1 D1).1).trans D1
   have EX:=(hb10'.block X (Array.getElem?_eq_some_iff.1 DX).1).trans DX
   have E9:=(hb10'.block w8.heap.size (by omega)).trans N9
   have hal10:=hal9.trans (hb10'.mono hal9.size)
   have hx10:=hx9.frame (Alk.of hb10')
   have k2c:=cell_later hal10 HZ3.out
   clear r0 r1 k1c D0 D1 DX N9 hb10 hb10' hx9
   have r0:w10.cell? ⟨w.heap.size,0,none⟩=some (.slice a1 toks.length c1):=by rw [Lib.cell_of_heap E0];rfl
   have r1:w10.cell? ⟨w.heap.size,1,none⟩=some (.slice (some ⟨b,off,none⟩) nodes.length cap):=by rw [Lib.cell_of_heap E0];rfl
   have f2:w10.cell? ⟨X,2,none⟩=some (.string ⟨tk0.text.toArray⟩):=by rw [Lib.cell_of_heap EX];rfl
   have HY3:=Lib.hid (HY2.out w10.drew (hCT.below ((hal10.mono hB).drew)) (show B≤w10.heap.size by omega))
   obtain ⟨e1,e2,ez⟩:=exprE_cells E9
   have hA:Below w8.heap.size w10 w10.drew:=(Below.refl _ _).drew
   have hB':Below w8.heap.size w10 (w10.drew.setCell ⟨w8.heap.size,2,none⟩ (.string ⟨tk0.text.toArray⟩)):=hA.setCell (Nat.le_refl _) _
   have E9B:(w10.drew.setCell ⟨w8.heap.size,2,none⟩ (.string ⟨tk0.text.toArray⟩)).heap[w8.heap.size]?=some (.cells #[.int .i64 24,.string ⟨tk0.text.toArray⟩,.string ⟨tk0.text.toArray⟩,.bool false,.slice am wn cm,.bool false,.slice ae pes.length ce,.int .i64 tk0.place] 40 (0,0)):=heap_setCell_same w10.drew w8.heap.size 2 _ _ (.string ⟨tk0.text.toArray⟩) E9
   have hz8w:w.heap.size≤w8.heap.size:=by omega
   have hz89:w8.heap.size<w10.heap.size:=by omega
   have HY4:=Lib.hid (fun W (hb:Below w8.heap.size w10 W) (hs:w10.heap.size≤W.heap.size)=>(HY2.out W (hCT.below ((hal10.trans (hb.mono hz8w)).mono hB)) (by omega)).mono (R':=fun e w'=>e=.returned (.string ⟨tk2.text.toArray⟩)∧Below w8.heap.size w10 w'∧Below W.heap.size W w') fun e w' h=>⟨h.1,hb.trans (h.2.mono (by omega)),h.2⟩)
   have p0:=And.intro f2 (And.intro r0 (And.intro r1 k2c))
   go_upto_region 6 with (fail)
   go_cut [] (fun wx=>wx.heap[w8.heap.size]?=some (.cells #[.int .i64 24,.string ⟨tk2.text.toArray⟩,.string ⟨tk0.text.toArray⟩,.bool false,.slice am wn cm,.bool false,.slice ae pes.length ce,.int .i64 tk0.place] 40 (0,0))∧wx.heap[w.heap.size+1]?=some (.cells #[.int .i64 0,.string ⟨#[]⟩,.string ⟨#[]⟩,.bool false,.slice none 0 0,.bool false,.slice none 0 0,.int .i64 0] 40 (0,0))∧EAt XA (fun b=>wy.heap.size≤b∧b<w8.heap.size) wx (.slice am wn cm) (.slice ae pes.length ce) (.mk 24 [] [] 0 [] false pes tk0.place)∧Below w.heap.size w wx)
   case first =>
    go_region_held3 (fun w'=>w'.cell? ⟨X,2,none⟩=some (.string ⟨tk0.text.toArray⟩)∧w'.cell? ⟨w.heap.size,0,none⟩=some (.slice a1 toks.length c1)∧w'.cell? ⟨w.heap.size,1,none⟩=some (.slice (some ⟨b,off,none⟩) nodes.length cap)∧w'.cell? ⟨bk,ok+2,none⟩=some (.int .i64 k2))
     (first|go_keep|exact p6|exact ⟨(set1_cell w10.drew w8.heap.size _ _ (by omega)).trans p0.1,(set1_cell w10.drew w8.heap.size _ _ (by omega)).trans p0.2.1,(set1_cell w10.drew w8.heap.size _ _ (by omega)).trans p0.2.2.1,(set1_cell w10.drew w8.heap.size _ _ (by omega)).trans p0.2.2.2⟩|exact ⟨(set1_cell w11 w8.heap.size _ _ (by omega)).trans p6.1,(set1_cell w11 w8.heap.size _ _ (by omega)).trans p6.2.1,(set1_cell w11 w8.heap.size _ _ (by omega)).trans p6.2.2.1,(set1_cell w11 w8.heap.size _ _ (by omega)).trans p6.2.2.2⟩|exact ⟨(set1_cell (w11.setCell ⟨w8.heap.size,2,none⟩ (.string ⟨tk0.text.toArray⟩)) w8.heap.size _ _ (by omega)).trans ((set1_cell w11 w8.heap.size _ _ (by omega)).trans p6.1),(set1_cell (w11.setCell ⟨w8.heap.size,2,none⟩ (.string ⟨tk0.text.toArray⟩)) w8.heap.size _ _ (by omega)).trans ((set1_cell w11 w8.heap.size _ _ (by omega)).trans p6.2.1),(set1_cell (w11.setCell ⟨w8.heap.size,2,none⟩ (.string ⟨tk0.text.toArray⟩)) w8.heap.size _ _ (by omega)).trans ((set1_cell w11 w8.heap.size _ _ (by omega)).trans p6.2.2.1),(set1_cell (w11.setCell ⟨w8.heap.size,2,none⟩ (.string ⟨tk0.text.toArray⟩)) w8.heap.size _ _ (by omega)).trans ((set1_cell w11 w8.heap.size _ _ (by omega)).trans p6.2.2.2)⟩)
     (first
      | (go_at_call 74;(with_reducible refine (HY4.out w10.drew hA (Nat.le_refl _)).mono ?_);rintro e w11 ⟨rfl,hq11,hb11⟩;have p6:=And.intro ((hq11.cell (p:=⟨X,2,none⟩) (show X<w8.heap.size by omega)).trans p0.1) (And.intro ((hq11.cell (p:=⟨w.heap.size,0,none⟩) (show w.heap.size<w8.heap.size by omega)).trans p0.2.1) (And.intro ((hq11.cell (p:=⟨w.heap.size,1,none⟩) (show w.heap.size<w8.heap.size by omega)).trans p0.2.2.1) ((hq11.cell (p:=⟨bk,ok+2,none⟩) (show bk<w8.heap.size by omega)).trans p0.2.2.2)));have E11:=(hb11.block w8.heap.size hz89).trans E9;obtain ⟨x1,x2,xz⟩:=exprE_cells E11)
      | (go_at_call 74;(with_reducible refine (HY4.out (w10.drew.setCell ⟨w8.heap.size,2,none⟩ (.string ⟨tk0.text.toArray⟩)) hB' (by simp)).mono ?_);rintro e w11 ⟨rfl,hq11,hb11⟩;have p6:=And.intro ((hq11.cell (p:=⟨X,2,none⟩) (show X<w8.heap.size by omega)).trans p0.1) (And.intro ((hq11.cell (p:=⟨w.heap.size,0,none⟩) (show w.heap.size<w8.heap.size by omega)).trans p0.2.1) (And.intro ((hq11.cell (p:=⟨w.heap.size,1,none⟩) (show w.heap.size<w8.heap.size by omega)).trans p0.2.2.1) ((hq11.cell (p:=⟨bk,ok+2,none⟩) (show bk<w8.heap.size by omega)).trans p0.2.2.2)));have E11:=(hb11.block w8.heap.size (by simp;omega)).trans E9B;obtain ⟨x1,x2,xz⟩:=exprE_cells E11))
    have h1:=heap_setCell_same w11 w8.heap.size 2 _ _ (.string ⟨tk0.text.toArray⟩) E11
    have h2:=heap_setCell_same _ w8.heap.size 1 _ _ (.string ⟨tk2.text.toArray⟩) h1
    have h3:((w11.setCell ⟨w8.heap.size,2,none⟩ (.string ⟨tk0.text.toArray⟩)).setCell ⟨w8.heap.size,1,none⟩ (.string ⟨tk2.text.toArray⟩)).heap[w.heap.size+1]?=some (.cells #[.int .i64 0,.string ⟨#[]⟩,.string ⟨#[]⟩,.bool false,.slice none 0 0,.bool false,.slice none 0 0,.int .i64 0] 40 (0,0)):=by
     rw [heap_setCell_other _ _ _ _ (by show w.heap.size+1≠w8.heap.size;omega),heap_setCell_other _ _ _ _ (by show w.heap.size+1≠w8.heap.size;omega),hq11.block (w.heap.size+1) (by omega)]
     exact E1
    have h4:=((hx10.frame (Alk.ofB hq11 fun b hb=>by omega)).frame (Alk.set (a:=⟨w8.heap.size,2,none⟩) (.string ⟨tk0.text.toArray⟩) fun b hb=>by show b≠w8.heap.size;omega)).frame (Alk.set (a:=⟨w8.heap.size,1,none⟩) (.string ⟨tk2.text.toArray⟩) fun b hb=>by show b≠w8.heap.size;omega)
    have h5:=((hal10.trans (hq11.mono hz8w)).setCell (p:=⟨w8.heap.size,2,none⟩) hz8w (.string ⟨tk0.text.toArray⟩)).setCell (p:=⟨w8.heap.size,1,none⟩) hz8w (.string ⟨tk2.text.toArray⟩)
    go_wp2_with fail
    go_meet
    exact ⟨h2,h3,h4,h5⟩
   case rest =>
    obtain ⟨F9,F1,hx12,hal12⟩:=hcut
    clear r0 r1 f2 k2c p0 e1 e2 ez E9 E1 E0 EX E9B hA hB' HY4 HY2 HY3 hx10
    have b0:wc.cell? ⟨w8.heap.size,0,none⟩=some (.int .i64 24):=by rw [Lib.cell_of_heap F9];rfl
    have b1:wc.cell? ⟨w8.heap.size,1,none⟩=some (.string ⟨tk2.text.toArray⟩):=by rw [Lib.cell_of_heap F9];rfl
    have b2:wc.cell? ⟨w8.heap.size,2,none⟩=some (.string ⟨tk0.text.toArray⟩):=by rw [Lib.cell_of_heap F9];rfl
    have b3:wc.cell? ⟨w8.heap.size,3,none⟩=some (.bool false):=by rw [Lib.cell_of_heap F9];rfl
    have b4:wc.cell? ⟨w8.heap.size,4,none⟩=some (.slice am wn cm):=by rw [Lib.cell_of_heap F9];rfl
    have b5:wc.cell? ⟨w8.heap.size,5,none⟩=some (.bool false):=by rw [Lib.cell_of_heap F9];rfl
    have b6:wc.cell? ⟨w8.heap.size,6,none⟩=some (.slice ae pes.length ce):=by rw [Lib.cell_of_heap F9];rfl
    have b7:wc.cell? ⟨w8.heap.size,7,none⟩=some (.int .i64 tk0.place):=by rw [Lib.cell_of_heap F9];rfl
    have d0:wc.cell? ⟨w.heap.size+1,0,none⟩=some (.int .i64 0):=by rw [Lib.cell_of_heap F1];rfl
    have d1:wc.cell? ⟨w.heap.size+1,1,none⟩=some (.string ⟨#[]⟩):=by rw [Lib.cell_of_heap F1];rfl
    have d2:wc.cell? ⟨w.heap.size+1,2,none⟩=some (.string ⟨#[]⟩):=by rw [Lib.cell_of_heap F1];rfl
    have d3:wc.cell? ⟨w.heap.size+1,3,none⟩=some (.bool false):=by rw [Lib.cell_of_heap F1];rfl
    have d4:wc.cell? ⟨w.heap.size+1,4,none⟩=some (.slice none 0 0):=by rw [Lib.cell_of_heap F1];rfl
    have d5:wc.cell? ⟨w.heap.size+1,5,none⟩=some (.bool false):=by rw [Lib.cell_of_heap F1];rfl
    have d6:wc.cell? ⟨w.heap.size+1,6,none⟩=some (.slice none 0 0):=by rw [Lib.cell_of_heap F1];rfl
    have d7:wc.cell? ⟨w.heap.size+1,7,none⟩=some (.int .i64 0):=by rw [Lib.cell_of_heap F1];rfl
    have dz:∀ j,wc.frozen? ⟨w.heap.size+1,j,none⟩=false:=by intro j;simp [World.frozen?,F1]
    go_wp2
    have hE:EAt XA (fun b=>w.heap.size≤b) (set8 wc (w.heap.size+1) (.int .i64 24) (.string ⟨tk2.text.toArray⟩) (.string ⟨tk0.text.toArray⟩) (.bool false) (.slice am wn cm) (.bool false) (.slice ae pes.length ce) (.int .i64 tk0.place)) (.slice am wn cm) (.slice ae pes.length ce) (.mk 24 tk2.text tk0.text 0 [] false pes tk0.place) :=
     ((hx12.frame (set8_alk _ _ (w.heap.size+1) _ _ _ _ _ _ _ _ fun k hk=>by omega)).imp fun b hb _=>by omega).rename
    refine bodyPost_ret (v:=.agg #[.int .i64 24,.string ⟨tk2.text.toArray⟩,.string ⟨tk0.text.toArray⟩,.bool false,.slice am wn cm,.bool false,.slice ae pes.length ce,.int .i64 tk0.place]) (by simp [results,Tryz.results78,go_sem,d0,d1,d2,d3,d4,d5,d6,d7]) rfl ?_
    exact ⟨_,_,rfl,hE,set8_below hal12 (by omega) _ _ _ _ _ _ _ _⟩
  ·subst hq1
   have HX2:=Lib.hid (show Calls Tryz.prog 74 #[.agg #[.slice a1 toks.length c1,.slice (some ⟨b,off,none⟩) nodes.length cap],.int .i64 k1] w9.drew fun e w'=>e=.returned (.string ⟨#[40]⟩)∧Below w9.drew.heap.size w9.drew w' from HX')
   clear HX' HY HZ2 HQ
   go_wp2_with (go_at_call 74;refine HX2.out.mono ?_)
   rintro e w10 ⟨rfl,hb10⟩
   have hz10:w9.heap.size≤w10.heap.size:=hb10.size
   have hb10':Below w9.heap.size w9 w10:=(Below.refl w9.heap.size w9).drew.trans hb10
   have E1:=(hb10'.block (w.heap.size+1) (Array.getElem?_eq_some_iff.1 D1).1).trans D1
   have E9:=(hb10'.block w8.heap.size (by omega)).trans N9
   have hal10:=hal9.trans (hb10'.mono hal9.size)
   have hx10:=hx9.frame (Alk.of hb10')
   clear r0 r1 k1c D0 D1 DX N9 hb10 hb10' hx9
   have b0:w10.cell? ⟨w8.heap.size,0,none⟩=some (.int .i64 24):=by rw [Lib.cell_of_heap E9];rfl
   have b1:w10.cell? ⟨w8.heap.size,1,none⟩=some (.string ⟨tk0.text.toArray⟩):=by rw [Lib.cell_of_heap E9];rfl
   have b2:w10.cell? ⟨w8.heap.size,2,none⟩=some (.string ⟨#[]⟩):=by rw [Lib.cell_of_heap E9];rfl
   have b3:w10.cell? ⟨w8.heap.size,3,none⟩=some (.bool false):=by rw [Lib.cell_of_heap E9];rfl
   have b4:w10.cell? ⟨w8.heap.size,4,none⟩=some (.slice am wn cm):=by rw [Lib.cell_of_heap E9];rfl
   have b5:w10.cell? ⟨w8.heap.size,5,none⟩=some (.bool false):=by rw [Lib.cell_of_heap E9];rfl
   have b6:w10.cell? ⟨w8.heap.size,6,none⟩=some (.slice ae pes.length ce):=by rw [Lib.cell_of_heap E9];rfl
   have b7:w10.cell? ⟨w8.heap.size,7,none⟩=some (.int .i64 tk0.place):=by rw [Lib.cell_of_heap E9];rfl
   have d0:w10.cell? ⟨w.heap.size+1,0,none⟩=some (.int .i64 0):=by rw [Lib.cell_of_heap E1];rfl
   have d1:w10.cell? ⟨w.heap.size+1,1,none⟩=some (.string ⟨#[]⟩):=by rw [Lib.cell_of_heap E1];rfl
   have d2:w10.cell? ⟨w.heap.size+1,2,none⟩=some (.string ⟨#[]⟩):=by rw [Lib.cell_of_heap E1];rfl
   have d3:w10.cell? ⟨w.heap.size+1,3,none⟩=some (.bool false):=by rw [Lib.cell_of_heap E1];rfl
   have d4:w10.cell? ⟨w.heap.size+1,4,none⟩=some (.slice none 0 0):=by rw [Lib.cell_of_heap E1];rfl
   have d5:w10.cell? ⟨w.heap.size+1,5,none⟩=some (.bool false):=by rw [Lib.cell_of_heap E1];rfl
   have d6:w10.cell? ⟨w.heap.size+1,6,none⟩=some (.slice none 0 0):=by rw [Lib.cell_of_heap E1];rfl
   have d7:w10.cell? ⟨w.heap.size+1,7,none⟩=some (.int .i64 0):=by rw [Lib.cell_of_heap E1];rfl
   have dz:∀ j,w10.frozen? ⟨w.heap.size+1,j,none⟩=false:=by intro j;simp [World.frozen?,E1]
   go_wp2
   have hE:EAt XA (fun b=>w.heap.size≤b) (set8 w10 (w.heap.size+1) (.int .i64 24) (.string ⟨tk0.text.toArray⟩) (.string ⟨#[]⟩) (.bool false) (.slice am wn cm) (.bool false) (.slice ae pes.length ce) (.int .i64 tk0.place)) (.slice am wn cm) (.slice ae pes.length ce) (.mk 24 tk0.text [] 0 [] false pes tk0.place) :=
    ((hx10.frame (set8_alk _ _ (w.heap.size+1) _ _ _ _ _ _ _ _ fun k hk=>by omega)).imp fun b hb _=>by omega).rename
   refine bodyPost_ret (v:=.agg #[.int .i64 24,.string ⟨tk0.text.toArray⟩,.string ⟨#[]⟩,.bool false,.slice am wn cm,.bool false,.slice ae pes.length ce,.int .i64 tk0.place]) (by simp [results,Tryz.results78,go_sem,d0,d1,d2,d3,d4,d5,d6,d7]) rfl ?_
   exact ⟨_,_,rfl,hE,set8_below hal10 (by omega) _ _ _ _ _ _ _ _⟩
end Go.Proofs.YtbodlpoomfefcaaGreatDoor
