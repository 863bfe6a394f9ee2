/- Walks and plain laws: FExprW1, FExprW2, FExprW3. -/
import Derived.Test.YtemkhbmkaalgdaaGreatDoorQ17
set_option maxHeartbeats 16000000
set_option maxRecDepth 100000
set_option linter.unusedVariables false
set_option linter.unusedSimpArgs false
namespace Go.Proofs.YtemkhbmkaalgdaaGreatDoor
open Go.RowKit Go
def zeroTok:Tok:=⟨0,[],[],0⟩
theorem fleaf_yes (B:Nat)(tv nv:Value)(toks:List Tok)(nodes:List Nd)(i u:Nat)(w:World)(h:TreeAt B w (.agg #[tv,nv]) toks nodes)(hB:B≤w.heap.size)(hn:nodes[i]?=some ⟨19,(u:Nat),[]⟩)(hu:u<toks.length) :
  Calls Tryz.prog 38 #[.agg #[tv,nv],.int .i64 i] w fun e w'=>e=.returned (tokVal toks[u])∧Below w.heap.size w w':=by
 obtain ⟨hi,hni⟩:=List.getElem?_eq_some_iff.1 hn
 obtain ⟨b,off,cap,kv,rfl,hb,x0,x1,_,_⟩:=h.node hi
 obtain ⟨b2,off2,cap2,rfl,hb2,t0,t1,t2,t3⟩:=h.tok hu
 rw [hni] at x0 x1
 simp only at x0 x1
 generalize toks[u]=t at t0 t1 t2 t3
 obtain ⟨c,x,y,q⟩:=t
 simp only [strV] at t0 t1 t2 t3
 have hal:=((Below.refl w.heap.size w).alloc (Nat.le_refl _) (.cells #[.slice (some ⟨b2,off2,none⟩) toks.length cap2,.slice (some ⟨b,off,none⟩) nodes.length cap] 67)).alloc (by simp) (.cells #[.int .i64 0,.string ⟨#[]⟩,.string ⟨#[]⟩,.int .i64 0] 105)
 have x0':=cell_later hal x0
 have x1':=cell_later hal x1
 have y0:=cell_later hal t0
 have y1:=cell_later hal t1
 have y2:=cell_later hal t2
 have y3:=cell_later hal t3
 have i1:(i:Int)<(nodes.length:Int):=by omega
 have i2:(u:Int)<(toks.length:Int):=by omega
 have hnr:((w.alloc (.cells #[.slice (some ⟨b2,off2,none⟩) toks.length cap2,.slice (some ⟨b,off,none⟩) nodes.length cap] 67)).alloc (.cells #[.int .i64 0,.string ⟨#[]⟩,.string ⟨#[]⟩,.int .i64 0] 105)).heap[w.heap.size]?=some (.cells #[.slice (some ⟨b2,off2,none⟩) toks.length cap2,.slice (some ⟨b,off,none⟩) nodes.length cap] 67 (0,0)):=(Lib.alloc_old _ _ _ (by simp)).trans (heap_alloc_new w _)
 have hnw:=heap_alloc_new (w.alloc (.cells #[.slice (some ⟨b2,off2,none⟩) toks.length cap2,.slice (some ⟨b,off,none⟩) nodes.length cap] 67)) (.cells #[.int .i64 0,.string ⟨#[]⟩,.string ⟨#[]⟩,.int .i64 0] 105)
 rw [World.size_alloc] at hnw
 clear t0 t1 t2 t3 x0 x1 hn hni h
 go_enter Tryz.func38,Tryz.ntmps38
 go_upto_region 1 with fail
 generalize (w.alloc _).alloc _=w1 at hnr hnw hal x0' x1' y0 y1 y2 y3 ⊢
 have r0:w1.cell? ⟨w.heap.size,0,none⟩=some (.slice (some ⟨b2,off2,none⟩) toks.length cap2):=by rw [Lib.cell_of_heap hnr];rfl
 have r1:w1.cell? ⟨w.heap.size,1,none⟩=some (.slice (some ⟨b,off,none⟩) nodes.length cap):=by rw [Lib.cell_of_heap hnr];rfl
 go_upto_region 3 with fail
 go_still_tail 10,(by kernel_rfl)
 change wpList _ _ _ _ _ w1.drew
 have hald:=hal.drew
 have hnw2:w1.drew.heap[w.heap.size+1]?=some (.cells #[.int .i64 0,.string ⟨#[]⟩,.string ⟨#[]⟩,.int .i64 0] 105 (0,0)):=hnw
 generalize w1.drew=w2 at hald hnw2 ⊢
 have f0:w2.cell? ⟨w.heap.size+1,0,none⟩=some (.int .i64 0):=by rw [Lib.cell_of_heap hnw2];rfl
 have f1:w2.cell? ⟨w.heap.size+1,1,none⟩=some (.string ⟨#[]⟩):=by rw [Lib.cell_of_heap hnw2];rfl
 have f2:w2.cell? ⟨w.heap.size+1,2,none⟩=some (.string ⟨#[]⟩):=by rw [Lib.cell_of_heap hnw2];rfl
 have f3:w2.cell? ⟨w.heap.size+1,3,none⟩=some (.int .i64 0):=by rw [Lib.cell_of_heap hnw2];rfl
 have z0:∀ j,w2.frozen? ⟨w.heap.size+1,j,none⟩=false:=by intro j;simp [World.frozen?,hnw2]
 clear hnw hnw2 i1 i2 y0 y1 y2 y3 r0 r1 x0' x1'
 go_wp2
 refine bodyPost_ret (v:=.agg #[.int .i64 c,.string ⟨x.toArray⟩,.string ⟨y.toArray⟩,.int .i64 q]) (by simp [results,Tryz.results38,go_sem,f0,f1,f2,f3]) rfl ⟨rfl,?_⟩
 exact (((hald.setCell (by simp) _).setCell (by simp) _).setCell (by simp) _).setCell (by simp) _
theorem fleaf_no (B:Nat)(tv nv:Value)(toks:List Tok)(nodes:List Nd)(i:Nat)(nd:Nd)(w:World)(h:TreeAt B w (.agg #[tv,nv]) toks nodes)(hB:B≤w.heap.size)(hn:nodes[i]?=some nd)(hk:nd.kind≠19) :
  Calls Tryz.prog 38 #[.agg #[tv,nv],.int .i64 i] w fun e w'=>e=.returned (tokVal zeroTok)∧Below w.heap.size w w':=by
 obtain ⟨hi,hni⟩:=List.getElem?_eq_some_iff.1 hn
 obtain ⟨a1,c1,_,_,e⟩:=h.slices
 obtain ⟨b,off,cap,kv,rfl,hb,x0,_,_,_⟩:=h.node hi
 obtain ⟨rfl,-⟩:tv=.slice a1 toks.length c1∧_:=by simpa using e
 rw [hni] at x0
 have hkI:(nd.kind == 19)=false:=beq_eq_false_iff_ne.2 hk
 generalize nd.kind=kd at x0 hkI
 have hal:=((Below.refl w.heap.size w).alloc (Nat.le_refl _) (.cells #[.slice a1 toks.length c1,.slice (some ⟨b,off,none⟩) nodes.length cap] 67)).alloc (by simp) (.cells #[.int .i64 0,.string ⟨#[]⟩,.string ⟨#[]⟩,.int .i64 0] 105)
 have x0':=cell_later hal x0
 have i1:(i:Int)<(nodes.length:Int):=by omega
 have hnr:((w.alloc (.cells #[.slice a1 toks.length c1,.slice (some ⟨b,off,none⟩) nodes.length cap] 67)).alloc (.cells #[.int .i64 0,.string ⟨#[]⟩,.string ⟨#[]⟩,.int .i64 0] 105)).heap[w.heap.size]?=some (.cells #[.slice a1 toks.length c1,.slice (some ⟨b,off,none⟩) nodes.length cap] 67 (0,0)):=(Lib.alloc_old _ _ _ (by simp)).trans (heap_alloc_new w _)
 have hnw:=heap_alloc_new (w.alloc (.cells #[.slice a1 toks.length c1,.slice (some ⟨b,off,none⟩) nodes.length cap] 67)) (.cells #[.int .i64 0,.string ⟨#[]⟩,.string ⟨#[]⟩,.int .i64 0] 105)
 rw [World.size_alloc] at hnw
 clear x0 hn hni h hk e
 go_enter Tryz.func38,Tryz.ntmps38
 go_upto_region 1 with fail
 generalize (w.alloc _).alloc _=w1 at hnr hnw hal x0' ⊢
 have r0:w1.cell? ⟨w.heap.size,0,none⟩=some (.slice a1 toks.length c1):=by rw [Lib.cell_of_heap hnr];rfl
 have r1:w1.cell? ⟨w.heap.size,1,none⟩=some (.slice (some ⟨b,off,none⟩) nodes.length cap):=by rw [Lib.cell_of_heap hnr];rfl
 have f0:w1.cell? ⟨w.heap.size+1,0,none⟩=some (.int .i64 0):=by rw [Lib.cell_of_heap hnw];rfl
 have f1:w1.cell? ⟨w.heap.size+1,1,none⟩=some (.string ⟨#[]⟩):=by rw [Lib.cell_of_heap hnw];rfl
 have f2:w1.cell? ⟨w.heap.size+1,2,none⟩=some (.string ⟨#[]⟩):=by rw [Lib.cell_of_heap hnw];rfl
 have f3:w1.cell? ⟨w.heap.size+1,3,none⟩=some (.int .i64 0):=by rw [Lib.cell_of_heap hnw];rfl
 have z0:∀ j,w1.frozen? ⟨w.heap.size+1,j,none⟩=false:=by intro j;simp [World.frozen?,hnw]
 go_wp2
 refine bodyPost_ret (v:=.agg #[.int .i64 0,.string ⟨#[]⟩,.string ⟨#[]⟩,.int .i64 0]) (by simp [results,Tryz.results38,go_sem,f0,f1,f2,f3]) rfl ⟨rfl,?_⟩
 exact (((hal.setCell (by simp) _).setCell (by simp) _).setCell (by simp) _).setCell (by simp) _
def binCells:Array Value:=#[.string (binAt 0),.string (binAt 1),.string (binAt 2),.string (binAt 3),.string (binAt 4),.string (binAt 5),.string (binAt 6),.string (binAt 7),.string (binAt 8),.string (binAt 9),.string (binAt 10),.string (binAt 11),.string (binAt 12),.string (binAt 13)]
theorem binCells_at:∀ k:Nat,k<14→binCells[k]?=some (.string (binAt k))
 | 0,_=>rfl
 | 1,_=>rfl
 | 2,_=>rfl
 | 3,_=>rfl
 | 4,_=>rfl
 | 5,_=>rfl
 | 6,_=>rfl
 | 7,_=>rfl
 | 8,_=>rfl
 | 9,_=>rfl
 | 10,_=>rfl
 | 11,_=>rfl
 | 12,_=>rfl
 | 13,_=>rfl
 | n+14,h=>absurd h (by omega)
theorem fop_any (m:Nat)(hm:m<14)(w:World) :
  Calls Tryz.prog 96 #[.string (binAt m)] w fun e w'=>e=.returned (.int .i64 (7+m:Nat))∧Below w.heap.size w w':=by
 go_enter Tryz.func96,Tryz.ntmps96
 go_upto_region 3 with fail
 have hnew:=heap_alloc_new w (.cells binCells 134)
 have hbl:=below_new w (.cells binCells 134)
 have hcell:∀ k:Nat,k<14→(w.alloc (.cells binCells 134)).cell? ⟨w.heap.size,k,none⟩=some (.string (binAt k)):=fun k hk=>by rw [Lib.cell_of_heap hnew];exact binCells_at k hk
 change Code.wp _ _ _ _ (w.alloc (.cells binCells 134))
 have HC:=Lib.hid hcell
 clear hcell hnew
 generalize w.alloc _=w1 at HC hbl ⊢
 go_loop [4] (fun q=>∃ k:Nat,k≤m∧q=.int .i64 k) (fun q=>14 - (intOf q).toNat)
 case atStart=>exact ⟨0,Nat.zero_le _,rfl⟩
 case round =>
  obtain ⟨k,hk,rfl⟩:=hrel
  have hkI:(k:Int)<14:=by omega
  have hx:=HC.out k (by omega)
  by_cases hkm:k=m
  ·subst hkm
   have he:=bin_same k
   go_wp2
   go_ret
   exact ⟨ret_int (by omega),hbl⟩
  ·have he:=bin_ne k m (by omega) hm hkm
   go_wp2
   go_round
   case rel=>exact ⟨k+1,by omega,by go_num⟩
   case measure=>simp [intOf];omega
theorem Tryz.infoRE:(Tryz.prog.info? 78).map (fun i=>(i.zero,i.size,i.bytes))=some (some (.agg #[.int .i64 0,.string ⟨#[]⟩,.string ⟨#[]⟩,.string ⟨#[]⟩,.bool false,.slice none 0 0,.int .i64 0]),7,96):=by kernel_rfl
theorem Tryz.entersRE:∀ args w,(callFunc 65 args).run Tryz.prog w=.ok (.enter 65 args) w:=Go.Proofs.enters_of Tryz.func65 (by kernel_rfl) rfl
def EPostR (x:PE)(w:World)(e:Ending)(w':World):Prop :=
 ∃ ae ce,e=.returned (.agg #[.int .i64 x.op,.string ⟨x.name.toArray⟩,.string ⟨x.module.toArray⟩,.string ⟨x.txt.toArray⟩,.bool x.yes,.slice ae x.kids.length ce,.int .i64 x.at_]) ∧
  EAt XR (fun b=>w.heap.size≤b) w' .nilIface (.slice ae x.kids.length ce) x∧Below w.heap.size w w'
theorem EAt.anyR {P:Nat→Prop}{w:World}{m m' k:Value}{x:PE}(h:EAt XR P w m k x):EAt XR P w m' k x:=by
 cases x
 rw [EAt] at h ⊢
 exact ⟨trivial,h.2⟩
theorem EPost.r {x:PE}{w w':World}{e:Ending}(h:EPost XR x w e w'):EPostR x w e w':=by
 obtain ⟨m,k,rfl,h1,h2⟩:=h
 obtain ⟨_,ae,ce,rfl,_,_⟩:=h1.form
 exact ⟨ae,ce,rfl,h1.anyR,h2⟩
theorem parts_skip {nodes:List Nd}{ks:List Int}{k m:Nat}{nd:Nd}(hk:k<ks.length)(hm:ks[k]=(m:Int))(hn:nodes[m]?=some nd)(h19:nd.kind=19):partsF nodes (ks.take (k+1))=partsF nodes (ks.take k):=by
 rw [List.take_succ_eq_append_getElem hk,partsF,List.filter_append,hm,List.filter_cons_of_neg (by rw [Int.toNat_natCast,hn];simp [h19]),List.filter_nil,List.append_nil]
 rfl
theorem parts_keep {nodes:List Nd}{ks:List Int}{k m:Nat}{nd:Nd}(hk:k<ks.length)(hm:ks[k]=(m:Int))(hn:nodes[m]?=some nd)(h19:nd.kind≠19) :
  partsF nodes (ks.take (k+1))=partsF nodes (ks.take k)++[(m:Int)]∧(partsF nodes ks)[(partsF nodes (ks.take k)).length]?=some (m:Int):=by
 have h1:partsF nodes (ks.take (k+1))=partsF nodes (ks.take k)++[(m:Int)]:=by
  rw [List.take_succ_eq_append_getElem hk,partsF,List.filter_append,hm,List.filter_cons_of_pos (by rw [Int.toNat_natCast,hn];simp [h19]),List.filter_nil]
  rfl
 refine ⟨h1,?_⟩
 have h2:partsF nodes ks=partsF nodes (ks.take (k+1))++partsF nodes (ks.drop (k+1)):=by
  conv=>lhs;rw [← List.take_append_drop (k+1) ks]
  rw [partsF,List.filter_append]
  rfl
 rw [h2,h1]
 simp
def fCells (op at_:Nat)(kv:Value):Array Value:=#[.int .i64 op,.string ⟨#[]⟩,.string ⟨#[]⟩,.string ⟨#[]⟩,.bool false,kv,.int .i64 at_]
theorem fCells_free {w:World}{b op at_:Nat}{kv:Value}(h:w.heap[b]?=some (.cells (fCells op at_ kv) 78 (0,0)))(j:Nat):w.frozen? ⟨b,j,none⟩=false:=by simp [World.frozen?,h]
theorem fCells_kids {w:World}{b op at_:Nat}{kv:Value}(h:w.heap[b]?=some (.cells (fCells op at_ kv) 78 (0,0))):w.cell? ⟨b,5,none⟩=some kv:=by rw [Lib.cell_of_heap h];rfl
theorem fCells_all {w:World}{b op at_:Nat}{kv:Value}(h:w.heap[b]?=some (.cells (fCells op at_ kv) 78 (0,0))) :
  w.cell? ⟨b,0,none⟩=some (.int .i64 op)∧w.cell? ⟨b,1,none⟩=some (.string ⟨#[]⟩)∧w.cell? ⟨b,2,none⟩=some (.string ⟨#[]⟩)∧w.cell? ⟨b,3,none⟩=some (.string ⟨#[]⟩)∧w.cell? ⟨b,4,none⟩=some (.bool false)∧w.cell? ⟨b,5,none⟩=some kv∧w.cell? ⟨b,6,none⟩=some (.int .i64 at_):=by
 refine ⟨?_,?_,?_,?_,?_,?_,?_⟩ <;> (rw [Lib.cell_of_heap h];rfl)
def FSt (w w1:World)(op at_:Nat)(acc:List PE)(kv:Value)(W:World):Prop :=
 Alk (fun b=>b<w1.heap.size∧b≠w.heap.size+1+1) w1 W∧W.heap[w.heap.size+1+1]?=some (.cells (fCells op at_ kv) 78 (0,0))∧KidsRow XR w1.heap.size 78 W kv acc∧Below w.heap.size w W
theorem FSt.drewN {w w1 W:World}{op at_:Nat}{acc:List PE}{kv:Value}(h:FSt w w1 op at_ acc kv W)(n:Nat):FSt w w1 op at_ acc kv (W.drewN n):=by
 obtain ⟨h1,h2,⟨l,h3,h4⟩,h5⟩:=h
 exact ⟨⟨h1.1,h1.2⟩,h2,⟨l,h3,h4.frame (⟨Nat.le_refl _,fun _ _ _=>rfl⟩:Alk _ W (W.drewN n))⟩,below_drewN h5 n⟩
theorem fmade_any (B:Nat)(tv nv:Value)(toks:List Tok)(nodes:List Nd)(i op at_:Nat)(w:World)(h:TreeAt B w (.agg #[tv,nv]) toks nodes)(hB:B≤w.heap.size)(hi:i<nodes.length)
  (hk:∀ k∈nodes[i].kids,0≤k∧k<(nodes.length:Int)) (hl:nodes[i].kids.length≤1000000000) (pes:List PE) (hp:pes.length=(partsF nodes nodes[i].kids).length)
  (hE:∀ (j:Nat) (h1:j<pes.length) (h2:j<(partsF nodes nodes[i].kids).length) (W:World),TreeAt B W (.agg #[tv,nv]) toks nodes→B≤W.heap.size→Calls Tryz.prog 65 #[.agg #[tv,nv],.int .i64 (partsF nodes nodes[i].kids)[j]] W (EPost XR pes[j] W)) :
  Calls Tryz.prog 95 #[.agg #[tv,nv],.int .i64 i,.int .i64 op,.int .i64 at_] w (EPost XR (.mk op [] [] 0 [] false pes at_) w):=by
 obtain ⟨i0,hinf,hz0,hz1,hz2⟩:=info_parts Tryz.infoRE
 have hlen:(partsF nodes nodes[i].kids).length≤1000000000:=Nat.le_trans (List.length_filter_le _ _) hl
 have HT:=Lib.hid h
 have HE:=Lib.hid hE
 have HKR:=Lib.hid hk
 obtain ⟨a1,c1,_,_,e⟩:=h.slices
 obtain ⟨b,off,cap,kv,rfl,hb,_,_,x2,hkv⟩:=h.node hi
 obtain ⟨rfl,-⟩:tv=.slice a1 toks.length c1∧_:=by simpa using e
 obtain ⟨ak,ck,rfl,_,hkf⟩:=hkv.form
 have HND:=Lib.hid (fun (m:Nat) (hm:m<nodes.length)=>h.node hm)
 generalize nodes[i].kids=ks at hp hlen hl HE HKR hkf x2
 have HLP:=Lib.hid hp
 have HKF:=Lib.hid hkf
 have ent:=Tryz.entersRE
 clear hE hk h e hp hkv hkf
 have hiI:(i:Int)<(nodes.length:Int):=by omega
 have hb3:Below w.heap.size w (((w.alloc (.cells #[.slice a1 toks.length c1,.slice (some ⟨b,off,none⟩) nodes.length cap] 67)).alloc (.cells (fCells 0 0 (.slice none 0 0)) 78)).alloc (.cells (fCells op at_ (.slice none 0 0)) 78)):=(((Below.refl _ _).alloc (Nat.le_refl _) _).alloc (by simp) _).alloc (by simp;omega) _
 have X2:=cell_later hb3 x2
 have hnr:=heap_alloc_new w (.cells #[.slice a1 toks.length c1,.slice (some ⟨b,off,none⟩) nodes.length cap] 67)
 have hne:=heap_alloc_new (w.alloc (.cells #[.slice a1 toks.length c1,.slice (some ⟨b,off,none⟩) nodes.length cap] 67)) (.cells (fCells 0 0 (.slice none 0 0)) 78)
 have hne2:=heap_alloc_new ((w.alloc (.cells #[.slice a1 toks.length c1,.slice (some ⟨b,off,none⟩) nodes.length cap] 67)).alloc (.cells (fCells 0 0 (.slice none 0 0)) 78)) (.cells (fCells op at_ (.slice none 0 0)) 78)
 rw [World.size_alloc] at hne
 rw [World.size_alloc,World.size_alloc] at hne2
 have hq0:=(Lib.alloc_old _ (.cells (fCells op at_ (.slice none 0 0)) 78) w.heap.size (by simp;omega)).trans ((Lib.alloc_old _ (.cells (fCells 0 0 (.slice none 0 0)) 78) w.heap.size (by simp)).trans hnr)
 have hq1:=(Lib.alloc_old _ (.cells (fCells op at_ (.slice none 0 0)) 78) (w.heap.size+1) (by simp)).trans hne
 have hws:(((w.alloc (.cells #[.slice a1 toks.length c1,.slice (some ⟨b,off,none⟩) nodes.length cap] 67)).alloc (.cells (fCells 0 0 (.slice none 0 0)) 78)).alloc (.cells (fCells op at_ (.slice none 0 0)) 78)).heap.size=w.heap.size+1+1+1:=by simp
 clear hnr hne x2
 go_enter Tryz.func95,Tryz.ntmps95
 go_upto_region 2 with fail
 change Code.wp _ _ _ _ (((w.alloc (.cells #[.slice a1 toks.length c1,.slice (some ⟨b,off,none⟩) nodes.length cap] 67)).alloc (.cells (fCells 0 0 (.slice none 0 0)) 78)).alloc (.cells (fCells op at_ (.slice none 0 0)) 78))
 generalize ((w.alloc _).alloc _).alloc _=w1 at hb3 hne2 hq0 hq1 hws X2 ⊢
 have r0:w1.cell? ⟨w.heap.size,0,none⟩=some (.slice a1 toks.length c1):=by rw [Lib.cell_of_heap hq0];rfl
 have r1:w1.cell? ⟨w.heap.size,1,none⟩=some (.slice (some ⟨b,off,none⟩) nodes.length cap):=by rw [Lib.cell_of_heap hq0];rfl
 have H1:Hid (FSt w w1 op at_ (pes.take (partsF nodes (ks.take 0)).length) (.slice none 0 0) w1):=Lib.hid ⟨Alk.refl _ _,hne2,by simpa [partsF] using KidsRow.nil XR w1.heap.size 78 w1,hb3⟩
 have hw1:w1.heap.size≤w.heap.size+1+1+1:=by omega
 have hw1':w.heap.size+1+1+1≤w1.heap.size:=by omega
 have HQ0:=Lib.hid hq0
 have HQ1:=Lib.hid hq1
 clear hb3 hne2 hq0 hq1 hws
 go_wp2
 go_loopw [11] (fun q wr=>∃ (k:Nat) (kv:Value),k≤ks.length∧q=.int .i64 k∧FSt w w1 op at_ (pes.take (partsF nodes (ks.take k)).length) kv wr) (fun q _=>ks.length - (intOf q).toNat)
 case atStart=>exact ⟨0,_,Nat.zero_le _,rfl,H1.out⟩
 case round =>
  obtain ⟨k,kv,hk,rfl,hst⟩:=hrel
  by_cases hkl:k<ks.length
  ·obtain ⟨bk,ok,rfl,hbk,hkc⟩:=HKF.out (by omega)
   have hkin:=HKR.out ks[k] (List.getElem_mem hkl)
   have hkx:=(hst.2.2.2.cell (p:=⟨bk,ok+k,none⟩) (by show bk<w.heap.size;omega)).trans (hkc k hkl)
   obtain ⟨m,hm⟩:∃ m:Nat,ks[k]=(m:Int):=⟨ks[k].toNat,by omega⟩
   rw [hm] at hkin hkx
   have hml:m<nodes.length:=by omega
   obtain ⟨b',off',cap',_,e',_,y0,_,_,_⟩:=HND.out m hml
   obtain ⟨⟨rfl,rfl⟩,rfl⟩:(b=b'∧off=off')∧cap=cap':=by simpa using e'
   have hy0:=(hst.2.2.2.cell (p:=⟨b,off+m * 3,none⟩) (by show b<w.heap.size;omega)).trans y0
   have hr0:=(hst.1.2 w.heap.size ⟨by omega,by omega⟩ (by omega)).trans HQ0.out
   have z0:wr.cell? ⟨w.heap.size,0,none⟩=some (.slice a1 toks.length c1):=by rw [Lib.cell_of_heap hr0];rfl
   have z1:wr.cell? ⟨w.heap.size,1,none⟩=some (.slice (some ⟨b,off,none⟩) nodes.length cap):=by rw [Lib.cell_of_heap hr0];rfl
   have hkI:(k:Int)<(ks.length:Int):=by omega
   have hmI:(m:Int)<(nodes.length:Int):=by omega
   have HST:=Lib.hid hst
   have HR0:=Lib.hid hr0
   have hnd:nodes[m]?=some nodes[m]:=List.getElem?_eq_getElem hml
   by_cases h19:nodes[m].kind=19
   ·have hsk:=parts_skip hkl hm hnd h19
    rw [h19] at hy0
    have HSK:=Lib.hid hsk
    clear hsk hst hr0 hkc e' y0 hm hnd h19
    go_upto_region 6 with fail
    go_quiet (fail)
    go_wp2
    go_roundw
    case rel=>exact ⟨k+1,kv,by omega,by go_num,by rw [HSK.out];exact HST.out.drewN _⟩
    case measure=>simp [intOf];omega
   ·have hkIn:(nodes[m].kind == 19)=false:=beq_eq_false_iff_ne.2 h19
    obtain ⟨j,hjj,hlk,hj2,hpm⟩:∃ j,(partsF nodes (ks.take k)).length=j∧(partsF nodes (ks.take (k+1))).length=j+1∧∃ h:j<(partsF nodes ks).length,(partsF nodes ks)[j]'h=(m:Int):=by
     obtain ⟨hkp,hpj⟩:=parts_keep hkl hm hnd h19
     exact ⟨_,rfl,by rw [hkp,List.length_append,List.length_singleton],List.getElem?_eq_some_iff.1 hpj⟩
    rw [hjj] at HST
    generalize nodes[m].kind=kd at hy0 hkIn
    have hjp:j<pes.length:=by have:=HLP.out;omega
    have HCE:=Lib.hid (fun W hT hW=>HE.out j hjp hj2 W hT hW)
    rw [hpm] at HCE
    have hsn:pes.take (j+1)=pes.take j++[pes[j]]:=List.take_succ_eq_append_getElem hjp
    have hpl:(pes.take j).length=j:=by rw [List.length_take];omega
    generalize pes[j]=x at HCE hsn
    have HS:Hid (pes.take (partsF nodes (ks.take (k+1))).length=pes.take j++[x]):=Lib.hid (by rw [hlk];exact hsn)
    generalize pes.take j=acc at HST hpl HS
    have HL:=Lib.hid hpl
    have hjle:j≤1000000000:=by omega
    clear hst hr0 hkc e' y0 hm hnd h19 hpm hlk hjj hsn hpl hj2 hjp
    go_upto_region 6 with fail
    go_quiet (fail)
    have hstq:=HST.out.drewN nq
    have HR0':=Lib.hid (show (wr.drewN nq).heap[w.heap.size]?=_ from HR0.out)
    have HKX:=Lib.hid (show (wr.drewN nq).cell? ⟨bk,ok+k,none⟩=_ from hkx)
    clear hy0 z0 z1 hkx HST HR0
    generalize wr.drewN nq=wq at hstq HR0' HKX ⊢
    obtain ⟨halk,hbe,⟨l,hown,hes⟩,hbl⟩:=hstq
    rw [HL.out] at hown
    obtain ⟨va,vc,rfl⟩:∃ va vc,kv=.slice va j vc:=by
     rcases hown.2 with ⟨hv,hn0⟩|⟨g,cap,cur,hv,_⟩
     ·exact ⟨none,0,by rw [hv,hn0]⟩
     ·exact ⟨_,cap,hv⟩
    have z0:wq.cell? ⟨w.heap.size,0,none⟩=some (.slice a1 toks.length c1):=by rw [Lib.cell_of_heap HR0'.out];rfl
    have z1:wq.cell? ⟨w.heap.size,1,none⟩=some (.slice (some ⟨b,off,none⟩) nodes.length cap):=by rw [Lib.cell_of_heap HR0'.out];rfl
    have z5:=fCells_kids hbe
    have hkx:=HKX.out
    have hC:=HCE.out wq.drew (HT.out.below ((hbl.mono hB).drew)) (by have:=hbl.size;show B≤wq.heap.size;omega)
    have HC:=Lib.hid (hC.mono fun _ _ h=>h.r)
    clear hC
    go_wp2_with fail
    have hce:=hbe
    have hlt:=(Array.getElem?_eq_some_iff.1 hbe).1
    have hCw:w1.heap.size≤wq.heap.size:=halk.1
    have hne6:some (w.heap.size+1+1)≠(Value.slice va j vc).ownBlock:=fun q=>by have:=(hown.lt _ q.symm).1;omega
    go_region_law ((first
     | (refine step_append_lies _ (by rfl) _ _ _ (by rfl) w1.heap.size 78 i0 _ 7 96 Tryz.underlying74 hinf hz0 hz1 hz2 rfl (by omega) (.slice va j vc) j _ (by rfl) ((own_below (owns_drew hown) hb2).alloc _) ⟨W2.heap.size,0,none⟩ 1 1 [.int .i64 x.op,strV x.name,strV x.module,strV x.txt,.bool x.yes,.slice ae x.kids.length ce,.int .i64 x.at_] (by rfl) (by rfl) (World.news_of_block (cs:=#[.int .i64 x.op,strV x.name,strV x.module,strV x.txt,.bool x.yes,.slice ae x.kids.length ce,.int .i64 x.at_]) (t:=78) (fr:=(0,0)) (heap_alloc_new W2 _)) (by simp [Value.oneCell',strV]) (by omega) (by unfold maxLen;omega) (by omega) (by have:=hb2.size;simp at this ⊢;omega) (W2.heap.size+1) (by simp) ?_;intro gg cap5 w5 hown5 hgrow5 hat5 hlt5;have hbe5:=(hgrow5.block (w.heap.size+1+1) (by have:=hb2.size;simp at this ⊢;omega) hne6).trans ((Lib.alloc_old W2 _ (w.heap.size+1+1) (by have:=hb2.size;simp at this;omega)).trans hbe2);have r65:=fCells_kids hbe5;have z65:=fCells_free hbe5 5)
     | (refine step_call rfl 65 _ _ rfl HC.out (by rfl) (ent _ _) ?_;rintro e W2 ⟨ae,ce,rfl,hxe,hb2⟩;refine ⟨_,rfl,?_⟩;have hbe2:=(hb2.block (w.heap.size+1+1) hlt).trans hce;have r62:=fCells_kids hbe2;have r63:=fun o=>Lib.cell?_alloc_some o r62)))
    all_goals
     have hlen:=HL.out
     obtain ⟨q1,q2,q3⟩:=made_round (S:=XR) (wr:=wq.drew) (kv:=.slice va j vc) (kv5:=.slice (some ⟨gg,0,none⟩) (j+1) cap5) (acc:=acc) (x:=x) (l:=l) (show Alk _ w1 wq.drew from halk) (show w.heap.size+1+1<w1.heap.size by omega) (by rw [hlen];exact hown) (hes.frame (Alk.drew _ wq)) hxe hb2 (by rw [hlen];exact hown5) hgrow5 rfl hat5 5 (.slice (some ⟨gg,0,none⟩) (j+1) cap5)
     have hbe6:(w5.setCell ⟨w.heap.size+1+1,5,none⟩ (.slice (some ⟨gg,0,none⟩) (j+1) cap5)).heap[w.heap.size+1+1]?=some (.cells (fCells op at_ (.slice (some ⟨gg,0,none⟩) (j+1) cap5)) 78 (0,0)):=by
      rw [heap_setCell_same w5 _ 5 _ _ _ hbe5];rfl
     have hbl6:=q3 w.heap.size w (by omega) hbl.drew
     have HF6:Hid (FSt w w1 op at_ (acc++[x]) (.slice (some ⟨gg,0,none⟩) (j+1) cap5) (w5.setCell ⟨w.heap.size+1+1,5,none⟩ (.slice (some ⟨gg,0,none⟩) (j+1) cap5))):=Lib.hid ⟨q2,hbe6,q1,hbl6⟩
     clear hgrow5 hown5 hat5 hbe5 r65 z65 hbe2 r62 r63 hxe hb2 HC hes hown halk hbe hce z0 z1 z5 hkx q1 q2 q3 hbe6 hbl6 hbl
     generalize w5.setCell _ _=w6 at HF6 ⊢
     go_wp2
     go_roundw
     case rel=>exact ⟨k+1,_,by omega,by go_num,by rw [HS.out];exact HF6.out⟩
     case measure=>simp [intOf];omega
  ·obtain rfl:k=ks.length:=by omega
   have hkI:decide ((ks.length:Int)<(ks.length:Int))=false:=decide_eq_false (by omega)
   rw [List.take_length,← HLP.out,List.take_length] at hst
   have hr1:=(hst.1.2 (w.heap.size+1) ⟨by omega,by omega⟩ (by omega)).trans HQ1.out
   obtain ⟨halk,hbe,⟨l,hown,hes⟩,hbl⟩:=hst
   obtain ⟨va,vc,rfl⟩:∃ va vc,kv=.slice va pes.length vc:=by
    rcases hown.2 with ⟨hv,hn0⟩|⟨g,cap,cur,hv,_⟩
    ·exact ⟨none,0,by rw [hv,hn0]⟩
    ·exact ⟨_,cap,hv⟩
   obtain ⟨c0,c1,c2,c3,c4,c5,c6⟩:=fCells_all hbe
   obtain ⟨d0,d1,d2,d3,d4,d5,d6⟩:=fCells_all hr1
   have dz:=fCells_free hr1
   have HE0:Hid (EAt XR (fun b=>w1.heap.size≤b) wr .nilIface (.slice va pes.length vc) (.mk op [] [] 0 [] false pes at_)):=Lib.hid (by
    rw [EAt]
    exact ⟨trivial,l,SlP.ofOwns hown fun b hb=>hb,hes.imp fun b hb _=>hb.1⟩)
   clear hown hes hbe hr1 halk
   go_wp2
   refine bodyPost_ret (v:=.agg #[.int .i64 op,.string ⟨#[]⟩,.string ⟨#[]⟩,.string ⟨#[]⟩,.bool false,.slice va pes.length vc,.int .i64 at_]) (by simp [results,Tryz.results95,go_sem,d0,d1,d2,d3,d4,d5,d6]) rfl ⟨.nilIface,.slice va pes.length vc,rfl,?_,?_⟩
   ·have hs:∀ (W:World) (j:Nat) (u:Value),Alk (fun b=>w1.heap.size≤b) W (W.setCell ⟨w.heap.size+1,j,none⟩ u):=fun W j u=>Alk.set u fun b hb=>by show b≠w.heap.size+1;omega
    refine (HE0.out.frame ?_).imp (fun b hb _=>by omega)
    exact ((((((hs _ _ _).trans (hs _ _ _)).trans (hs _ _ _)).trans (hs _ _ _)).trans (hs _ _ _)).trans (hs _ _ _)).trans (hs _ _ _)
   ·exact ((((((hbl.setCell (by simp) _).setCell (by simp) _).setCell (by simp) _).setCell (by simp) _).setCell (by simp) _).setCell (by simp) _).setCell (by simp) _
def set7 (w:World)(b:Nat)(v0 v1 v2 v3 v4 v5 v6:Value):World :=
 ((((((w.setCell ⟨b,0,none⟩ v0).setCell ⟨b,1,none⟩ v1).setCell ⟨b,2,none⟩ v2).setCell ⟨b,3,none⟩ v3).setCell ⟨b,4,none⟩ v4).setCell ⟨b,5,none⟩ v5).setCell ⟨b,6,none⟩ v6
theorem set7_alk (P:Nat→Prop)(w:World)(b:Nat)(v0 v1 v2 v3 v4 v5 v6:Value)(hP:∀ k,P k→k≠b):Alk P w (set7 w b v0 v1 v2 v3 v4 v5 v6):=by
 have hs:∀ (W:World) (j:Nat) (u:Value),Alk P W (W.setCell ⟨b,j,none⟩ u):=fun W j u=>Alk.set u hP
 exact ((((((hs _ _ _).trans (hs _ _ _)).trans (hs _ _ _)).trans (hs _ _ _)).trans (hs _ _ _)).trans (hs _ _ _)).trans (hs _ _ _)
theorem set7_below {B:Nat}{w0 w:World}(h:Below B w0 w){b:Nat}(hb:B≤b)(v0 v1 v2 v3 v4 v5 v6:Value):Below B w0 (set7 w b v0 v1 v2 v3 v4 v5 v6) :=
 ((((((h.setCell hb _).setCell hb _).setCell hb _).setCell hb _).setCell hb _).setCell hb _).setCell hb _
theorem EPostR.store {x:PE}{w0 W w':World}{m k:Value}(hx:EAt XR (fun b=>W.heap.size≤b) w' m k x)(hb:Below W.heap.size W w')(h0:Below w0.heap.size w0 W){b:Nat}(h1:w0.heap.size≤b)(h2:b<W.heap.size)(v0 v1 v2 v3 v4 v5 v6:Value) :
  EAt XR (fun b=>w0.heap.size≤b) (set7 w' b v0 v1 v2 v3 v4 v5 v6) m k x∧Below w0.heap.size w0 (set7 w' b v0 v1 v2 v3 v4 v5 v6):=by
 have hs:=h0.size
 exact ⟨(hx.frame (set7_alk _ _ _ _ _ _ _ _ _ _ fun k hk=>by omega)).imp fun b hb _=>by omega,set7_below (h0.trans (hb.mono hs)) h1 _ _ _ _ _ _ _⟩
theorem ftok0_cells {w:World}{b:Nat}(h:w.heap[b]?=some (.cells #[.int .i64 0,.string ⟨#[]⟩,.string ⟨#[]⟩,.int .i64 0] 105 (0,0))) :
  w.cell? ⟨b,0,none⟩=some (.int .i64 0)∧w.cell? ⟨b,1,none⟩=some (.string ⟨#[]⟩)∧w.cell? ⟨b,2,none⟩=some (.string ⟨#[]⟩)∧w.cell? ⟨b,3,none⟩=some (.int .i64 0)∧∀ j,w.frozen? ⟨b,j,none⟩=false :=
 ⟨by rw [Lib.cell_of_heap h];rfl,by rw [Lib.cell_of_heap h];rfl,by rw [Lib.cell_of_heap h];rfl,by rw [Lib.cell_of_heap h];rfl,by intro j;simp [World.frozen?,h]⟩
def ftokC (t:Tok):Array Value:=#[.int .i64 t.kind,.string ⟨t.lead.toArray⟩,.string ⟨t.text.toArray⟩,.int .i64 t.place]
def FHead (w:World)(tv nv kd kv:Value)(t:Tok)(X:Nat)(W:World):Prop :=
 W.heap[X]?=some (.cells (ftokC t) 105 (0,0))∧W.heap[w.heap.size]?=some (.cells #[tv,nv] 67 (0,0))∧W.heap[w.heap.size+1]?=some (.cells (fCells 0 0 (.slice none 0 0)) 78 (0,0)) ∧
 W.heap[w.heap.size+1+1]?=some (.cells #[kd,.int .i64 (-1),kv] 104 (0,0))∧Below w.heap.size w W∧w.heap.size+1+1<X
theorem FHead.cells {w W:World}{tv nv kd kv:Value}{t:Tok}{X:Nat}(h:FHead w tv nv kd kv t X W) :
  W.cell? ⟨w.heap.size,0,none⟩=some tv∧W.cell? ⟨w.heap.size,1,none⟩=some nv∧W.cell? ⟨w.heap.size+1+1,0,none⟩=some kd∧W.cell? ⟨w.heap.size+1+1,2,none⟩=some kv∧W.cell? ⟨X,2,none⟩=some (.string ⟨t.text.toArray⟩)∧W.cell? ⟨X,3,none⟩=some (.int .i64 t.place):=by
 refine ⟨?_,?_,?_,?_,?_,?_⟩
 ·rw [Lib.cell_of_heap h.2.1];rfl
 ·rw [Lib.cell_of_heap h.2.1];rfl
 ·rw [Lib.cell_of_heap h.2.2.2.1];rfl
 ·rw [Lib.cell_of_heap h.2.2.2.1];rfl
 ·rw [Lib.cell_of_heap h.1];rfl
 ·rw [Lib.cell_of_heap h.1];rfl
theorem FHead.below {w W W':World}{tv nv kd kv:Value}{t:Tok}{X:Nat}(h:FHead w tv nv kd kv t X W)(hb:Below W.heap.size W W'):FHead w tv nv kd kv t X W' :=
 ⟨(hb.block X (Array.getElem?_eq_some_iff.1 h.1).1).trans h.1,(hb.block _ (Array.getElem?_eq_some_iff.1 h.2.1).1).trans h.2.1,(hb.block _ (Array.getElem?_eq_some_iff.1 h.2.2.1).1).trans h.2.2.1,(hb.block _ (Array.getElem?_eq_some_iff.1 h.2.2.2.1).1).trans h.2.2.2.1,h.2.2.2.2.1.trans (hb.mono h.2.2.2.2.1.size),h.2.2.2.2.2⟩
theorem FHead.lt {w W:World}{tv nv kd kv:Value}{t:Tok}{X:Nat}(h:FHead w tv nv kd kv t X W):w.heap.size+1+1<W.heap.size∧X<W.heap.size:=⟨(Array.getElem?_eq_some_iff.1 h.2.2.2.1).1,(Array.getElem?_eq_some_iff.1 h.1).1⟩
theorem Tryz.rtokField2 (a b c d:Value)(w:World):(Instr.field 105 (.agg #[a,b,c,d]) 2).run Tryz.prog w=.ok c w:=by kernel_rfl
def EPostRM (op at_:Nat)(kids:List PE)(w:World)(e:Ending)(w':World):Prop :=
 ∃ ae ce,e=.returned (.agg #[.int .i64 op,.string ⟨#[]⟩,.string ⟨#[]⟩,.string ⟨#[]⟩,.bool false,.slice ae kids.length ce,.int .i64 at_]) ∧
  EAt XR (fun b=>w.heap.size≤b) w' .nilIface (.slice ae kids.length ce) (.mk op [] [] 0 [] false kids at_)∧Below w.heap.size w w'
theorem EPost.rm {op at_:Nat}{kids:List PE}{w w':World}{e:Ending}(h:EPost XR (.mk op [] [] 0 [] false kids at_) w e w'):EPostRM op at_ kids w e w':=h.r
def gCells (op at_:Nat)(nm md:List UInt8)(kv:Value):Array Value:=#[.int .i64 op,.string ⟨nm.toArray⟩,.string ⟨md.toArray⟩,.string ⟨#[]⟩,.bool false,kv,.int .i64 at_]
theorem gCells_all {w:World}{b op at_:Nat}{nm md:List UInt8}{kv:Value}(h:w.heap[b]?=some (.cells (gCells op at_ nm md kv) 78 (0,0))) :
  w.cell? ⟨b,0,none⟩=some (.int .i64 op)∧w.cell? ⟨b,1,none⟩=some (.string ⟨nm.toArray⟩)∧w.cell? ⟨b,2,none⟩=some (.string ⟨md.toArray⟩)∧w.cell? ⟨b,3,none⟩=some (.string ⟨#[]⟩)∧w.cell? ⟨b,4,none⟩=some (.bool false)∧w.cell? ⟨b,5,none⟩=some kv∧w.cell? ⟨b,6,none⟩=some (.int .i64 at_)∧∀ j,w.frozen? ⟨b,j,none⟩=false:=by
 refine ⟨?_,?_,?_,?_,?_,?_,?_,fun j=>by simp [World.frozen?,h]⟩ <;> (rw [Lib.cell_of_heap h];rfl)
theorem FHead.set {w W:World}{tv nv kd kv:Value}{t:Tok}{X:Nat}(h:FHead w tv nv kd kv t X W){a:Addr}(ha:a.block≠X)(hb:w.heap.size+1+1<a.block)(u:Value):FHead w tv nv kd kv t X (W.setCell a u) :=
 ⟨(heap_setCell_other _ _ _ _ (Ne.symm ha)).trans h.1,(heap_setCell_other _ _ _ _ (by omega)).trans h.2.1,(heap_setCell_other _ _ _ _ (by omega)).trans h.2.2.1,(heap_setCell_other _ _ _ _ (by omega)).trans h.2.2.2.1,h.2.2.2.2.1.setCell (by omega) u,h.2.2.2.2.2⟩
theorem set7_cell (w:World)(b:Nat)(v0 v1 v2 v3 v4 v5 v6:Value){k j:Nat}(h:k≠b):(((((((w.setCell ⟨b,0,none⟩ v0).setCell ⟨b,1,none⟩ v1).setCell ⟨b,2,none⟩ v2).setCell ⟨b,3,none⟩ v3).setCell ⟨b,4,none⟩ v4).setCell ⟨b,5,none⟩ v5).setCell ⟨b,6,none⟩ v6).cell? ⟨k,j,none⟩=w.cell? ⟨k,j,none⟩:=by
 refine World.cell?_of_block (a:=⟨k,j,none⟩) ?_
 show (((((((w.setCell ⟨b,0,none⟩ v0).setCell ⟨b,1,none⟩ v1).setCell ⟨b,2,none⟩ v2).setCell ⟨b,3,none⟩ v3).setCell ⟨b,4,none⟩ v4).setCell ⟨b,5,none⟩ v5).setCell ⟨b,6,none⟩ v6).heap[k]?=w.heap[k]?
 rw [heap_setCell_other _ _ _ _ h,heap_setCell_other _ _ _ _ h,heap_setCell_other _ _ _ _ h,heap_setCell_other _ _ _ _ h,heap_setCell_other _ _ _ _ h,heap_setCell_other _ _ _ _ h,heap_setCell_other _ _ _ _ h]
end Go.Proofs.YtemkhbmkaalgdaaGreatDoor
