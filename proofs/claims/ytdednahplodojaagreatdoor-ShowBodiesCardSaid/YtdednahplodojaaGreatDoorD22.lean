/- Walks and plain laws: BothW. -/
import Derived.Test.YtdednahplodojaaGreatDoorD21
set_option maxHeartbeats 16000000
set_option maxRecDepth 100000
set_option linter.unusedVariables false
set_option linter.unusedSimpArgs false
namespace Go.Proofs.YtdednahplodojaaGreatDoor
open Go.RowKit Go
theorem Tryz.infoAE:(Tryz.prog.info? 40).map (fun i=>(i.zero,i.size,i.bytes))=some (some (.agg #[.int .i64 0,.string ⟨#[]⟩,.string ⟨#[]⟩,.bool false,.slice none 0 0,.bool false,.slice none 0 0,.int .i64 0]),8,112):=by kernel_rfl
theorem boxZ_free {w:World}{b:Nat}{op:Int}{NM MD:ByteArray}{ng ys:Bool}{mv kv:Value}{a_:Int}(h:w.heap[b]?=some (.cells (boxZ op NM MD ng mv ys kv a_) 40 (0,0)))(j:Nat):w.frozen? ⟨b,j,none⟩=false:=by simp [World.frozen?,h]
def TermAt (B:Nat)(w:World)(ao:Option Addr)(t:List CellZ):Prop:=0<t.length→∃ b off,ao=some ⟨b,off,none⟩∧b<B∧b<w.heap.size∧∀ i,(hi:i<t.length)→∀ j u,(cellC t[i])[j]?=some u→w.cell? ⟨b,off+i * 6+j,none⟩=some u
def BothPost (t:List CellZ)(w:World)(r:Ending)(w':World):Prop :=
 Below w.heap.size w w'∧match bothF t with
  | none=>r=.returned (.tuple #[.agg #[.int .i64 0,.string ⟨#[]⟩,.string ⟨#[]⟩,.bool false,.slice none 0 0,.bool false,.slice none 0 0,.int .i64 0],.agg #[.int .i64 0,.string ⟨#[]⟩,.string ⟨#[]⟩,.string ⟨#[]⟩,.bool false,.slice none 0 0,.int .i64 0],.bool false])
  | some e=>∃ am wn cm ae ce m ak ck,r=.returned (.tuple #[.agg #[.int .i64 e.op,.string ⟨e.name.toArray⟩,.string ⟨e.module.toArray⟩,.bool (decide (e.num<0)),.slice am wn cm,.bool e.yes,.slice ae e.kids.length ce,.int .i64 e.at_],
    .agg #[.int .i64 e.op,.string ⟨e.name.toArray⟩,.string ⟨e.module.toArray⟩,.string ⟨(intF e.num).toArray⟩,.bool e.yes,.slice ak e.kids.length ck,.int .i64 e.at_],.bool true]) ∧
    ZAt YA (fun b=>w.heap.size≤b) w' (.slice am wn cm) (.slice ae e.kids.length ce) e∧ZAt YR (fun b=>w.heap.size≤b) w' m (.slice ak e.kids.length ck) e
theorem BothPost.none {t:List CellZ}{w w':World}(h:bothF t=Option.none)(hb:Below w.heap.size w w'):BothPost t w (.returned (.tuple #[.agg #[.int .i64 0,.string ⟨#[]⟩,.string ⟨#[]⟩,.bool false,.slice none 0 0,.bool false,.slice none 0 0,.int .i64 0],.agg #[.int .i64 0,.string ⟨#[]⟩,.string ⟨#[]⟩,.string ⟨#[]⟩,.bool false,.slice none 0 0,.int .i64 0],.bool false])) w':=by
 refine ⟨hb,?_⟩
 rw [h]
theorem BothPost.some {t:List CellZ}{e:PZ}{w w':World}{am:Option Addr}{wn cm:Nat}{ae:Option Addr}{ce:Nat}{m:Value}{ak:Option Addr}{ck:Nat}(h:bothF t=Option.some e)(hb:Below w.heap.size w w')(h1:ZAt YA (fun b=>w.heap.size≤b) w' (.slice am wn cm) (.slice ae e.kids.length ce) e)(h2:ZAt YR (fun b=>w.heap.size≤b) w' m (.slice ak e.kids.length ck) e) :
  BothPost t w (.returned (.tuple #[.agg #[.int .i64 e.op,.string ⟨e.name.toArray⟩,.string ⟨e.module.toArray⟩,.bool (decide (e.num<0)),.slice am wn cm,.bool e.yes,.slice ae e.kids.length ce,.int .i64 e.at_],.agg #[.int .i64 e.op,.string ⟨e.name.toArray⟩,.string ⟨e.module.toArray⟩,.string ⟨(intF e.num).toArray⟩,.bool e.yes,.slice ak e.kids.length ck,.int .i64 e.at_],.bool true])) w':=by
 refine ⟨hb,?_⟩
 rw [h]
 exact ⟨am,wn,cm,ae,ce,m,ak,ck,rfl,h1,h2⟩
theorem bothF_great {t:List CellZ}(h:30<t.length):bothF t=none:=by rw [bothF,if_pos h]
theorem bothF_unfit {t:List CellZ}{k:Nat}(h:k<t.length)(hf:t[k].fits=false):bothF t=none:=by
 rw [bothF]
 split
 ·rfl
 ·rw [if_neg]
  intro hq
  have:=List.all_eq_true.1 hq _ (List.getElem_mem h)
  rw [hf] at this
  cases this
theorem bothF_fits {t:List CellZ}(h:¬ 30<t.length)(hf:∀ i,(hi:i<t.length)→t[i].fits=true):bothF t=(t.foldl stepZ []).getLast?:=by
 rw [bothF,if_neg h,if_pos]
 rw [List.all_eq_true]
 intro x hx
 obtain ⟨i,hi,rfl⟩:=List.getElem_of_mem hx
 exact hf i hi
theorem both_any (B:Nat)(ao:Option Addr)(ct:Nat)(t:List CellZ)(w:World)(h:TermAt B w ao t)(hB:B≤w.heap.size) :
  Calls Tryz.prog 18 #[.slice ao t.length ct] w (BothPost t w):=by
 obtain ⟨ia,hia,ha0,ha1,ha2⟩:=info_parts Tryz.infoAE
 obtain ⟨i0,hinf,hz0,hz1,hz2⟩:=info_parts Tryz.infoREm
 have HT:=Lib.hid h
 have hbw:=(below_new w (.cells (boxZ 0 ⟨#[]⟩ ⟨#[]⟩ false (.slice none 0 0) false (.slice none 0 0) 0) 40)).alloc (by simp) (.cells (boxY 0 ⟨#[]⟩ ⟨#[]⟩ ⟨#[]⟩ false (.slice none 0 0) 0) 55)
 have hN:=(Lib.alloc_old (w.alloc (.cells (boxZ 0 ⟨#[]⟩ ⟨#[]⟩ false (.slice none 0 0) false (.slice none 0 0) 0) 40)) (.cells (boxY 0 ⟨#[]⟩ ⟨#[]⟩ ⟨#[]⟩ false (.slice none 0 0) 0) 55) w.heap.size (by simp)).trans (heap_alloc_new w (.cells (boxZ 0 ⟨#[]⟩ ⟨#[]⟩ false (.slice none 0 0) false (.slice none 0 0) 0) 40))
 have hR:=heap_alloc_new (w.alloc (.cells (boxZ 0 ⟨#[]⟩ ⟨#[]⟩ false (.slice none 0 0) false (.slice none 0 0) 0) 40)) (.cells (boxY 0 ⟨#[]⟩ ⟨#[]⟩ ⟨#[]⟩ false (.slice none 0 0) 0) 55)
 rw [World.size_alloc] at hR
 clear h
 go_enter Tryz.func18,Tryz.ntmps18
 go_upto_region 2 with fail
 change Code.wp _ _ _ _ ((w.alloc (.cells (boxZ 0 ⟨#[]⟩ ⟨#[]⟩ false (.slice none 0 0) false (.slice none 0 0) 0) 40)).alloc (.cells (boxY 0 ⟨#[]⟩ ⟨#[]⟩ ⟨#[]⟩ false (.slice none 0 0) 0) 55))
 generalize (w.alloc _).alloc _=w1 at hbw hN hR ⊢
 have hl1:=(Array.getElem?_eq_some_iff.1 hN).1
 have hl2:=(Array.getElem?_eq_some_iff.1 hR).1
 have hzw:=hbw.size
 have HN:=Lib.hid hN
 have HR:=Lib.hid hR
 by_cases h30:30<t.length
 ·have h30I:decide ((30:Int)<(t.length:Int))=true:=decide_eq_true (by omega)
  obtain ⟨c0,c1,c2,c3,c4,c5,c6,c7⟩:=boxZ_cells hN
  obtain ⟨d0,d1,d2,d3,d4,d5,d6⟩:=boxY_cells hR
  have cz:=boxZ_free hN
  have dz:=boxY_free hR
  clear hN hR
  go_wp2
  obtain ⟨G1,G2,G3,-⟩:=put78 HN.out HR.out (.int .i64 0) (.string ⟨#[]⟩) (.string ⟨#[]⟩) (.bool false) (.slice none 0 0) (.bool false) (.slice none 0 0) (.int .i64 0) (.int .i64 0) (.string ⟨#[]⟩) (.string ⟨#[]⟩) (.string ⟨#[]⟩) (.bool false) (.slice none 0 0) (.int .i64 0)
  have G4:=G3 w.heap.size w (Nat.le_refl _) hbw
  have GN:=Lib.hid (bothF_great h30)
  change bodyPost _ _ _ _ _ (put7 (put8 w1 w.heap.size (.int .i64 0) (.string ⟨#[]⟩) (.string ⟨#[]⟩) (.bool false) (.slice none 0 0) (.bool false) (.slice none 0 0) (.int .i64 0)) (w.heap.size+1) (.int .i64 0) (.string ⟨#[]⟩) (.string ⟨#[]⟩) (.string ⟨#[]⟩) (.bool false) (.slice none 0 0) (.int .i64 0))
  generalize put7 (put8 w1 w.heap.size (.int .i64 0) (.string ⟨#[]⟩) (.string ⟨#[]⟩) (.bool false) (.slice none 0 0) (.bool false) (.slice none 0 0) (.int .i64 0)) (w.heap.size+1) (.int .i64 0) (.string ⟨#[]⟩) (.string ⟨#[]⟩) (.string ⟨#[]⟩) (.bool false) (.slice none 0 0) (.int .i64 0)=WZ at G1 G2 G4 ⊢
  obtain ⟨e0,e1,e2,e3,e4,e5,e6,e7⟩:=boxZ_cells (op:=0) (NM:=⟨#[]⟩) (MD:=⟨#[]⟩) (ng:=false) (mv:=.slice none 0 0) (ys:=false) (kv:=.slice none 0 0) (a_:=0) G1
  obtain ⟨k0,k1,k2,k3,k4,k5,k6⟩:=boxY_cells (op:=0) (NM:=⟨#[]⟩) (MD:=⟨#[]⟩) (TX:=⟨#[]⟩) (ys:=false) (kv:=.slice none 0 0) (a_:=0) G2
  exact bodyPost_ret (v:=.tuple #[.agg #[.int .i64 0,.string ⟨#[]⟩,.string ⟨#[]⟩,.bool false,.slice none 0 0,.bool false,.slice none 0 0,.int .i64 0],.agg #[.int .i64 0,.string ⟨#[]⟩,.string ⟨#[]⟩,.string ⟨#[]⟩,.bool false,.slice none 0 0,.int .i64 0],.bool false]) (by simp [results,Tryz.results18,go_sem,e0,e1,e2,e3,e4,e5,e6,e7,k0,k1,k2,k3,k4,k5,k6]) rfl (BothPost.none GN.out G4)
 ·have h30I:decide ((30:Int)<(t.length:Int))=false:=decide_eq_false (by omega)
  have H30:=Lib.hid h30
  clear hN hR h30
  have H1:Hid (OwnK (ZK YA) w1.heap.size 40 w1 (.slice none 0 0) ((t.take 0).foldl stepZ [])):=Lib.hid (OwnK.nil _ _ _ _)
  go_wp2
  go_loopw [5,18] (fun kv q wr=>∃ (k:Nat) (ao5:Option Addr) (cp5:Nat),k≤t.length∧q=.int .i64 k∧kv=.slice ao5 ((t.take k).foldl stepZ []).length cp5∧(∀ i,i<k→(hi:i<t.length)→t[i].fits=true)∧OwnK (ZK YA) w1.heap.size 40 wr (.slice ao5 ((t.take k).foldl stepZ []).length cp5) ((t.take k).foldl stepZ [])∧Below w1.heap.size w1 wr) (fun _ q _=>t.length - (intOf q).toNat)
  case atStart=>exact ⟨0,none,0,Nat.zero_le _,rfl,rfl,fun i hi=>absurd hi (by omega),H1.out,Below.refl _ _⟩
  case round =>
   obtain ⟨k,ao5,cp5,hk,rfl,rfl,hfit,hown,hbl⟩:=hrel
   have hwr:=hbl.size
   have hblw:=hbw.trans (hbl.mono hzw)
   have HF:=Lib.hid hfit
   have HO:=Lib.hid hown
   clear hfit hown
   by_cases hkl:k<t.length
   ·obtain ⟨b,off,rfl,hbB,hbl0,hc⟩:=HT.out (by omega)
    have x0:=(hblw.cell (p:=⟨b,off+k * 6,none⟩) hbl0).trans (hc k hkl 0 _ rfl)
    have x1:=(hblw.cell (p:=⟨b,off+k * 6+1,none⟩) hbl0).trans (hc k hkl 1 _ rfl)
    have x2:=(hblw.cell (p:=⟨b,off+k * 6+2,none⟩) hbl0).trans (hc k hkl 2 _ rfl)
    have x3:=(hblw.cell (p:=⟨b,off+k * 6+3,none⟩) hbl0).trans (hc k hkl 3 _ rfl)
    have x4:=(hblw.cell (p:=⟨b,off+k * 6+4,none⟩) hbl0).trans (hc k hkl 4 _ rfl)
    have x5:=(hblw.cell (p:=⟨b,off+k * 6+5,none⟩) hbl0).trans (hc k hkl 5 _ rfl)
    have hts:t.take (k+1)=t.take k++[t[k]]:=List.take_succ_eq_append_getElem hkl
    have hfs:(t.take (k+1)).foldl stepZ []=stepZ ((t.take k).foldl stepZ []) t[k]:=by rw [hts,List.foldl_append];rfl
    have hno:t[k].fits=false→bothF t=none:=bothF_unfit hkl
    have hnx:t[k].fits=true→∀ i,i<k+1→(hi:i<t.length)→t[i].fits=true:=fun q i hi hl=>by
     by_cases e:i=k
     ·subst e;exact q
     ·exact HF.out i (by omega) hl
    have hln:=foldZ_len (t.take k) []
    have HFS:=Lib.hid hfs
    have HNO:=Lib.hid hno
    have HNX:=Lib.hid hnx
    have HLN:Hid (((t.take k).foldl stepZ []).length≤k):=Lib.hid (by rw [List.length_take,List.length_nil] at hln;omega)
    have hkI:(k:Int)<(t.length:Int):=by omega
    have h30n:=H30.out
    have hk31:k≤30:=by omega
    clear hc hts hfs hno hnx HF hln h30n
    generalize t[k]=c at x0 x1 x2 x3 x4 x5 HFS HNO HNX
    generalize (t.take k).foldl stepZ []=zs at HO HFS HLN ⊢
    obtain ⟨op,kd,nm,md,nu,ys⟩:=c
    obtain ⟨NM,hNM,eN⟩:=bytes_of nm
    obtain ⟨MD,hMD,eM⟩:=bytes_of md
    obtain ⟨NU,hNU,eU⟩:=bytes_of nu
    change wr.cell? _=some (.int .i64 op) at x0
    change wr.cell? _=some (.int .i64 kd) at x1
    change wr.cell? _=some (.string ⟨nm.toArray⟩) at x2
    change wr.cell? _=some (.string ⟨md.toArray⟩) at x3
    change wr.cell? _=some (.string ⟨nu.toArray⟩) at x4
    change wr.cell? _=some (.bool ys) at x5
    rw [eN] at x2
    rw [eM] at x3
    rw [eU] at x4
    have hft:(CellZ.mk op kd nm md nu ys).fits=(decide (NM.size≤60) && decide (MD.size≤60) && decide (NU.size≤80)):=by rw [← size_list NM,← size_list MD,← size_list NU,hNM,hMD,hNU];rfl
    rw [hft] at HNO HNX
    have hEN:=Lib.hid eN
    have hEM:=Lib.hid eM
    have hEU:=Lib.hid hNU
    clear hNM hMD hNU eN eM eU hft
    have hN2:=((hbl.block w.heap.size hl1).trans HN.out)
    have hR2:=((hbl.block (w.heap.size+1) hl2).trans HR.out)
    have hbn:=below_new wr (.cells (boxC op kd NM MD NU ys) 104)
    have hY:=heap_alloc_new wr (.cells (boxC op kd NM MD NU ys) 104)
    have hN3:=(hbn.block w.heap.size (by omega)).trans hN2
    have hR3:=(hbn.block (w.heap.size+1) (by omega)).trans hR2
    have hbw3:=hblw.trans (hbn.mono (by omega))
    go_upto_region 7 with fail
    change Code.wp _ _ _ _ (wr.alloc (.cells (boxC op kd NM MD NU ys) 104))
    generalize hw3:wr.alloc (.cells (boxC op kd NM MD NU ys) 104)=w3 at hbn hY hN3 hR3 hbw3 ⊢
    have hz3:wr.heap.size<w3.heap.size:=by rw [← hw3];simp
    clear hw3 x0 x1 x2 x3 x4 x5 hN2 hR2
    obtain ⟨x0,x1,x2,x3,x4,x5⟩:=boxC_cells hY
    have HY:=Lib.hid hY
    have HN3:=Lib.hid hN3
    have HR3:=Lib.hid hR3
    clear hY
    rcases (by omega:60<NM.size∨(NM.size≤60∧60<MD.size)∨(NM.size≤60∧MD.size≤60∧80<NU.size)∨(NM.size≤60∧MD.size≤60∧NU.size≤80)) with q|⟨q0,q⟩|⟨q0,q1,q⟩|⟨q0,q1,q2⟩
    ·have hq:decide ((60:Int)<(NM.size:Int))=true:=decide_eq_true (by omega)
     have hno:=HNO.out (by rw [decide_eq_false (by omega:¬ NM.size≤60)];rfl)
     obtain ⟨c0,c1,c2,c3,c4,c5,c6,c7⟩:=boxZ_cells hN3
     obtain ⟨d0,d1,d2,d3,d4,d5,d6⟩:=boxY_cells hR3
     have cz:=boxZ_free hN3
     have dz:=boxY_free hR3
     clear hN3 hR3
     go_wp2
     obtain ⟨G1,G2,G3,-⟩:=put78 HN3.out HR3.out (.int .i64 0) (.string ⟨#[]⟩) (.string ⟨#[]⟩) (.bool false) (.slice none 0 0) (.bool false) (.slice none 0 0) (.int .i64 0) (.int .i64 0) (.string ⟨#[]⟩) (.string ⟨#[]⟩) (.string ⟨#[]⟩) (.bool false) (.slice none 0 0) (.int .i64 0)
     have G4:=G3 w.heap.size w (Nat.le_refl _) hbw3
     have GN:=Lib.hid (hno)
     change bodyPost _ _ _ _ _ (put7 (put8 w3 w.heap.size (.int .i64 0) (.string ⟨#[]⟩) (.string ⟨#[]⟩) (.bool false) (.slice none 0 0) (.bool false) (.slice none 0 0) (.int .i64 0)) (w.heap.size+1) (.int .i64 0) (.string ⟨#[]⟩) (.string ⟨#[]⟩) (.string ⟨#[]⟩) (.bool false) (.slice none 0 0) (.int .i64 0))
     generalize put7 (put8 w3 w.heap.size (.int .i64 0) (.string ⟨#[]⟩) (.string ⟨#[]⟩) (.bool false) (.slice none 0 0) (.bool false) (.slice none 0 0) (.int .i64 0)) (w.heap.size+1) (.int .i64 0) (.string ⟨#[]⟩) (.string ⟨#[]⟩) (.string ⟨#[]⟩) (.bool false) (.slice none 0 0) (.int .i64 0)=WZ at G1 G2 G4 ⊢
     obtain ⟨e0,e1,e2,e3,e4,e5,e6,e7⟩:=boxZ_cells (op:=0) (NM:=⟨#[]⟩) (MD:=⟨#[]⟩) (ng:=false) (mv:=.slice none 0 0) (ys:=false) (kv:=.slice none 0 0) (a_:=0) G1
     obtain ⟨k0,k1,k2,k3,k4,k5,k6⟩:=boxY_cells (op:=0) (NM:=⟨#[]⟩) (MD:=⟨#[]⟩) (TX:=⟨#[]⟩) (ys:=false) (kv:=.slice none 0 0) (a_:=0) G2
     exact bodyPost_ret (v:=.tuple #[.agg #[.int .i64 0,.string ⟨#[]⟩,.string ⟨#[]⟩,.bool false,.slice none 0 0,.bool false,.slice none 0 0,.int .i64 0],.agg #[.int .i64 0,.string ⟨#[]⟩,.string ⟨#[]⟩,.string ⟨#[]⟩,.bool false,.slice none 0 0,.int .i64 0],.bool false]) (by simp [results,Tryz.results18,go_sem,e0,e1,e2,e3,e4,e5,e6,e7,k0,k1,k2,k3,k4,k5,k6]) rfl (BothPost.none GN.out G4)
    ·have hq0:decide ((60:Int)<(NM.size:Int))=false:=decide_eq_false (by omega)
     have hq:decide ((60:Int)<(MD.size:Int))=true:=decide_eq_true (by omega)
     have hno:=HNO.out (by rw [decide_eq_false (by omega:¬ MD.size≤60),Bool.and_false,Bool.false_and])
     obtain ⟨c0,c1,c2,c3,c4,c5,c6,c7⟩:=boxZ_cells hN3
     obtain ⟨d0,d1,d2,d3,d4,d5,d6⟩:=boxY_cells hR3
     have cz:=boxZ_free hN3
     have dz:=boxY_free hR3
     clear hN3 hR3
     go_wp2
     obtain ⟨G1,G2,G3,-⟩:=put78 HN3.out HR3.out (.int .i64 0) (.string ⟨#[]⟩) (.string ⟨#[]⟩) (.bool false) (.slice none 0 0) (.bool false) (.slice none 0 0) (.int .i64 0) (.int .i64 0) (.string ⟨#[]⟩) (.string ⟨#[]⟩) (.string ⟨#[]⟩) (.bool false) (.slice none 0 0) (.int .i64 0)
     have G4:=G3 w.heap.size w (Nat.le_refl _) hbw3
     have GN:=Lib.hid (hno)
     change bodyPost _ _ _ _ _ (put7 (put8 w3 w.heap.size (.int .i64 0) (.string ⟨#[]⟩) (.string ⟨#[]⟩) (.bool false) (.slice none 0 0) (.bool false) (.slice none 0 0) (.int .i64 0)) (w.heap.size+1) (.int .i64 0) (.string ⟨#[]⟩) (.string ⟨#[]⟩) (.string ⟨#[]⟩) (.bool false) (.slice none 0 0) (.int .i64 0))
     generalize put7 (put8 w3 w.heap.size (.int .i64 0) (.string ⟨#[]⟩) (.string ⟨#[]⟩) (.bool false) (.slice none 0 0) (.bool false) (.slice none 0 0) (.int .i64 0)) (w.heap.size+1) (.int .i64 0) (.string ⟨#[]⟩) (.string ⟨#[]⟩) (.string ⟨#[]⟩) (.bool false) (.slice none 0 0) (.int .i64 0)=WZ at G1 G2 G4 ⊢
     obtain ⟨e0,e1,e2,e3,e4,e5,e6,e7⟩:=boxZ_cells (op:=0) (NM:=⟨#[]⟩) (MD:=⟨#[]⟩) (ng:=false) (mv:=.slice none 0 0) (ys:=false) (kv:=.slice none 0 0) (a_:=0) G1
     obtain ⟨k0,k1,k2,k3,k4,k5,k6⟩:=boxY_cells (op:=0) (NM:=⟨#[]⟩) (MD:=⟨#[]⟩) (TX:=⟨#[]⟩) (ys:=false) (kv:=.slice none 0 0) (a_:=0) G2
     exact bodyPost_ret (v:=.tuple #[.agg #[.int .i64 0,.string ⟨#[]⟩,.string ⟨#[]⟩,.bool false,.slice none 0 0,.bool false,.slice none 0 0,.int .i64 0],.agg #[.int .i64 0,.string ⟨#[]⟩,.string ⟨#[]⟩,.string ⟨#[]⟩,.bool false,.slice none 0 0,.int .i64 0],.bool false]) (by simp [results,Tryz.results18,go_sem,e0,e1,e2,e3,e4,e5,e6,e7,k0,k1,k2,k3,k4,k5,k6]) rfl (BothPost.none GN.out G4)
    ·have hq0:decide ((60:Int)<(NM.size:Int))=false:=decide_eq_false (by omega)
     have hq1:decide ((60:Int)<(MD.size:Int))=false:=decide_eq_false (by omega)
     have hq:decide ((80:Int)<(NU.size:Int))=true:=decide_eq_true (by omega)
     have hno:=HNO.out (by rw [decide_eq_false (by omega:¬ NU.size≤80),Bool.and_false])
     obtain ⟨c0,c1,c2,c3,c4,c5,c6,c7⟩:=boxZ_cells hN3
     obtain ⟨d0,d1,d2,d3,d4,d5,d6⟩:=boxY_cells hR3
     have cz:=boxZ_free hN3
     have dz:=boxY_free hR3
     clear hN3 hR3
     go_wp2
     obtain ⟨G1,G2,G3,-⟩:=put78 HN3.out HR3.out (.int .i64 0) (.string ⟨#[]⟩) (.string ⟨#[]⟩) (.bool false) (.slice none 0 0) (.bool false) (.slice none 0 0) (.int .i64 0) (.int .i64 0) (.string ⟨#[]⟩) (.string ⟨#[]⟩) (.string ⟨#[]⟩) (.bool false) (.slice none 0 0) (.int .i64 0)
     have G4:=G3 w.heap.size w (Nat.le_refl _) hbw3
     have GN:=Lib.hid (hno)
     change bodyPost _ _ _ _ _ (put7 (put8 w3 w.heap.size (.int .i64 0) (.string ⟨#[]⟩) (.string ⟨#[]⟩) (.bool false) (.slice none 0 0) (.bool false) (.slice none 0 0) (.int .i64 0)) (w.heap.size+1) (.int .i64 0) (.string ⟨#[]⟩) (.string ⟨#[]⟩) (.string ⟨#[]⟩) (.bool false) (.slice none 0 0) (.int .i64 0))
     generalize put7 (put8 w3 w.heap.size (.int .i64 0) (.string ⟨#[]⟩) (.string ⟨#[]⟩) (.bool false) (.slice none 0 0) (.bool false) (.slice none 0 0) (.int .i64 0)) (w.heap.size+1) (.int .i64 0) (.string ⟨#[]⟩) (.string ⟨#[]⟩) (.string ⟨#[]⟩) (.bool false) (.slice none 0 0) (.int .i64 0)=WZ at G1 G2 G4 ⊢
     obtain ⟨e0,e1,e2,e3,e4,e5,e6,e7⟩:=boxZ_cells (op:=0) (NM:=⟨#[]⟩) (MD:=⟨#[]⟩) (ng:=false) (mv:=.slice none 0 0) (ys:=false) (kv:=.slice none 0 0) (a_:=0) G1
     obtain ⟨k0,k1,k2,k3,k4,k5,k6⟩:=boxY_cells (op:=0) (NM:=⟨#[]⟩) (MD:=⟨#[]⟩) (TX:=⟨#[]⟩) (ys:=false) (kv:=.slice none 0 0) (a_:=0) G2
     exact bodyPost_ret (v:=.tuple #[.agg #[.int .i64 0,.string ⟨#[]⟩,.string ⟨#[]⟩,.bool false,.slice none 0 0,.bool false,.slice none 0 0,.int .i64 0],.agg #[.int .i64 0,.string ⟨#[]⟩,.string ⟨#[]⟩,.string ⟨#[]⟩,.bool false,.slice none 0 0,.int .i64 0],.bool false]) (by simp [results,Tryz.results18,go_sem,e0,e1,e2,e3,e4,e5,e6,e7,k0,k1,k2,k3,k4,k5,k6]) rfl (BothPost.none GN.out G4)
    ·have hq0:decide ((60:Int)<(NM.size:Int))=false:=decide_eq_false (by omega)
     have hq1:decide ((60:Int)<(MD.size:Int))=false:=decide_eq_false (by omega)
     have hq2:decide ((80:Int)<(NU.size:Int))=false:=decide_eq_false (by omega)
     have hnx:=HNX.out (by rw [decide_eq_true q0,decide_eq_true q1,decide_eq_true q2];rfl)
     have HNX1:=Lib.hid hnx
     have hU80:NU.size≤1099511627776:=by omega
     clear hnx HNX HNO q0 q1 q2 hN3 hR3
     have hcb3:wr.heap.size<w3.heap.size:=hz3
     have hbn4:=below_new w3 (.cells (boxZ op NM MD false (.slice none 0 0) ys (.slice none 0 0) 0) 40)
     have hE:=heap_alloc_new w3 (.cells (boxZ op NM MD false (.slice none 0 0) ys (.slice none 0 0) 0) 40)
     have hY4:=(hbn4.block wr.heap.size hz3).trans HY.out
     have hbr4:=hbn.trans (hbn4.mono (by omega))
     have hbw4:=hbw3.trans (hbn4.mono (by omega))
     go_upto_if 51 with fail
     change Code.wp _ _ _ _ (w3.alloc (.cells (boxZ op NM MD false (.slice none 0 0) ys (.slice none 0 0) 0) 40))
     generalize hw4:w3.alloc (.cells (boxZ op NM MD false (.slice none 0 0) ys (.slice none 0 0) 0) 40)=w4 at hbn4 hE hY4 hbr4 hbw4 ⊢
     have hz4:w3.heap.size<w4.heap.size:=by rw [← hw4];simp
     clear hw4 x0 x1 x2 x3 x4 x5 hbn hbw3 hbn4
     obtain ⟨x0,x1,x2,x3,x4,x5⟩:=boxC_cells hY4
     have HY4:=Lib.hid hY4
     have HE4:=Lib.hid hE
     clear hY4 hE
     obtain ⟨num,hnm⟩:∃ num,num=if op=1 then zedF nu else 0:=⟨_,rfl⟩
     have HNM:=Lib.hid hnm
     clear hnm
     generalize ht:(op == 1)=tt
     go_cut [51] (fun _ wc=>∃ mv,wc.heap[w3.heap.size]?=some (.cells (boxZ op NM MD (decide (num<0)) mv ys (.slice none 0 0) 0) 40 (0,0))∧NumAt (fun b=>wr.heap.size≤b∧b≠w3.heap.size) wc num mv∧Below wr.heap.size wr wc∧wc.heap[wr.heap.size]?=some (.cells (boxC op kd NM MD NU ys) 104 (0,0))∧w4.heap.size≤wc.heap.size)
     case first =>
      by_cases h1:op=1
      ·rw [beq_iff_eq.2 h1] at ht
       obtain rfl:tt=true:=ht.symm
       obtain rfl:num=zedF nu:=by rw [HNM.out,if_pos h1]
       have HZP:=Lib.hid (zparse_all NU w4 hU80)
       rw [hEU.out] at HZP
       clear h1
       go_wp2_with (go_at_call 42;refine HZP.out.mono ?_;rintro r w5 ⟨am,wn,cm,k5,rfl,hnum,hb5⟩;have hE5:=(hb5.block w3.heap.size hz4).trans HE4.out;obtain ⟨-,-,-,g3,g4,-,-,-⟩:=boxZ_cells hE5;have gz:=boxZ_free hE5)
       go_meet
       have hbr5:=hbr4.trans (hb5.mono (by omega))
       refine ⟨.slice am wn cm,?_,?_,(hbr5.setCell (by show wr.heap.size≤w3.heap.size;omega) _).setCell (by show wr.heap.size≤w3.heap.size;omega) _,?_,by have:=hb5.size;simp;omega⟩
       ·rw [heap_setCell_same _ w3.heap.size 4 _ _ _ (heap_setCell_same _ w3.heap.size 3 _ _ _ hE5)];rfl
       ·exact YA.imp (YA.frame (show YA.num _ w5 (zedF nu) _ from hnum) ((Alk.set _ fun b hb=>by show b≠w3.heap.size;omega).trans (Alk.set _ fun b hb=>by show b≠w3.heap.size;omega))) fun b hb _=>⟨by omega,by omega⟩
       ·rw [heap_setCell_other _ _ _ _ (by show wr.heap.size≠w3.heap.size;omega),heap_setCell_other _ _ _ _ (by show wr.heap.size≠w3.heap.size;omega)]
        exact (hb5.block wr.heap.size (by omega)).trans HY4.out
      ·rw [beq_eq_false_iff_ne.2 h1] at ht
       obtain rfl:tt=false:=ht.symm
       obtain rfl:num=0:=by rw [HNM.out,if_neg h1]
       clear h1
       go_wp2
       go_meet
       exact ⟨.slice none 0 0,HE4.out,NumAt.zero _ _,hbr4,HY4.out,Nat.le_refl _⟩
     case rest =>
      obtain ⟨mv,hE5,hnum,hbr5,hY5,hz5⟩:=hcut
      obtain ⟨w5,rfl⟩:∃ w5:World,w5=wc:=⟨_,rfl⟩
      clear x0 x1 x2 x3 x4 x5 ht hbr4 hbw4
      obtain ⟨l,hzl,hown,hes⟩:=HO.out
      obtain ⟨tk,htk⟩:∃ tk,tk=(CellZ.mk op kd nm md nu ys).takes:=⟨_,rfl⟩
      obtain ⟨n,hn⟩:∃ n,n=min tk zs.length:=⟨_,rfl⟩
      obtain ⟨d,hd⟩:∃ d,d=zs.length - n:=⟨_,rfl⟩
      have HTK:Hid (∀ W,Calls Tryz.prog 43 #[.agg #[.int .i64 op,.int .i64 kd,.string NM,.string MD,.string NU,.bool ys]] W fun r w'=>r=.returned (.int .i64 (tk:Nat))∧Below W.heap.size W w'):=Lib.hid fun W=>by rw [htk];exact takes_any op kd nm md nu ys NM MD NU W
      have htk9:tk≤9:=by rw [htk];exact takes_le _
      have hst:stepZ zs (CellZ.mk op kd nm md nu ys)=zs.take d++[.mk op nm md num ys (zs.drop d) 0]:=by
       unfold stepZ
       rw [← htk,← hn,← hd,HNM.out]
      have HST:=Lib.hid hst
      have hmin:min (tk:Int) (zs.length:Int)=(n:Int):=by omega
      have hdI:(zs.length:Int) - (n:Int)=(d:Int):=by omega
      have hdz:d≤zs.length:=by omega
      have hzd:zs.length - d=n:=by omega
      have hz31:=HLN.out
      have HZL:=Lib.hid hzl
      obtain ⟨x0,x1,x2,x3,x4,x5⟩:=boxC_cells hY5
      clear hst htk hn hd hzl
      go_upto_region 13 with (go_at_call 43;refine (HTK.out _).mono ?_;rintro r w6 ⟨rfl,hb6⟩)
      have hz6:=hb6.size
      have hbr6:=hbr5.trans (hb6.mono (by omega))
      have hE6:=(hb6.block w3.heap.size (by omega)).trans hE5
      have hnum6:NumAt (fun b=>wr.heap.size≤b∧b≠w3.heap.size) w6 num mv:=YA.frame (show YA.num _ w5 num mv from hnum) (Alk.of hb6)
      clear x0 x1 x2 x3 x4 x5 hb6 hE5 hnum hbr5 hY5 hmin
      have hcp:zs.length≤cp5:=by
       rcases hown.2 with ⟨hv,h0⟩|⟨_,_,_,hv,_,_,hle,_⟩
       ·omega
       ·simp only [Value.slice.injEq] at hv
        omega
      have HB6:=Lib.hid hbr6
      have HE6:=Lib.hid hE6
      have HNU6:=Lib.hid hnum6
      clear hbr6 hE6 hnum6
      have hbn7:=below_new w6 (.cells #[] 40)
      have hE7:=(hbn7.block w3.heap.size (by omega)).trans HE6.out
      obtain ⟨-,-,-,-,-,-,g6,-⟩:=boxZ_cells hE7
      have gz:=boxZ_free hE7
      go_cut [71] (fun _ wc=>∃ ak ck,wc.heap[w3.heap.size]?=some (.cells (boxZ op NM MD (decide (num<0)) mv ys (.slice ak n ck) 0) 40 (0,0))∧ZAt YA (fun b=>w1.heap.size≤b∧some b≠(Value.slice ao5 zs.length cp5).ownBlock∧b≠w3.heap.size) wc mv (.slice ak n ck) (.mk op nm md num ys (zs.drop d) 0)∧Below wr.heap.size wr wc)
      case first =>
       have hfin:∀ (W5:World) (ak:Option Addr) (ck:Nat),Below w6.heap.size w6 W5→W5.ownsRow w6.heap.size 40 8 (.slice ak n ck) n ((ZK YA).flat (l.drop d)) →
         (W5.setCell ⟨w3.heap.size,6,none⟩ (.slice ak n ck)).heap[w3.heap.size]?=some (.cells (boxZ op NM MD (decide (num<0)) mv ys (.slice ak n ck) 0) 40 (0,0))∧ZAt YA (fun b=>w1.heap.size≤b∧some b≠(Value.slice ao5 zs.length cp5).ownBlock∧b≠w3.heap.size) (W5.setCell ⟨w3.heap.size,6,none⟩ (.slice ak n ck)) mv (.slice ak n ck) (.mk op nm md num ys (zs.drop d) 0)∧Below wr.heap.size wr (W5.setCell ⟨w3.heap.size,6,none⟩ (.slice ak n ck)):=fun W5 ak ck hb5 ho5=>by
        refine ⟨?_,?_,(HB6.out.trans (hb5.mono (by omega))).setCell (by show wr.heap.size≤w3.heap.size;omega) _⟩
        ·rw [heap_setCell_same _ w3.heap.size 6 _ _ _ ((hb5.block w3.heap.size (by omega)).trans HE6.out)];rfl
        ·exact (both_new HZL.out hown hes hwr HB6.out (by omega) HNU6.out hb5 (by omega) (Nat.le_refl _) (by rw [List.length_drop];omega) ho5).frame (Alk.set _ fun b hb=>hb.2.2)
       have HFIN:=Lib.hid hfin
       clear hfin
       rcases Nat.eq_zero_or_pos n with h0|h0
       ·subst h0
        obtain rfl:d=zs.length:=by omega
        have hrow0:(w6.alloc (.cells #[] 40)).ownsRow w6.heap.size 40 8 (.slice (some ⟨w6.heap.size,0,none⟩) 0 0) 0 ((ZK YA).flat (l.drop zs.length)):=by
         rw [List.drop_of_length_le (by rw [← HZL.out,List.length_map];exact Nat.le_refl _)]
         exact World.ownsRow_made w6 #[] 0 (Nat.le_refl _) (Nat.zero_le _) rfl
        rcases hown.2 with ⟨hv,hl0⟩|⟨g,cap,cur,hv,hg1,hg2,-⟩
        ·simp only [Value.slice.injEq] at hv
         obtain ⟨rfl,-,rfl⟩:=hv
         obtain rfl:=List.eq_nil_of_length_eq_zero hl0
         go_wp2
         go_meet
         exact ⟨_,_,HFIN.out _ _ _ hbn7 hrow0⟩
        ·simp only [Value.slice.injEq] at hv
         obtain ⟨rfl,-,rfl⟩:=hv
         clear hg2
         by_cases hcd:cp5=zs.length
         ·subst hcd
          go_wp2
          go_meet
          exact ⟨_,_,HFIN.out _ _ _ hbn7 hrow0⟩
         ·have hcd:(cp5=zs.length)=False:=eq_false hcd
          go_wp2
          go_meet
          exact ⟨_,_,HFIN.out _ _ _ hbn7 hrow0⟩
       ·obtain ⟨g,cap,he,hg1,hg2⟩:=hown.form (by omega)
        simp only [Value.slice.injEq] at he
        obtain ⟨rfl,-,rfl⟩:=he
        have hcd:(cp5=d)=False:=eq_false (by omega)
        have hll:d≤l.length:=by have:=HZL.out;have:=congrArg List.length this;rw [List.length_map] at this;omega
        have hown7:=own_below (own_below hown HB6.out) hbn7
        have hrow0:(w6.alloc (.cells #[] 40)).ownsRow w6.heap.size 40 8 (.slice (some ⟨w6.heap.size,0,none⟩) 0 0) 0 []:=World.ownsRow_made w6 #[] 0 (Nat.le_refl _) (Nat.zero_le _) rfl
        have hnl:((ZK YA).flat (l.drop d)).length=n * 8:=by
         rw [RK.flat_len,List.length_drop]
         have:=HZL.out;have:=congrArg List.length this;rw [List.length_map] at this
         show (l.length - d) * 8=n * 8
         omega
        have hnews:∀ j u,((ZK YA).flat (l.drop d))[j]?=some u→(w6.alloc (.cells #[] 40)).cell? ((⟨g,d * 8,none⟩:Addr).add j)=some u:=fun j u hu=>own_drop hown7 j u (show (((ZK YA).flat l).drop (d * 8))[j]?=some u by rw [show ((ZK YA).flat l).drop (d * 8)=(ZK YA).flat (l.drop d) from RK.flat_drop (ZK YA) l d hll];exact hu)
        have hone:∀ u∈(ZK YA).flat (l.drop d),u.oneCell'=true:=yaRow_one fun p hp=>hes p (List.mem_of_mem_drop hp)
        have hn31:n≤31:=by omega
        go_wp2_with (at_builtin;refine wpList_append_lies _ rfl _ _ 38 rfl w6.heap.size 40 ia _ 8 112 Tryz.underlying38 hia ha0 ha1 ha2 rfl (by decide) (.slice (some ⟨w6.heap.size,0,none⟩) 0 0) 0 [] rfl hrow0 ⟨g,d * 8,none⟩ n (cp5 - d) ((ZK YA).flat (l.drop d)) rfl hnl hnews hone h0 (by unfold maxLen;omega) (by omega) (by simp) (w6.heap.size+1) (by simp) ?_)
        intro g2 ck2 w7 hown9 hgrow9 hat9 hlt9
        have hb7:Below w6.heap.size w6 w7:=hbn7.grown hgrow9 (by simp) (fun b q=>by simp only [Value.ownBlock,Option.some.injEq] at q;omega)
        have hE9:=(hgrow9.block w3.heap.size (by simp;omega) (by simp only [Value.ownBlock,ne_eq,Option.some.injEq];omega)).trans hE7
        obtain ⟨-,-,-,-,-,-,g6',-⟩:=boxZ_cells hE9
        have gz':=boxZ_free hE9
        have HO9:=Lib.hid hown9
        clear g6 gz hown9 hgrow9 hat9 hown7 hnews hone hown hes
        go_wp2
        go_meet
        exact ⟨_,_,HFIN.out _ _ _ hb7 HO9.out⟩
      case rest =>
       obtain ⟨ak,ck,hE8,hZ8,hb8⟩:=hcut
       obtain ⟨w8,rfl⟩:∃ w8:World,w8=wc:=⟨_,rfl⟩
       obtain ⟨am,wn,cm,ak',ck',rfl,-⟩:=hZ8.slX
       have hz8:=hb8.size
       obtain ⟨c0,c1,c2,c3,c4,c5,c6,c7⟩:=boxZ_cells hE8
       have hown8:=own_below hown hb8
       have hes8:∀ p∈l.take d,(ZK YA).inn (fun b=>w1.heap.size≤b∧some b≠(Value.slice ao5 zs.length cp5).ownBlock) w8 p.1 p.2:=fun p hp=>(ZK YA).frame (hes p (List.mem_of_mem_take hp)) (Alk.of hb8)
       have HE8:=Lib.hid hes8
       have HZ8:=Lib.hid hZ8
       have HB8:=Lib.hid hb8
       clear g6 gz hE7 hbn7 HB6 HE6 HNU6 hes8 hZ8 hb8 hE8 hes
       go_upto_region 14 with fail
       rcases hown8.2 with ⟨hv,hl0⟩|⟨g,cap,cur,hv,hg1,hg2,-⟩
       ·simp only [Value.slice.injEq] at hv
        obtain ⟨rfl,-,rfl⟩:=hv
        obtain rfl:=List.eq_nil_of_length_eq_zero hl0
        obtain rfl:d=0:=by simp only [List.length_nil] at hdz;omega
        obtain rfl:n=0:=by simp only [List.length_nil] at hzd;omega
        have hw0:IntKind.i64.wrap 0=0:=IntWalk.i64_in _ (by omega)
        have hpre:w8.ownsRow w1.heap.size 40 8 (.slice none 0 0) 0 ((ZK YA).flat (l.take 0)):=by rw [List.take_zero];exact World.ownsRow_nil _ _ _ _
        have hownV:=owns_drew hpre
        go_region_law (refine step_append_lies _ (by rfl) _ _ _ (by rfl) w1.heap.size 40 ia _ 8 112 Tryz.underlying38 hia ha0 ha1 ha2 rfl (by omega) (.slice none 0 0) 0 _ (by rfl) (hownV.alloc _) ⟨w8.heap.size,0,none⟩ 1 1 [.int .i64 op,.string NM,.string MD,.bool (decide (num<0)),.slice am wn cm,.bool ys,.slice ak 0 ck,.int .i64 0] (by rfl) (by rfl) (World.news_of_block (cs:=#[.int .i64 op,.string NM,.string MD,.bool (decide (num<0)),.slice am wn cm,.bool ys,.slice ak 0 ck,.int .i64 0]) (t:=40) (fr:=(0,0)) (heap_alloc_new w8.drew _)) (by simp [Value.oneCell']) (by omega) (by unfold maxLen;omega) (by omega) (by have:w8.drew.heap.size=w8.heap.size:=rfl;simp;omega) (w8.heap.size+1) (by simp) ?_;intro g3 cp3 w9 hown9 hgrow9 hat9 hlt9)
        all_goals
         have hba:Below w8.heap.size w8 (w8.drew.alloc (.cells #[.int .i64 op,.string NM,.string MD,.bool (decide (num<0)),.slice am wn cm,.bool ys,.slice ak 0 ck,.int .i64 0] 40)):=(Below.refl w8.heap.size w8).drew.alloc (Nat.le_refl _) _
         have hcl:(ZK YA).cells (.mk op nm md num ys (([]:List PZ).drop 0) 0) (.slice am wn cm,.slice ak 0 ck)=[.int .i64 op,.string NM,.string MD,.bool (decide (num<0)),.slice am wn cm,.bool ys,.slice ak 0 ck,.int .i64 0]:=by
          show [Value.int .i64 op,.string ⟨nm.toArray⟩,.string ⟨md.toArray⟩,.bool (decide (num<0)),.slice am wn cm,.bool ys,.slice ak 0 ck,.int .i64 0]=_
          rw [hEN.out,hEM.out]
         have hnext:OwnK (ZK YA) w1.heap.size 40 w9 (.slice (some ⟨g3,0,none⟩) (0+1) cp3) (([]:List PZ).take 0++[.mk op nm md num ys (([]:List PZ).drop 0) 0]):=OwnK.snoc (l:=l.take 0) (kv:=(.slice none 0 0)) (x:=(.slice am wn cm,.slice ak 0 ck)) (H:=w8.heap.size+1) (g:=g3) (by rw [List.map_take,HZL.out]) (fun p hp=>(ZK YA).frame (HE8.out p hp) (Alk.of hba)) ((ZK YA).frame ((ZK YA).imp (show (ZK YA).inn _ w8 _ (_,_) from HZ8.out) (fun b hb _=>⟨hb.1,hb.2.1⟩)) (Alk.of hba)) (by rw [List.length_take,Nat.min_eq_left hdz,hcl];exact hown9) hgrow9 rfl hat9 (by simp)
         have hbl9:Below w1.heap.size w1 w9:=((hbl.trans (HB8.out.mono hwr)).trans (hba.mono (by omega))).grown hgrow9 (by simp;omega) (fun b q=>(hpre.lt b q).1)
         have hlen9:0+1=((t.take (k+1)).foldl stepZ []).length:=by rw [HFS.out,HST.out,List.length_append,List.length_take,List.length_singleton];omega
         have HNEXT:=Lib.hid (And.intro hnext (And.intro hbl9 hlen9))
         clear hown9 hgrow9 hat9 hba hcl hnext hbl9 hlen9 c0 c1 c2 c3 c4 c5 c6 c7
         go_wp2
         go_roundw
         case rel=>exact ⟨k+1,some ⟨g3,0,none⟩,cp3,by omega,by go_num,by rw [← HNEXT.out.2.2],HNX1.out,by rw [← HNEXT.out.2.2,HFS.out,HST.out];exact HNEXT.out.1,HNEXT.out.2.1⟩
         case measure=>simp [intOf];omega
       ·simp only [Value.slice.injEq] at hv
        obtain ⟨rfl,-,rfl⟩:=hv
        clear hg2
        have hll:d≤l.length:=by have:=congrArg List.length HZL.out;rw [List.length_map] at this;omega
        have hpre:w8.ownsRow w1.heap.size 40 8 (.slice (some ⟨g,0,none⟩) d cp5) d ((ZK YA).flat (l.take d)):=by
         have e:((ZK YA).flat l).take (d * 8)=(ZK YA).flat (l.take d):=RK.flat_take (ZK YA) l d hll
         rw [← e]
         exact own_take hown8 hdz
        have hwd:IntKind.i64.wrap (d:Int)=(d:Int):=IntWalk.i64_in _ (by omega)
        have hd0:(0:Int)≤(d:Int):=by omega
        have hd5:(d:Int)≤(cp5:Int):=by omega
        have hownV:=owns_drew hpre
        go_region_law (refine step_append_lies _ (by rfl) _ _ _ (by rfl) w1.heap.size 40 ia _ 8 112 Tryz.underlying38 hia ha0 ha1 ha2 rfl (by omega) (.slice (some ⟨g,0,none⟩) d cp5) d _ (by rfl) (hownV.alloc _) ⟨w8.heap.size,0,none⟩ 1 1 [.int .i64 op,.string NM,.string MD,.bool (decide (num<0)),.slice am wn cm,.bool ys,.slice ak n ck,.int .i64 0] (by rfl) (by rfl) (World.news_of_block (cs:=#[.int .i64 op,.string NM,.string MD,.bool (decide (num<0)),.slice am wn cm,.bool ys,.slice ak n ck,.int .i64 0]) (t:=40) (fr:=(0,0)) (heap_alloc_new w8.drew _)) (by simp [Value.oneCell']) (by omega) (by unfold maxLen;omega) (by omega) (by have:w8.drew.heap.size=w8.heap.size:=rfl;simp;omega) (w8.heap.size+1) (by simp) ?_;intro g3 cp3 w9 hown9 hgrow9 hat9 hlt9)
        all_goals
         have hba:Below w8.heap.size w8 (w8.drew.alloc (.cells #[.int .i64 op,.string NM,.string MD,.bool (decide (num<0)),.slice am wn cm,.bool ys,.slice ak n ck,.int .i64 0] 40)):=(Below.refl w8.heap.size w8).drew.alloc (Nat.le_refl _) _
         have hcl:(ZK YA).cells (.mk op nm md num ys (zs.drop d) 0) (.slice am wn cm,.slice ak n ck)=[.int .i64 op,.string NM,.string MD,.bool (decide (num<0)),.slice am wn cm,.bool ys,.slice ak n ck,.int .i64 0]:=by
          show [Value.int .i64 op,.string ⟨nm.toArray⟩,.string ⟨md.toArray⟩,.bool (decide (num<0)),.slice am wn cm,.bool ys,.slice ak n ck,.int .i64 0]=_
          rw [hEN.out,hEM.out]
         have hnext:OwnK (ZK YA) w1.heap.size 40 w9 (.slice (some ⟨g3,0,none⟩) (d+1) cp3) (zs.take d++[.mk op nm md num ys (zs.drop d) 0]):=OwnK.snoc (l:=l.take d) (kv:=(.slice (some ⟨g,0,none⟩) d cp5)) (x:=(.slice am wn cm,.slice ak n ck)) (H:=w8.heap.size+1) (g:=g3) (by rw [List.map_take,HZL.out]) (fun p hp=>(ZK YA).frame (HE8.out p hp) (Alk.of hba)) ((ZK YA).frame ((ZK YA).imp (show (ZK YA).inn _ w8 _ (_,_) from HZ8.out) (fun b hb _=>⟨hb.1,hb.2.1⟩)) (Alk.of hba)) (by rw [List.length_take,Nat.min_eq_left hdz,hcl];exact hown9) hgrow9 rfl hat9 (by simp)
         have hbl9:Below w1.heap.size w1 w9:=((hbl.trans (HB8.out.mono hwr)).trans (hba.mono (by omega))).grown hgrow9 (by simp;omega) (fun b q=>(hpre.lt b q).1)
         have hlen9:d+1=((t.take (k+1)).foldl stepZ []).length:=by rw [HFS.out,HST.out,List.length_append,List.length_take,List.length_singleton];omega
         have HNEXT:=Lib.hid (And.intro hnext (And.intro hbl9 hlen9))
         clear hown9 hgrow9 hat9 hba hcl hnext hbl9 hlen9 c0 c1 c2 c3 c4 c5 c6 c7
         go_wp2
         go_roundw
         case rel=>exact ⟨k+1,some ⟨g3,0,none⟩,cp3,by omega,by go_num,by rw [← HNEXT.out.2.2],HNX1.out,by rw [← HNEXT.out.2.2,HFS.out,HST.out];exact HNEXT.out.1,HNEXT.out.2.1⟩
         case measure=>simp [intOf];omega
   ·obtain rfl:k=t.length:=by omega
    have hkI:decide ((t.length:Int)<(t.length:Int))=false:=decide_eq_false (by omega)
    have hN2:=((hbl.block w.heap.size hl1).trans HN.out)
    have hR2:=((hbl.block (w.heap.size+1) hl2).trans HR.out)
    have hbF:bothF t=(t.foldl stepZ []).getLast?:=bothF_fits H30.out fun i hi=>HF.out i hi hi
    have htl:t.take t.length=t:=List.take_length
    rw [htl] at HO ⊢
    have HBF:=Lib.hid hbF
    have HN2:=Lib.hid hN2
    have HR2:=Lib.hid hR2
    clear hbF htl
    have hz30:(t.foldl stepZ []).length≤30:=by
     have h1:=foldZ_len t []
     have h2:=H30.out
     rw [List.length_nil] at h1
     omega
    generalize t.foldl stepZ []=zs at HO HBF hz30 ⊢
    rcases Nat.eq_zero_or_pos zs.length with h0|h0
    ·obtain rfl:=List.eq_nil_of_length_eq_zero h0
     clear h0
     obtain ⟨c0,c1,c2,c3,c4,c5,c6,c7⟩:=boxZ_cells hN2
     obtain ⟨d0,d1,d2,d3,d4,d5,d6⟩:=boxY_cells hR2
     have cz:=boxZ_free hN2
     have dz:=boxY_free hR2
     clear hN2 hR2
     go_wp2
     obtain ⟨G1,G2,G3,-⟩:=put78 HN2.out HR2.out (.int .i64 0) (.string ⟨#[]⟩) (.string ⟨#[]⟩) (.bool false) (.slice none 0 0) (.bool false) (.slice none 0 0) (.int .i64 0) (.int .i64 0) (.string ⟨#[]⟩) (.string ⟨#[]⟩) (.string ⟨#[]⟩) (.bool false) (.slice none 0 0) (.int .i64 0)
     have G4:=G3 w.heap.size w (Nat.le_refl _) hblw
     have GN:=Lib.hid ((show bothF t=Option.none by rw [HBF.out];rfl))
     change bodyPost _ _ _ _ _ (put7 (put8 wr w.heap.size (.int .i64 0) (.string ⟨#[]⟩) (.string ⟨#[]⟩) (.bool false) (.slice none 0 0) (.bool false) (.slice none 0 0) (.int .i64 0)) (w.heap.size+1) (.int .i64 0) (.string ⟨#[]⟩) (.string ⟨#[]⟩) (.string ⟨#[]⟩) (.bool false) (.slice none 0 0) (.int .i64 0))
     generalize put7 (put8 wr w.heap.size (.int .i64 0) (.string ⟨#[]⟩) (.string ⟨#[]⟩) (.bool false) (.slice none 0 0) (.bool false) (.slice none 0 0) (.int .i64 0)) (w.heap.size+1) (.int .i64 0) (.string ⟨#[]⟩) (.string ⟨#[]⟩) (.string ⟨#[]⟩) (.bool false) (.slice none 0 0) (.int .i64 0)=WZ at G1 G2 G4 ⊢
     obtain ⟨e0,e1,e2,e3,e4,e5,e6,e7⟩:=boxZ_cells (op:=0) (NM:=⟨#[]⟩) (MD:=⟨#[]⟩) (ng:=false) (mv:=.slice none 0 0) (ys:=false) (kv:=.slice none 0 0) (a_:=0) G1
     obtain ⟨k0,k1,k2,k3,k4,k5,k6⟩:=boxY_cells (op:=0) (NM:=⟨#[]⟩) (MD:=⟨#[]⟩) (TX:=⟨#[]⟩) (ys:=false) (kv:=.slice none 0 0) (a_:=0) G2
     exact bodyPost_ret (v:=.tuple #[.agg #[.int .i64 0,.string ⟨#[]⟩,.string ⟨#[]⟩,.bool false,.slice none 0 0,.bool false,.slice none 0 0,.int .i64 0],.agg #[.int .i64 0,.string ⟨#[]⟩,.string ⟨#[]⟩,.string ⟨#[]⟩,.bool false,.slice none 0 0,.int .i64 0],.bool false]) (by simp [results,Tryz.results18,go_sem,e0,e1,e2,e3,e4,e5,e6,e7,k0,k1,k2,k3,k4,k5,k6]) rfl (BothPost.none GN.out G4)
    ·obtain ⟨ao,cap,hv,hcp,hat⟩:=HO.out.row.form
     simp only [Value.slice.injEq] at hv
     obtain ⟨rfl,-,rfl⟩:=hv
     obtain ⟨g,off,rfl,hg1,hg2,hat⟩:=hat h0
     obtain ⟨i,hi⟩:∃ i,i=zs.length - 1:=⟨_,rfl⟩
     have hil:i<zs.length:=by omega
     obtain ⟨⟨mv,kv⟩,hZ,hc⟩:=hat i hil
     have hlast:zs.getLast?=some zs[i]:=by
      rw [List.getLast?_eq_getElem?,← hi,List.getElem?_eq_getElem hil]
     have hZ:ZAt YA (fun b=>w1.heap.size≤b) wr mv kv zs[i]:=hZ
     obtain ⟨am,wn,cm,ae,ce,rfl,rfl⟩:=hZ.slX
     have x0:=hc 0 _ rfl
     have x1:=hc 1 _ rfl
     have x2:=hc 2 _ rfl
     have x3:=hc 3 _ rfl
     have x4:=hc 4 _ rfl
     have x5:=hc 5 _ rfl
     have x6:=hc 6 _ rfl
     have x7:=hc 7 _ rfl
     have hbe:bothF t=some zs[i]:=by rw [HBF.out,hlast]
     clear hat hc hlast HBF
     have hfit:=bothF_fit hbe
     have HBE:=Lib.hid hbe
     clear hbe
     generalize zs[i]=e at hZ x0 x1 x2 x3 x4 x5 x6 x7 hfit HBE
     change wr.cell? ⟨g,off+i * 8,none⟩=some (.int .i64 e.op) at x0
     change wr.cell? ⟨g,off+i * 8+1,none⟩=some (.string ⟨e.name.toArray⟩) at x1
     change wr.cell? ⟨g,off+i * 8+2,none⟩=some (.string ⟨e.module.toArray⟩) at x2
     change wr.cell? ⟨g,off+i * 8+3,none⟩=some (.bool (decide (e.num<0))) at x3
     change wr.cell? ⟨g,off+i * 8+4,none⟩=some (.slice am wn cm) at x4
     change wr.cell? ⟨g,off+i * 8+5,none⟩=some (.bool e.yes) at x5
     change wr.cell? ⟨g,off+i * 8+6,none⟩=some (.slice ae e.kids.length ce) at x6
     change wr.cell? ⟨g,off+i * 8+7,none⟩=some (.int .i64 e.at_) at x7
     have hiI:(zs.length:Int) - 1=(i:Int):=by omega
     have hi2:(i:Int)<(zs.length:Int):=by omega
     have hi30:i≤30:=by omega
     have hl0:((zs.length:Int) == 0)=false:=beq_eq_false_iff_ne.2 (by omega)
     have hbn:=below_new wr (.cells (boxZ e.op ⟨e.name.toArray⟩ ⟨e.module.toArray⟩ (decide (e.num<0)) (.slice am wn cm) e.yes (.slice ae e.kids.length ce) e.at_) 40)
     have hE:=heap_alloc_new wr (.cells (boxZ e.op ⟨e.name.toArray⟩ ⟨e.module.toArray⟩ (decide (e.num<0)) (.slice am wn cm) e.yes (.slice ae e.kids.length ce) e.at_) 40)
     have HZ:=Lib.hid hZ
     have HFT:=Lib.hid hfit
     clear hi hN2 hR2 hZ hfit
     go_upto_region 19 with fail
     change Code.wp _ _ _ _ (wr.alloc (.cells (boxZ e.op ⟨e.name.toArray⟩ ⟨e.module.toArray⟩ (decide (e.num<0)) (.slice am wn cm) e.yes (.slice ae e.kids.length ce) e.at_) 40))
     have hN10:=(hbn.block w.heap.size (by omega)).trans HN2.out
     have hR10:=(hbn.block (w.heap.size+1) (by omega)).trans HR2.out
     have hb10:=hblw.trans (hbn.mono (by omega))
     have hZ10:=HZ.out.frame (Alk.of hbn)
     have hz10:=hbn.size
     have hnb:wr.heap.size<(wr.alloc (.cells (boxZ e.op ⟨e.name.toArray⟩ ⟨e.module.toArray⟩ (decide (e.num<0)) (.slice am wn cm) e.yes (.slice ae e.kids.length ce) e.at_) 40)).heap.size:=by simp
     generalize wr.alloc (.cells (boxZ e.op ⟨e.name.toArray⟩ ⟨e.module.toArray⟩ (decide (e.num<0)) (.slice am wn cm) e.yes (.slice ae e.kids.length ce) e.at_) 40)=w10 at hN10 hR10 hb10 hZ10 hz10 hE hnb ⊢
     have HC:Hid (∀ W,Alk (fun k=>k≠w.heap.size∧k≠w.heap.size+1) w10 W→Calls Tryz.prog 44 #[.agg #[.int .i64 e.op,.string ⟨e.name.toArray⟩,.string ⟨e.module.toArray⟩,.bool (decide (e.num<0)),.slice am wn cm,.bool e.yes,.slice ae e.kids.length ce,.int .i64 e.at_]] W (ExPost e W)):=Lib.hid fun W ha=>mexpr_any _ e (Nat.lt_succ_self _) HFT.out W.heap.size am wn cm ae ce W ((hZ10.frame ⟨ha.1,fun b hb hl=>ha.2 b (by omega) hl⟩).imp fun b hb hl=>hl) (Nat.le_refl _)
     have HZ10:=Lib.hid hZ10
     have HN10:=Lib.hid hN10
     have HR10:=Lib.hid hR10
     obtain ⟨y0,y1,y2,y3,y4,y5,y6,y7⟩:=boxZ_cells hE
     obtain ⟨c0,c1,c2,c3,c4,c5,c6,c7⟩:=boxZ_cells hN10
     obtain ⟨d0,d1,d2,d3,d4,d5,d6⟩:=boxY_cells hR10
     have cz:=boxZ_free hN10
     have dz:=boxY_free hR10
     have hltA:w.heap.size<w10.heap.size:=by omega
     have hltR:w.heap.size+1<w10.heap.size:=by omega
     have hS:∀ W:World,Alk (fun k=>k≠w.heap.size∧k≠w.heap.size+1) w10 W→W.cell? ⟨wr.heap.size,0,none⟩=some (.int .i64 e.op)∧W.cell? ⟨wr.heap.size,1,none⟩=some (.string ⟨e.name.toArray⟩)∧W.cell? ⟨wr.heap.size,2,none⟩=some (.string ⟨e.module.toArray⟩)∧W.cell? ⟨wr.heap.size,3,none⟩=some (.bool (decide (e.num<0)))∧W.cell? ⟨wr.heap.size,4,none⟩=some (.slice am wn cm)∧W.cell? ⟨wr.heap.size,5,none⟩=some (.bool e.yes)∧W.cell? ⟨wr.heap.size,6,none⟩=some (.slice ae e.kids.length ce)∧W.cell? ⟨wr.heap.size,7,none⟩=some (.int .i64 e.at_):=fun W ha=>boxZ_cells ((ha.2 wr.heap.size ⟨by omega,by omega⟩ hnb).trans hE)
     have HS:=Lib.hid hS
     have hq0:Alk (fun k=>k≠w.heap.size∧k≠w.heap.size+1) w10 w10.drew:=AlkZ.drew _ w10
     have hP8:∀ (W:World),Alk (fun k=>k≠w.heap.size∧k≠w.heap.size+1) w10 W→∀ v0 v1 v2 v3 v4 v5 v6 v7,Alk (fun k=>k≠w.heap.size∧k≠w.heap.size+1) w10 ((((((((W.setCell ⟨w.heap.size,0,none⟩ v0).setCell ⟨w.heap.size,1,none⟩ v1).setCell ⟨w.heap.size,2,none⟩ v2).setCell ⟨w.heap.size,3,none⟩ v3).setCell ⟨w.heap.size,4,none⟩ v4).setCell ⟨w.heap.size,5,none⟩ v5).setCell ⟨w.heap.size,6,none⟩ v6).setCell ⟨w.heap.size,7,none⟩ v7):=fun W h v0 v1 v2 v3 v4 v5 v6 v7=>h.trans (put8_alk _ W w.heap.size v0 v1 v2 v3 v4 v5 v6 v7 fun k hk=>hk.1)
     have hP7:∀ (W:World),Alk (fun k=>k≠w.heap.size∧k≠w.heap.size+1) w10 W→∀ v0 v1 v2 v3 v4 v5 v6,Alk (fun k=>k≠w.heap.size∧k≠w.heap.size+1) w10 (((((((W.setCell ⟨w.heap.size+1,0,none⟩ v0).setCell ⟨w.heap.size+1,1,none⟩ v1).setCell ⟨w.heap.size+1,2,none⟩ v2).setCell ⟨w.heap.size+1,3,none⟩ v3).setCell ⟨w.heap.size+1,4,none⟩ v4).setCell ⟨w.heap.size+1,5,none⟩ v5).setCell ⟨w.heap.size+1,6,none⟩ v6):=fun W h v0 v1 v2 v3 v4 v5 v6=>h.trans (put7_alk _ W (w.heap.size+1) v0 v1 v2 v3 v4 v5 v6 fun k hk=>hk.2)
     clear hS hE hN10 hR10 hZ10 x0 x1 x2 x3 x4 x5 x6 x7
     go_region_held3 (fun W=>W.cell? ⟨wr.heap.size,0,none⟩=some (.int .i64 e.op)∧W.cell? ⟨wr.heap.size,1,none⟩=some (.string ⟨e.name.toArray⟩)∧W.cell? ⟨wr.heap.size,2,none⟩=some (.string ⟨e.module.toArray⟩)∧W.cell? ⟨wr.heap.size,3,none⟩=some (.bool (decide (e.num<0)))∧W.cell? ⟨wr.heap.size,4,none⟩=some (.slice am wn cm)∧W.cell? ⟨wr.heap.size,5,none⟩=some (.bool e.yes)∧W.cell? ⟨wr.heap.size,6,none⟩=some (.slice ae e.kids.length ce)∧W.cell? ⟨wr.heap.size,7,none⟩=some (.int .i64 e.at_))
      (first|(with_reducible exact p3)|((try dsimp only);with_reducible exact HS.out _ (hP8 _ hq0 _ _ _ _ _ _ _ _))|((try dsimp only);with_reducible exact HS.out _ (hP8 _ hqA _ _ _ _ _ _ _ _))|((try dsimp only);with_reducible exact HS.out _ (hP7 _ hqA _ _ _ _ _ _ _))|((try dsimp only);with_reducible exact HS.out _ (hP7 _ (hP8 _ hqA _ _ _ _ _ _ _ _) _ _ _ _ _ _ _))|((try dsimp only);with_reducible exact HS.out _ (hP8 _ (hP7 _ hqA _ _ _ _ _ _ _) _ _ _ _ _ _ _ _))|(go_keep;done))
      (first
       | (go_at_call 44;refine (HC.out _ hq0).mono ?_;rintro r wA ⟨mx,ak,ck,rfl,hxe,hbA⟩;have hqA:=hq0.trans (Alk.of hbA);have hA1:=(hbA.block w.heap.size hltA).trans HN10.out;have hR1:=(hbA.block (w.heap.size+1) hltR).trans HR10.out;obtain ⟨e0,e1,e2,e3,e4,e5,e6,e7⟩:=boxZ_cells hA1;have ez:=boxZ_free hA1;obtain ⟨k0,k1,k2,k3,k4,k5,k6⟩:=boxY_cells hR1;have kz:=boxY_free hR1;have p3:=HS.out _ hqA)
       | (go_at_call 44;refine (HC.out _ (hP8 _ hq0 _ _ _ _ _ _ _ _)).mono ?_;rintro r wA ⟨mx,ak,ck,rfl,hxe,hbA⟩;have hqA:=(hP8 _ hq0 _ _ _ _ _ _ _ _).trans (Alk.of hbA);have hA1:=(hbA.block w.heap.size (by simpa using hltA)).trans (put8_cells (w:=w10.drew) HN10.out _ _ _ _ _ _ _ _);have hR1:=(hbA.block (w.heap.size+1) (by simpa using hltR)).trans (((put8_alk (fun k=>k≠w.heap.size) w10.drew w.heap.size _ _ _ _ _ _ _ _ fun k hk=>hk).2 (w.heap.size+1) (by omega) hltR).trans HR10.out);obtain ⟨k0,k1,k2,k3,k4,k5,k6⟩:=boxY_cells hR1;have kz:=boxY_free hR1;have p3:=HS.out _ hqA))
     have hzA:=hbA.size
     have hdz:w10.drew.heap.size=w10.heap.size:=rfl
     obtain ⟨G1,G2,G3,G5⟩:=put78 hA1 hR1 (.int .i64 e.op) (.string ⟨e.name.toArray⟩) (.string ⟨e.module.toArray⟩) (.bool (decide (e.num<0))) (.slice am wn cm) (.bool e.yes) (.slice ae e.kids.length ce) (.int .i64 e.at_) (.int .i64 e.op) (.string ⟨e.name.toArray⟩) (.string ⟨e.module.toArray⟩) (.string ⟨(intF e.num).toArray⟩) (.bool e.yes) (.slice ak e.kids.length ck) (.int .i64 e.at_)
     have G4:=G3 w.heap.size w (Nat.le_refl _) (hb10.drew.trans (hbA.mono (by omega)))
     have G6:=((HZ10.out.frame ⟨hqA.1,fun b hb hl=>hqA.2 b (by omega) hl⟩).frame (G5 (fun b=>w1.heap.size≤b) fun b hb=>by omega)).imp (Q:=fun b=>w.heap.size≤b) fun b hb _=>by omega
     have G7:=(hxe.frame (G5 (fun b=>w10.drew.heap.size≤b) fun b hb=>by omega)).imp (Q:=fun b=>w.heap.size≤b) fun b hb _=>by omega
     clear G3 G5
     change Exit.then _ _ _ _ (put7 (put8 wA w.heap.size (.int .i64 e.op) (.string ⟨e.name.toArray⟩) (.string ⟨e.module.toArray⟩) (.bool (decide (e.num<0))) (.slice am wn cm) (.bool e.yes) (.slice ae e.kids.length ce) (.int .i64 e.at_)) (w.heap.size+1) (.int .i64 e.op) (.string ⟨e.name.toArray⟩) (.string ⟨e.module.toArray⟩) (.string ⟨(intF e.num).toArray⟩) (.bool e.yes) (.slice ak e.kids.length ck) (.int .i64 e.at_))
     generalize put7 (put8 wA w.heap.size (.int .i64 e.op) (.string ⟨e.name.toArray⟩) (.string ⟨e.module.toArray⟩) (.bool (decide (e.num<0))) (.slice am wn cm) (.bool e.yes) (.slice ae e.kids.length ce) (.int .i64 e.at_)) (w.heap.size+1) (.int .i64 e.op) (.string ⟨e.name.toArray⟩) (.string ⟨e.module.toArray⟩) (.string ⟨(intF e.num).toArray⟩) (.bool e.yes) (.slice ak e.kids.length ck) (.int .i64 e.at_)=WZ at G1 G2 G4 G6 G7 ⊢
     obtain ⟨s0,s1,s2,s3,s4,s5,s6,s7⟩:=boxZ_cells (op:=e.op) (NM:=⟨e.name.toArray⟩) (MD:=⟨e.module.toArray⟩) (ng:=decide (e.num<0)) (mv:=.slice am wn cm) (ys:=e.yes) (kv:=.slice ae e.kids.length ce) (a_:=e.at_) G1
     obtain ⟨r0,r1,r2,r3,r4,r5,r6⟩:=boxY_cells (op:=e.op) (NM:=⟨e.name.toArray⟩) (MD:=⟨e.module.toArray⟩) (TX:=⟨(intF e.num).toArray⟩) (ys:=e.yes) (kv:=.slice ak e.kids.length ck) (a_:=e.at_) G2
     have HG:=Lib.hid (And.intro G4 (And.intro G6 G7))
     clear G1 G2 G4 G6 G7 hxe hqA hA1 hR1 e0 e1 e2 e3 e4 e5 e6 e7 ez k0 k1 k2 k3 k4 k5 k6 kz p3 y0 y1 y2 y3 y4 y5 y6 y7 c0 c1 c2 c3 c4 c5 c6 c7 cz d0 d1 d2 d3 d4 d5 d6 dz hP8 hP7 hq0
     go_wp2
     exact bodyPost_ret (v:=.tuple #[.agg #[.int .i64 e.op,.string ⟨e.name.toArray⟩,.string ⟨e.module.toArray⟩,.bool (decide (e.num<0)),.slice am wn cm,.bool e.yes,.slice ae e.kids.length ce,.int .i64 e.at_],.agg #[.int .i64 e.op,.string ⟨e.name.toArray⟩,.string ⟨e.module.toArray⟩,.string ⟨(intF e.num).toArray⟩,.bool e.yes,.slice ak e.kids.length ck,.int .i64 e.at_],.bool true]) (by simp [results,Tryz.results18,go_sem,s0,s1,s2,s3,s4,s5,s6,s7,r0,r1,r2,r3,r4,r5,r6]) rfl (BothPost.some HBE.out HG.out.1 HG.out.2.1 HG.out.2.2)
end Go.Proofs.YtdednahplodojaaGreatDoor
