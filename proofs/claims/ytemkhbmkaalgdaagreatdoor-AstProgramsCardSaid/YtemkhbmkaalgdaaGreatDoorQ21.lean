/- Walks and plain laws: TdumpW, FofLaws, ProgLaws, ZedW1. -/
import Derived.Test.YtemkhbmkaalgdaaGreatDoorQ20
set_option maxHeartbeats 16000000
set_option maxRecDepth 100000
namespace Go.Proofs.YtemkhbmkaalgdaaGreatDoor
open Go.RowKit Go
def DmpPost (B' b:Nat)(acc:List UInt8)(w:World)(e:Ending)(w':World):Prop:=e=.returned (.tuple #[])∧Bld B' b acc w'∧Below B' w w'∧Lib.OthersKept 5 (some b) w w'
def TdDoes (B B' b:Nat)(tv nv:Value)(toks:List Tok)(nodes:List Nd)(g:Nat):Prop:=∀ (n:Int) (s acc:List UInt8) (w:World),TreeAt B w (.agg #[tv,nv]) toks nodes→B≤B'→Bld B' b acc w→B'≤w.heap.size→dumpM toks nodes g n=some s→acc.length+s.length≤1099511627776 →
 Calls Tryz.prog 36 #[.agg #[tv,nv],.pointer (some ⟨b,0,none⟩),.int .i64 n] w (DmpPost B' b (acc++s) w)
theorem itoa_any (i:Nat)(h:i<100)(w:World):Calls Tryz.prog 63 #[.int .i64 i] w fun e w'=>e=.returned (.string ⟨(decF i).toArray⟩)∧w'=w:=by
 rw [← dec_digits]
 exact Tryz.strconv_Itoa_small i h w
theorem tree_cells {w:World}{b:Nat}{x y:Value}(h:w.heap[b]?=some (.cells #[x,y] 25 (0,0))):w.cell? ⟨b,0,none⟩=some x∧w.cell? ⟨b,1,none⟩=some y:=by
 constructor <;> (rw [Lib.cell_of_heap h];rfl)
theorem tdump_leaf (B B' b:Nat)(tv nv:Value)(toks:List Tok)(nodes:List Nd)(k u:Nat)(ks:List Int)(acc:List UInt8)(w:World)(h:TreeAt B w (.agg #[tv,nv]) toks nodes)(hBB:B≤B')(hbd:Bld B' b acc w)(hB:B'≤w.heap.size)
  (hn:nodes[k]?=some ⟨19,(u:Nat),ks⟩) (hu:u<toks.length) (hlen:acc.length+(leafDump toks[u]).length≤1099511627776) :
  Calls Tryz.prog 36 #[.agg #[tv,nv],.pointer (some ⟨b,0,none⟩),.int .i64 k] w (DmpPost B' b (acc++leafDump toks[u]) w):=by
 obtain ⟨hi,hni⟩:=List.getElem?_eq_some_iff.1 hn
 obtain ⟨bn,off,cap,kv,rfl,hbn,x0,x1,x2,hkv⟩:=h.node hi
 obtain ⟨b2,off2,cap2,rfl,hb2,t0,t1,t2,t3⟩:=h.tok hu
 obtain ⟨akv,ckv,rfl,-,-⟩:=hkv.form
 rw [hni] at x0 x1 x2
 simp only at x0 x1 x2
 generalize hkl:ks.length=kl at x2
 generalize toks[u]=t at t0 t1 t2 t3 hlen
 obtain ⟨c,x,y,q⟩:=t
 simp only [strV] at t0 t1 t2 t3
 obtain ⟨X,rfl,eX⟩:=bytes_of x
 obtain ⟨Y,rfl,eY⟩:=bytes_of y
 rw [eX] at t1
 rw [eY] at t2
 have hal:=(Below.refl w.heap.size w).alloc (Nat.le_refl _) (.cells #[.slice (some ⟨b2,off2,none⟩) toks.length cap2,.slice (some ⟨bn,off,none⟩) nodes.length cap] 25)
 have hal2:=hal.alloc (by simp) (.cells #[.int .i64 19,.int .i64 (u:Nat),.slice akv kl ckv] 85)
 have hal3:=hal2.alloc (by simp;omega) (.cells #[.int .i64 c,.string X,.string Y,.int .i64 q] 83)
 have hb3:=((hbd.alloc (.cells #[.slice (some ⟨b2,off2,none⟩) toks.length cap2,.slice (some ⟨bn,off,none⟩) nodes.length cap] 25)).alloc (.cells #[.int .i64 19,.int .i64 (u:Nat),.slice akv kl ckv] 85)).alloc (.cells #[.int .i64 c,.string X,.string Y,.int .i64 q] 83)
 have hk3:=(((Lib.OthersKept.refl 5 (some b) w).alloc (.cells #[.slice (some ⟨b2,off2,none⟩) toks.length cap2,.slice (some ⟨bn,off,none⟩) nodes.length cap] 25)).alloc (.cells #[.int .i64 19,.int .i64 (u:Nat),.slice akv kl ckv] 85)).alloc (.cells #[.int .i64 c,.string X,.string Y,.int .i64 q] 83)
 have x0':=(hal.cell (p:=⟨bn,off+k * 3,none⟩) (by show bn<_;omega)).trans x0
 have x1':=(hal.cell (p:=⟨bn,off+k * 3+1,none⟩) (by show bn<_;omega)).trans x1
 have x2':=(hal.cell (p:=⟨bn,off+k * 3+2,none⟩) (by show bn<_;omega)).trans x2
 have y0:=(hal2.cell (p:=⟨b2,off2+u * 4,none⟩) (by show b2<_;omega)).trans t0
 have y1:=(hal2.cell (p:=⟨b2,off2+u * 4+1,none⟩) (by show b2<_;omega)).trans t1
 have y2:=(hal2.cell (p:=⟨b2,off2+u * 4+2,none⟩) (by show b2<_;omega)).trans t2
 have y3:=(hal2.cell (p:=⟨b2,off2+u * 4+3,none⟩) (by show b2<_;omega)).trans t3
 have i1:(k:Int)<(nodes.length:Int):=by omega
 have i2:(u:Int)<(toks.length:Int):=by omega
 simp only [leafDump,List.length_append,size_list] at hlen
 clear t0 t1 t2 t3 x0 x1 x2 hn hni h hkv hal hal2 hi eX eY
 have hk4:((((w.alloc (.cells #[.slice (some ⟨b2,off2,none⟩) toks.length cap2,.slice (some ⟨bn,off,none⟩) nodes.length cap] 25)).alloc (.cells #[.int .i64 19,.int .i64 (u:Nat),.slice akv kl ckv] 85)).alloc (.cells #[.int .i64 c,.string X,.string Y,.int .i64 q] 83))).heap[w.heap.size+1+1]?=some (.cells #[.int .i64 c,.string X,.string Y,.int .i64 q] 83 (0,0)):=by
  have:=heap_alloc_new ((w.alloc (.cells #[.slice (some ⟨b2,off2,none⟩) toks.length cap2,.slice (some ⟨bn,off,none⟩) nodes.length cap] 25)).alloc (.cells #[.int .i64 19,.int .i64 (u:Nat),.slice akv kl ckv] 85)) (.cells #[.int .i64 c,.string X,.string Y,.int .i64 q] 83)
  rw [World.size_alloc,World.size_alloc] at this
  exact this
 by_cases h5:c=5
 ·have h5I:((c:Int) == 5)=true:=by simp;omega
  rw [if_pos h5] at hlen
  have H5:=Lib.hid h5
  clear h5
  simp only [List.length_cons,List.length_nil] at hlen
  go_enter Tryz.func36,Tryz.ntmps36
  go_upto_region 6 with (go_at_call 40;refine (write_any B' b acc ⟨#[36]⟩ _ hb3 (by show acc.length+1≤140737488355328;omega) (by simp;omega)).mono ?_;rintro e w4 ⟨rfl,hb4,hl4,ho4⟩)
  have z4:=hb3.block ho4 hk4 (by decide) (by decide)
  have z2:w4.cell? ⟨w.heap.size+1+1,2,none⟩=some (.string Y):=by rw [Lib.cell_of_heap z4];rfl
  have hz4:=hl4.size
  simp only [World.size_alloc] at hz4
  clear z4 hb3 hk4
  go_wp2_with (go_at_call 40;refine (write_any B' b _ Y _ hb4 (by have e:(ByteArray.mk #[36]).data.toList.length=1:=rfl;rw [List.length_append,e];omega) (by omega)).mono ?_;rintro e w5 ⟨rfl,hb5,hl5,ho5⟩)
  go_end0
  refine ⟨rfl,?_,(hal3.mono hB).trans (hl4.trans hl5),hk3.trans (ho4.trans ho5)⟩
  rw [leafDump,if_pos H5.out,← List.append_assoc]
  exact hb5
 ·have h5I:((c:Int) == 5)=false:=by simp;omega
  rw [if_neg h5] at hlen
  simp only [List.length_nil] at hlen
  go_enter Tryz.func36,Tryz.ntmps36
  go_wp2_with (go_at_call 40;(refine (write_any B' b acc Y _ hb3 (by omega) (by simp;omega)).mono ?_;rintro e w4 ⟨rfl,hb4,hl4,ho4⟩))
  go_end0
  refine ⟨rfl,?_,(hal3.mono hB).trans hl4,hk3.trans ho4⟩
  rw [leafDump,if_neg h5,List.nil_append]
  exact hb4
theorem tdump_node (B B' b:Nat)(tv nv:Value)(toks:List Tok)(nodes:List Nd)(g k kd:Nat)(tk:Int)(ks:List Int)(s acc:List UInt8)(w:World)(h:TreeAt B w (.agg #[tv,nv]) toks nodes)(hBB:B≤B')(hbd:Bld B' b acc w)(hB:B'≤w.heap.size)
  (IH:TdDoes B B' b tv nv toks nodes g) (hn:nodes[k]?=some ⟨kd,tk,ks⟩) (hkd:kd<100) (hk19:kd≠19) (hks:ks.length≤1000000) (hs:dumpKids (dumpM toks nodes g) ks=some s) (hlen:acc.length+([40]++decF kd++s++[41]).length≤1099511627776) :
  Calls Tryz.prog 36 #[.agg #[tv,nv],.pointer (some ⟨b,0,none⟩),.int .i64 k] w (DmpPost B' b (acc++([40]++decF kd++s++[41])) w):=by
 obtain ⟨hi,hni⟩:=List.getElem?_eq_some_iff.1 hn
 obtain ⟨at_,ct,an,cn,hv⟩:=h.slices
 obtain ⟨bn,off,cap,kv,rfl,hbn,x0,x1,x2,hkv⟩:=h.node hi
 simp only [Value.agg.injEq,Array.mk.injEq,List.cons.injEq,and_true] at hv
 obtain ⟨rfl,-⟩:=hv
 obtain ⟨akv,ckv,rfl,-,hkf⟩:=hkv.form
 rw [hni] at x0 x1 x2 hkf
 simp only at x0 x1 x2 hkf
 have hal:=(Below.refl w.heap.size w).alloc (Nat.le_refl _) (.cells #[.slice at_ toks.length ct,.slice (some ⟨bn,off,none⟩) nodes.length cap] 25)
 have hal2:=hal.alloc (by simp) (.cells #[.int .i64 kd,.int .i64 tk,.slice akv ks.length ckv] 85)
 have hb2:=(hbd.alloc (.cells #[.slice at_ toks.length ct,.slice (some ⟨bn,off,none⟩) nodes.length cap] 25)).alloc (.cells #[.int .i64 kd,.int .i64 tk,.slice akv ks.length ckv] 85)
 have hk2:=((Lib.OthersKept.refl 5 (some b) w).alloc (.cells #[.slice at_ toks.length ct,.slice (some ⟨bn,off,none⟩) nodes.length cap] 25)).alloc (.cells #[.int .i64 kd,.int .i64 tk,.slice akv ks.length ckv] 85)
 have x0':=(hal.cell (p:=⟨bn,off+k * 3,none⟩) (by show bn<_;omega)).trans x0
 have x1':=(hal.cell (p:=⟨bn,off+k * 3+1,none⟩) (by show bn<_;omega)).trans x1
 have x2':=(hal.cell (p:=⟨bn,off+k * 3+2,none⟩) (by show bn<_;omega)).trans x2
 have i1:(k:Int)<(nodes.length:Int):=by omega
 have hkI:((kd:Int) == 19)=false:=by simp;omega
 have e2:=heap_alloc_new (w.alloc (.cells #[.slice at_ toks.length ct,.slice (some ⟨bn,off,none⟩) nodes.length cap] 25)) (.cells #[.int .i64 kd,.int .i64 tk,.slice akv ks.length ckv] 85)
 rw [World.size_alloc] at e2
 have e1:=(Lib.alloc_old (w.alloc (.cells #[.slice at_ toks.length ct,.slice (some ⟨bn,off,none⟩) nodes.length cap] 25)) (.cells #[.int .i64 kd,.int .i64 tk,.slice akv ks.length ckv] 85) w.heap.size (by simp)).trans (heap_alloc_new w (.cells #[.slice at_ toks.length ct,.slice (some ⟨bn,off,none⟩) nodes.length cap] 25))
 obtain ⟨DG,hDG,eDG⟩:=bytes_of (decF kd)
 have HIT:Hid (∀ W,Calls Tryz.prog 63 #[.int .i64 kd] W fun e w'=>e=.returned (.string DG)∧w'=W):=Lib.hid fun W=>(itoa_any kd hkd W).mono fun e w' h=>⟨by rw [h.1,← hDG,← eDG,← hDG],h.2⟩
 rw [← hDG] at hlen ⊢
 simp only [List.length_append,size_list,List.length_cons,List.length_nil] at hlen
 have HT:=Lib.hid h
 have HKF:=Lib.hid hkf
 have HS:=Lib.hid hs
 have hD0:(ByteArray.mk #[40]++DG).data.toList=[40]++DG.data.toList:=by simp
 clear x0 x1 x2 hn hni h hkv hal hi hkf hk19 hkd hDG eDG hs hbd
 go_enter Tryz.func36,Tryz.ntmps36
 go_upto_region 8 with (first|(go_at_call 63;refine (HIT.out _).mono ?_;rintro e w3 ⟨rfl,rfl⟩)|(go_at_call 40;refine (write_any B' b acc (ByteArray.mk #[40]++DG) _ hb2 (by rw [← size_list,hD0];simp;omega) (by simp;omega)).mono ?_;rintro e w4 ⟨rfl,hb4,hl4,ho4⟩))
 have hbB:Below B' w w4:=(hal2.mono hB).trans hl4
 have hk4:=hk2.trans ho4
 have T4:=hb2.block ho4 e1 (by decide) (by decide)
 have N4:=hb2.block ho4 e2 (by decide) (by decide)
 have q2:w4.cell? ⟨w.heap.size+1,2,none⟩=some (.slice akv ks.length ckv):=by rw [Lib.cell_of_heap N4];rfl
 rw [hD0] at hb4
 clear hb2 hl4 ho4 e1 e2 N4 hk2 hal2 HIT hD0 x0' x1' x2' i1 hkI
 have hab:(acc++([40]++DG.data.toList))++s=acc++([40]++DG.data.toList)++s:=rfl
 generalize hA:acc++([40]++DG.data.toList)=A at hb4 hab
 have hAl:A.length+s.length+1≤1099511627776:=by
  rw [← hA]
  simp only [List.length_append,size_list,List.length_cons,List.length_nil]
  omega
 have HA:Hid (acc++([40]++DG.data.toList++s++[41])=A++s++[41]):=Lib.hid (by rw [← hA];simp)
 clear hA hlen hab
 go_wp2
 go_loopw [42] (fun q wr=>∃ (j:Nat) (a r:List UInt8),j≤ks.length∧q=.int .i64 j∧dumpKids (dumpM toks nodes g) (ks.drop j)=some r∧a++r=A++s∧Bld B' b a wr∧wr.heap[w.heap.size]?=some (.cells #[.slice at_ toks.length ct,.slice (some ⟨bn,off,none⟩) nodes.length cap] 25 (0,0))∧Below B' w wr∧Lib.OthersKept 5 (some b) w wr) (fun q _=>ks.length - (intOf q).toNat)
 case atStart=>exact ⟨0,A,s,Nat.zero_le _,rfl,HS.out,rfl,hb4,T4,hbB,hk4⟩
 case round =>
  obtain ⟨j,a,r,hj,rfl,hr,har,hbd,hT,hbl,hok⟩:=hrel
  have hz:=hbl.size
  have hlt0:=(Array.getElem?_eq_some_iff.1 hT).1
  have hal:=congrArg List.length har
  rw [List.length_append,List.length_append] at hal
  obtain ⟨c0,c1⟩:=tree_cells hT
  by_cases hjl:j<ks.length
  ·obtain ⟨bk,offk,rfl,hbk,hcell⟩:=HKF.out (by omega)
   have hx:=(hbl.cell (p:=⟨bk,offk+j,none⟩) (by show bk<_;omega)).trans (hcell j hjl)
   rw [List.drop_eq_getElem_cons hjl,dumpKids] at hr
   generalize ks[j]=k1 at hx hr
   obtain ⟨s1,h1,hr⟩:=Option.bind_eq_some_iff.1 hr
   obtain ⟨s2,h2,hr⟩:=Option.bind_eq_some_iff.1 hr
   injection hr with hr
   rw [← hr] at har hal
   simp only [List.length_append,List.length_cons,List.length_nil] at hal
   have hjI:(j:Int)<(ks.length:Int):=by omega
   have H2:=Lib.hid h2
   have HR:Hid (a++[32]++s1++s2=A++s):=Lib.hid (by rw [← har];simp)
   have HT1:=Lib.hid (fun W (hW:Below B' w W)=>(HT.out.below (hW.mono hBB)))
   have H1:=Lib.hid h1
   have HTT:=Lib.hid hT
   clear hcell hr har h1 h2 hT
   go_upto_region 12 with (go_at_call 40;refine (write_any B' b a ⟨#[32]⟩ _ hbd (by show a.length+1≤140737488355328;omega) (by omega)).mono ?_;rintro e w5 ⟨rfl,hb5,hl5,ho5⟩)
   have T5:=hbd.block ho5 HTT.out (by decide) (by decide)
   obtain ⟨d0,d1⟩:=tree_cells T5
   have hz5:=hl5.size
   have hbl5:=hbl.trans hl5
   have hC:=IH k1 s1 _ w5 (HT1.out w5 hbl5) hBB hb5 (by omega) H1.out (by
    rw [List.length_append]
    have e:(ByteArray.mk #[32]).data.toList.length=1:=rfl
    rw [e]
    omega)
   have HC:=Lib.hid hC
   have hok5:=hok.trans ho5
   have HB5:=Lib.hid hb5
   clear hC c0 c1 hbd hl5 ho5 hok hb5
   go_wp2_with (go_at_call 36;refine HC.out.mono ?_;rintro e w6 ⟨rfl,hb6,hl6,ho6⟩)
   refine ⟨⟨j+1,_,s2,by omega,by go_num,H2.out,HR.out,hb6,?_,hbl5.trans hl6,hok5.trans ho6⟩,by simp [intOf];omega⟩
   exact HB5.out.block ho6 T5 (by decide) (by decide)
  ·obtain rfl:j=ks.length:=by omega
   have hjI:decide ((ks.length:Int)<(ks.length:Int))=false:=decide_eq_false (by omega)
   rw [List.drop_length,dumpKids] at hr
   injection hr with hr
   rw [← hr,List.append_nil] at har
   have HR:=Lib.hid har
   clear hr har HS
   go_wp2_with (go_at_call 40;refine (write_any B' b a ⟨#[41]⟩ _ hbd (by show a.length+1≤140737488355328;omega) (by omega)).mono ?_;rintro e w5 ⟨rfl,hb5,hl5,ho5⟩)
   go_end0
   refine ⟨rfl,?_,hbl.trans hl5,hok.trans ho5⟩
   show Bld B' b (acc++([40]++DG.data.toList++s++[41])) w5
   rw [HA.out,← HR.out]
   exact hb5
structure GoodT (toks:List Tok) (nodes:List Nd) (D:List UInt8):Prop where
 pos:0<nodes.length
 few:nodes.length≤1000000
 kids:∀ n∈nodes,n.kids.length≤1000000
 fewt:toks.length≤1000000
 right:rightB toks.length nodes (tokR 0 toks.length)=true
 leaves:leavesM nodes (nodes.length+1) [((nodes.length:Nat):Int) - 1] []=some (tokR 0 toks.length)
 dump:dumpM toks nodes nodes.length ((nodes.length:Int) - 1)=some D
 dlen:D.length≤1099511627776
 kinds:∀ n∈nodes,0≤n.kind∧n.kind<100
 leafs:∀ n∈nodes,n.kind=19→0≤n.tok∧n.tok<(toks.length:Int)
theorem tdump_any {toks:List Tok}{nodes:List Nd}{D:List UInt8}(G:GoodT toks nodes D)(B B' b:Nat)(tv nv:Value):∀ g,TdDoes B B' b tv nv toks nodes g
 | 0=>fun n s acc w h hBB hbd hB hs hlen=>by rw [dumpM] at hs;cases hs
 | g+1=>fun n s acc w h hBB hbd hB hs hlen=>by
  rw [dumpM] at hs
  by_cases h0:n<0
  ·rw [if_pos h0] at hs;cases hs
  rw [if_neg h0] at hs
  obtain ⟨k,rfl⟩:∃ k:Nat,n=(k:Int):=⟨n.toNat,by omega⟩
  rw [Int.toNat_natCast] at hs
  cases hn:nodes[k]? with
  | none=>rw [hn] at hs;cases hs
  | some x =>
   rw [hn] at hs
   simp only at hs
   have hm:=List.mem_of_getElem? hn
   obtain ⟨kind,tok,ks⟩:=x
   have hkd:=G.kinds _ hm
   simp only at hkd hs
   by_cases h19:kind=19
   ·rw [if_pos h19] at hs
    subst h19
    have hl:=G.leafs _ hm rfl
    simp only at hl
    rw [if_neg (by omega)] at hs
    obtain ⟨u,rfl⟩:∃ u:Nat,tok=(u:Int):=⟨tok.toNat,by omega⟩
    have hul:u<toks.length:=by omega
    rw [Int.toNat_natCast,List.getElem?_eq_getElem hul,Option.map_some] at hs
    injection hs with hs
    subst hs
    exact tdump_leaf B B' b tv nv toks nodes k u ks acc w h hBB hbd hB hn hul hlen
   ·rw [if_neg h19] at hs
    obtain ⟨kd,rfl⟩:∃ kd:Nat,kind=(kd:Int):=⟨kind.toNat,by omega⟩
    rw [Int.toNat_natCast] at hs
    obtain ⟨r,hr,rfl⟩:=Option.map_eq_some_iff.1 hs
    exact tdump_node B B' b tv nv toks nodes g k kd tok ks r acc w h hBB hbd hB (tdump_any G B B' b tv nv g) hn (by omega) (by omega) (G.kids _ hm) hr hlen
end Go.Proofs.YtemkhbmkaalgdaaGreatDoor

namespace Go.Proofs.YtemkhbmkaalgdaaGreatDoor
theorem text_few {S:List UInt8}{toks:List Tok}(h:lexAll S=.ok toks)(u:Nat):(textAt toks u).length≤S.length:=by
 have hL:=lexAll_laid h
 have hm:=peek_mem hL.some u
 obtain ⟨i,hi,e⟩:=List.mem_iff_getElem.1 hm
 have h1:=congrArg List.length (hL.text i hi)
 rw [List.length_take,List.length_drop] at h1
 unfold textAt
 rw [← e]
 omega
structure FGood (S:List UInt8) (toks:List Tok) (nodes:List Nd) (ce:CE):Prop where
 small:S.length≤65536
 lexed:lexAll S=.ok toks
 nodes_eq:nodes=(aloneT ce).em 0 0
 okk:ce.ok toks true 0
 lv:ce.pt.lv+1=toks.length
 good:GoodT toks nodes ((aloneT ce).dump toks 0)
 whole:wholeF toks=S
 deep:formF S 200=.good toks nodes
 fits:(ce.pe toks 0).fits 65536
 told:(ce.pe toks 0).told
 few:(ce.pe toks 0).sizeG≤200000
theorem form_good_of {S:List UInt8}{d:Nat}{toks:List Tok}{nodes:List Nd}{ce:CE}(hd:d≤200)(h:formF S d=.good toks nodes)(hl:lexAll S=.ok toks)(he:nodes=(aloneT ce).em 0 0)(hok:ce.ok toks true 0)(hlv:ce.pt.lv+1=toks.length)(hn:nodes.length≤2 * toks.length+2):FGood S toks nodes ce:=by
 have hs:S.length≤65536:=by
  unfold lexAll at hl
  split at hl
  ·cases hl
  ·omega
 have hL:=lexAll_laid hl
 have hc:=hL.count
 have hw:(aloneT ce).wf:=by
  rw [aloneT,PT.wf,wfL,wfL,wfL,PT.wf]
  exact ⟨by omega,by omega,CE.wf ce,trivial,trivial⟩
 have hlv2:(aloneT ce).lv=toks.length:=by
  rw [aloneT,PT.lv,lvL,lvL,lvL,PT.lv]
  omega
 have hnd:nodes.length=(aloneT ce).nd:=by rw [he,PT.em_len]
 have hnp:=(aloneT ce).nd_pos
 have hM:∀ u,(textAt toks u).length≤65536:=fun u=>Nat.le_trans (text_few hl u) hs
 have hdl:=tdump_len hM (aloneT ce) 0 hw
 have hN:=lexAll_nums hl
 have hsz:=CE.sizeG_le toks ce 0
 have hnd2:(aloneT ce).nd=ce.pt.nd+1+1:=by rw [aloneT,PT.nd,ndL,ndL,ndL,PT.nd]
 refine ⟨hs,hl,he,hok,hlv,⟨by omega,by omega,fun n hm=>?_,by omega,?_,?_,?_,?_,fun n hm=>?_,fun n hm h19=>?_⟩,hL.whole_eq,formF_deeper hd h,CE.fits hL.some hN hM (by omega) ce 0 hok,CE.told (lexAll_numsOk hl) ce 0 hok,by omega⟩
 ·rw [he] at hm
  have:=em_kids _ _ _ n hm
  omega
 ·rw [he];exact right_em _ hw _ hlv2
 ·rw [hnd,he,leaves_em _ hw (by omega),hlv2]
 ·rw [hnd,he];exact dump_em toks _ hw (by omega)
 ·have:(aloneT ce).nd * (65536+16)≤200000 * (65536+16):=Nat.mul_le_mul_right _ (by omega)
  omega
 ·rw [he] at hm
  exact (em_kinds _ _ _ hw n hm).1
 ·rw [he] at hm
  have:=(em_kinds _ _ _ hw n hm).2 h19
  omega
theorem goodT_of {S:List UInt8}{toks:List Tok}{nodes:List Nd}{t:PT}(hl:lexAll S=.ok toks)(he:nodes=t.em 0 0)(hw:t.wf)(hlv:t.lv=toks.length)(hn:nodes.length≤2 * toks.length+2):GoodT toks nodes (t.dump toks 0):=by
 have hs:S.length≤65536:=by
  unfold lexAll at hl
  split at hl
  ·cases hl
  ·omega
 have hL:=lexAll_laid hl
 have hc:=hL.count
 have hnd:nodes.length=t.nd:=by rw [he,PT.em_len]
 have hnp:=t.nd_pos
 have hM:∀ u,(textAt toks u).length≤65536:=fun u=>Nat.le_trans (text_few hl u) hs
 have hdl:=tdump_len hM t 0 hw
 refine ⟨by omega,by omega,fun n hm=>?_,by omega,?_,?_,?_,?_,fun n hm=>?_,fun n hm h19=>?_⟩
 ·rw [he] at hm
  have:=em_kids _ _ _ n hm
  omega
 ·rw [he];exact right_em _ hw _ hlv
 ·rw [hnd,he,leaves_em _ hw (by omega),hlv]
 ·rw [hnd,he];exact dump_em toks _ hw (by omega)
 ·have:t.nd * (65536+16)≤200000 * (65536+16):=Nat.mul_le_mul_right _ (by omega)
  omega
 ·rw [he] at hm
  exact (em_kinds _ _ _ hw n hm).1
 ·rw [he] at hm
  have:=(em_kinds _ _ _ hw n hm).2 h19
  omega
structure PGood (S:List UInt8) (toks:List Tok) (nodes:List Nd) (p:PgS):Prop where
 small:S.length≤65536
 lexed:lexAll S=.ok toks
 nodes_eq:nodes=p.pt.em 0 0
 okk:p.ok toks
 lv:p.pt.lv=toks.length
 count:toks.length≤S.length+1
 nd:p.pt.nd≤2 * toks.length
 good:GoodT toks nodes (p.pt.dump toks 0)
 whole:wholeF toks=S
 deep:progF S 200=.good toks nodes
 fits:(p.pp toks).all (PE.fits (S.length+1))
 told:(p.pp toks).all PE.told
 few:(p.pp toks).all fun e=>e.sizeG≤p.pt.nd
 psmall:(p.pp toks).small (S.length+1)
theorem prog_good {S:List UInt8}{d:Nat}{toks:List Tok}{nodes:List Nd}(hd:d≤200)(h:progF S d=.good toks nodes):∃ p,PGood S toks nodes p:=by
 obtain ⟨hl,p,he,hok,hlv,hn⟩:=progF_good h
 have hs:S.length≤65536:=by
  unfold lexAll at hl
  split at hl
  ·cases hl
  ·omega
 have hL:=lexAll_laid hl
 have hM:∀ u,(textAt toks u).length≤S.length+1:=fun u=>Nat.le_succ_of_le (text_few hl u)
 have hN:=lexAll_nums hl
 have hnd:nodes.length=p.pt.nd:=by rw [he,PT.em_len]
 refine ⟨p,hs,hl,he,hok,hlv,hL.count,by omega,goodT_of hl he p.wf hlv (by omega),hL.whole_eq,progF_deeper hd h,PgS.all_pp (fun cl e u ho _=>CE.fits hL.some hN hM (by omega) e u ho) hok,PgS.all_pp (fun cl e u ho _=>CE.told (lexAll_numsOk hl) e u ho) hok,PgS.all_pp (fun cl e u ho hn=>Nat.le_trans (CE.sizeG_le toks e u) hn) hok,PgS.pp_small hM hok⟩
theorem PP.all_imp {P Q R T:PE→Prop}{p:PP}(h1:p.all P)(h2:p.all Q)(h3:p.all R)(h:∀ e,P e→Q e→R e→T e):p.all T:=fun d hd =>
 ⟨fun f hf e he=>h e ((h1 d hd).1 f hf e he) ((h2 d hd).1 f hf e he) ((h3 d hd).1 f hf e he),fun e he=>h e ((h1 d hd).2.1 e he) ((h2 d hd).2.1 e he) ((h3 d hd).2.1 e he),h _ (h1 d hd).2.2 (h2 d hd).2.2 (h3 d hd).2.2⟩
theorem PGood.dumps {S:List UInt8}{toks:List Tok}{nodes:List Nd}{p:PgS}(h:PGood S toks nodes p)(hs:S.length≤1500):(p.pp toks).all (dumpK 20000000):=by
 refine PP.all_imp h.fits h.told h.few fun e h1 h2 h3=>?_
 have h4:=dumpT_len e h1
 rw [PE.dump_told h2] at h4
 have h5:=h.nd
 have h6:=h.count
 have h7:e.sizeG * (3 * (S.length+1)+30)≤3002 * (3 * (S.length+1)+30):=Nat.mul_le_mul_right _ (by omega)
 unfold dumpK
 omega
theorem PGood.dump_len {S:List UInt8}{toks:List Tok}{nodes:List Nd}{p:PgS}(h:PGood S toks nodes p)(hs:S.length≤1500):(p.pp toks).dump.length≤20000000000:=by
 obtain ⟨K,hK⟩:∃ K,K=20000000:=⟨_,rfl⟩
 have hd:=h.dumps hs
 rw [← hK] at hd
 have:=PP.dump_len h.psmall hd
 clear hd
 generalize (p.pp toks).dump.length=n at this ⊢
 generalize S.length=m at *
 subst hK
 exact Nat.le_trans this (by omega)
theorem PGood.erase_len {S:List UInt8}{toks:List Tok}{nodes:List Nd}{p:PgS}(h:PGood S toks nodes p)(hs:S.length≤1500):(p.pp toks).erase.dump.length≤20000000000:=by
 obtain ⟨K,hK⟩:∃ K,K=20000000:=⟨_,rfl⟩
 have hd:=h.dumps hs
 rw [← hK] at hd
 have:=PP.dump_len h.psmall.erase (PP.all_erase hd)
 clear hd
 generalize (p.pp toks).erase.dump.length=n at this ⊢
 generalize S.length=m at *
 subst hK
 exact Nat.le_trans this (by omega)
end Go.Proofs.YtemkhbmkaalgdaaGreatDoor

namespace Go.Proofs.YtemkhbmkaalgdaaGreatDoor
open Go.RowKit Go
def Wd (P:Nat→Prop)(w:World)(m:Value)(ws:List Nat):Prop:=SlP P w m 1 ws.length (ws.map fun d=>.int .u32 (d:Nat))
theorem Wd.form {P:Nat→Prop}{w:World}{m:Value}{ws:List Nat}(h:Wd P w m ws):∃ ao cap,m=.slice ao ws.length cap∧ws.length≤cap ∧
  (0<ws.length→∃ b off,ao=some ⟨b,off,none⟩∧P b∧b<w.heap.size∧∀ j,(hj:j<ws.length)→w.cell? ⟨b,off+j,none⟩=some (.int .u32 (ws[j]:Nat))):=by
 obtain ⟨ao,cap,hv,hn,hl,hc⟩:=h
 refine ⟨ao,cap,hv,hn,fun h0=>?_⟩
 obtain ⟨b,off,ha,hP,hlt,hcell⟩:=hc h0
 exact ⟨b,off,ha,hP,hlt,fun j hj=>by rw [hcell j (by simpa using hj)];simp⟩
theorem Wd.take {P:Nat→Prop}{w:World}{ao:Option Addr}{cap k:Nat}{ws:List Nat}(h:Wd P w (.slice ao ws.length cap) ws)(hk:k≤ws.length):Wd P w (.slice ao k cap) (ws.take k):=by
 obtain ⟨ao',cap',hv,hn,hl,hc⟩:=h
 simp only [Value.slice.injEq] at hv
 obtain ⟨rfl,_,rfl⟩:=hv
 have hlen:(ws.take k).length=k:=by rw [List.length_take];omega
 refine ⟨ao,cap,by rw [hlen],by omega,by simp,fun h0=>?_⟩
 obtain ⟨b,off,ha,hP,hlt,hcell⟩:=hc (by omega)
 refine ⟨b,off,ha,hP,hlt,fun j hj=>?_⟩
 simp only [List.length_map] at hj
 rw [hcell j (by simp only [List.length_map];omega)]
 simp
theorem trimW_at (ws:List Nat)(k:Nat)(hk:k≤ws.length)(h0:∀ j,k≤j→(h:j<ws.length)→ws[j]=0)(h1:∀ j,j+1=k→(h:j<ws.length)→ws[j]≠0):(trimW ws).length=k∧ws.take k=trimW ws:=by
 obtain ⟨n,n1,n2,n3,n4⟩:=trimW_take ws
 have:n=k:=by
  rcases Nat.lt_trichotomy n k with h|h|h
  ·exact absurd (n3 (k - 1) (by omega) (by omega)) (h1 (k - 1) (by omega) (by omega))
  ·exact h
  ·exact absurd (h0 (n - 1) (by omega) (by omega)) (n4 (n - 1) (by omega) (by omega))
 subst this
 exact ⟨by rw [n2,List.length_take];omega,n2.symm⟩
theorem ztrim_any (P:Nat→Prop)(ao:Option Addr)(cap:Nat)(ws:List Nat)(w:World)(h:Wd P w (.slice ao ws.length cap) ws)(hn:ws.length≤1099511627776) :
  Calls Tryz.prog 75 #[.slice ao ws.length cap] w fun e w'=>e=.returned (.slice ao (trimW ws).length cap)∧w'=w:=by
 obtain ⟨ao',cap',hv,hc1,hf⟩:=h.form
 simp only [Value.slice.injEq] at hv
 obtain ⟨rfl,-,rfl⟩:=hv
 have HF:=Lib.hid hf
 clear hf h
 go_enter Tryz.func75,Tryz.ntmps75
 go_wp2
 go_loop [3] (fun q=>∃ k:Nat,k≤ws.length∧q=.int .i64 k∧∀ j,k≤j→(hj:j<ws.length)→ws[j]=0) (fun q=>(intOf q).toNat)
 case atStart=>exact ⟨ws.length,Nat.le_refl _,rfl,fun j h1 h2=>absurd h2 (by omega)⟩
 case round =>
  obtain ⟨k,hk,rfl,h0⟩:=hrel
  have H0:=Lib.hid h0
  clear h0
  by_cases hk0:k=0
  ·subst hk0
   obtain ⟨t1,_⟩:=trimW_at ws 0 (Nat.zero_le _) H0.out (fun j hj=>by omega)
   have HT:=Lib.hid t1
   clear t1
   go_wp2
   go_ret
   exact ⟨by rw [HT.out];rfl,rfl⟩
  ·obtain ⟨k',rfl⟩:∃ k',k=k'+1:=⟨k - 1,by omega⟩
   obtain ⟨b,off,rfl,_,_,hcell⟩:=HF.out (by omega)
   have hx:=hcell k' (by omega)
   have hw:(((k'+1:Nat):Int) - 1)=(k':Int):=by omega
   have hkI:(k':Int)<(ws.length:Int):=by omega
   have hpos:(0:Int)<((k'+1:Nat):Int):=by omega
   by_cases hz:ws[k']=0
   ·have HZ:=Lib.hid hz
    rw [hz] at hx
    clear hz hcell
    go_wp2
    go_round
    case rel=>exact ⟨k',by omega,by go_num,fun j h1 h2=>by
     rcases Nat.lt_or_ge k' j with h|h
     ·exact H0.out j h h2
     ·obtain rfl:j=k':=by omega
      exact HZ.out⟩
    case measure=>simp [intOf]
   ·have hz1:((ws[k']:Int) == 0)=false:=by simpa using hz
    have hz2:∀ j,j+1=k'+1→(h:j<ws.length)→ws[j]≠0:=fun j hj hj2=>by
     have e:j=k':=by omega
     subst e
     exact hz
    obtain ⟨t1,_⟩:=trimW_at ws (k'+1) hk H0.out hz2
    clear hz2
    have HT:=Lib.hid t1
    clear t1 hz hcell
    generalize ws[k']=d at hx hz1
    have hkc:((k'+1:Nat):Int)≤(cap:Int):=by omega
    go_wp2
    go_ret
    exact ⟨by rw [HT.out];rfl,rfl⟩
theorem Tryz.infoU32:(Tryz.prog.info? 175).map (fun i=>(i.zero,i.size,i.bytes))=some (some (.int .u32 0),1,4):=by kernel_rfl
theorem take_of {α:Type}{l t:List α}{k:Nat}{r:α}(h:l=l.take k++r :: t)(hk:(l.take k).length=k):l.take (k+1)=l.take k++[r]∧l=l.take (k+1)++t:=by
 have h1:l.take (k+1)=l.take k++[r]:=by
  conv=>lhs;rw [h]
  rw [List.take_append,hk,List.take_of_length_le (by omega),Nat.add_sub_cancel_left,List.take_succ_cons,List.take_zero]
 exact ⟨h1,by rw [h1,List.append_assoc];exact h⟩
theorem word_cast (c x b:Nat):((c:Int)+(x:Int) * (b:Int)) % 4294967296=(((c+x * b) % 4294967296:Nat):Int)∧((c:Int)+(x:Int) * (b:Int)) / 4294967296=(((c+x * b) / 4294967296:Nat):Int):=by
 rw [← Int.natCast_mul]
 generalize x * b=y
 omega
def WPost (ws:List Nat)(w:World)(e:Ending)(w':World):Prop:=∃ v,e=.returned v∧w'.ownsRow w.heap.size 175 1 v ws.length (ws.map fun d=>.int .u32 (d:Nat))∧Below w.heap.size w w'
theorem scale_any (P:Nat→Prop)(m:Value)(ws:List Nat)(by_ more:Nat)(w:World)(h:Wd P w m ws)(hw:∀ x∈ws,x<4294967296)(hb:by_≤1000000000)(hm:more≤1000000000)(hn:ws.length≤1000) :
  Calls Tryz.prog 76 #[m,.int .u64 by_,.int .u64 more] w (WPost (scaleF by_ ws more) w):=by
 obtain ⟨i0,hi,hz0,hz1,hz2⟩:=info_parts Tryz.infoU32
 obtain ⟨ao,cap,rfl,hc1,hf⟩:=h.form
 have HF:=Lib.hid hf
 have HW:=Lib.hid hw
 clear hf h hw
 obtain ⟨wm,hmk,hown0,hgr0⟩:=run_make_own (P:=Tryz.prog) w w.heap.size 35 175 i0 (.int .u32 0) 1 Tryz.underlying35 hi hz0 hz1 .i64 .i64 (ws.length+1) (by rw [hz2];omega) (by unfold maxLen;omega) (Nat.le_refl _)
 rw [show (((ws.length+1:Nat)):Int)=(ws.length:Int)+1 by omega] at hmk
 have hbm:Below w.heap.size w wm:=(Below.refl _ _).grown hgr0 (Nat.le_refl _) (fun k hk=>by cases hk)
 clear hgr0
 go_enter Tryz.func76,Tryz.ntmps76
 go_wp2
 clear hmk
 go_loopw [2,7,16] (fun mv v q wr=>∃ k c:Nat,k≤ws.length∧q=.int .i64 k∧mv=.int .u64 c∧c≤1000000000∧wr.ownsRow w.heap.size 175 1 v k (((scaleF by_ ws more).take k).map fun d=>.int .u32 (d:Nat))∧scaleF by_ ws more=(scaleF by_ ws more).take k++scaleF by_ (ws.drop k) c∧Below w.heap.size w wr) (fun _ _ q _=>ws.length - (intOf q).toNat)
 case atStart=>exact ⟨0,more,Nat.zero_le _,rfl,rfl,hm,hown0,by simp,hbm⟩
 case round =>
  obtain ⟨k,c,hk,rfl,rfl,hc,hown,heq,hbl⟩:=hrel
  have hz:=hbl.size
  by_cases hlt:k<ws.length
  ·obtain ⟨b,off,rfl,_,hb',hcell⟩:=HF.out (by omega)
   have hx:=(hbl.cell (p:=⟨b,off+k,none⟩) hb').trans (hcell k hlt)
   have hxw:=HW.out ws[k] (List.getElem_mem hlt)
   have hkI:(k:Int)<(ws.length:Int):=by omega
   have hdr:ws.drop k=ws[k] :: ws.drop (k+1):=List.drop_eq_getElem_cons hlt
   rw [hdr,scaleF] at heq
   generalize ws[k]=x at hx hxw heq
   have hcar:=carry_le hxw hb hc
   have hE:=Lib.hid heq
   clear heq hcell hdr
   have hlt2:((scaleF by_ ws more).take k).length=k:=by rw [List.length_take,scaleF_len];omega
   have HL:=Lib.hid hlt2
   clear hlt2
   go_wp2_with (at_builtin;refine wpList_append_own _ rfl _ _ 35 rfl w.heap.size 175 i0 (.int .u32 0) 1 4 Tryz.underlying35 hi hz0 hz1 hz2 rfl (by decide) _ _ _ rfl (hown.alloc _) ⟨wr.heap.size,0,none⟩ 1 1 [.int .u32 (((c:Int)+(x:Int) * (by_:Int)) % 4294967296)] rfl rfl ?c1 ?c2 ?c3 ?c4 ?c5 ?_)
   case c1 =>
    intro j' u hj'
    exact World.news_of_block (cs:=#[.int .u32 (((c:Int)+(x:Int) * (by_:Int)) % 4294967296)]) (t:=175) (fr:=(0,0)) (heap_alloc_new wr _) j' u (by simpa using hj')
   case c2=>simp [Value.oneCell']
   case c3=>unfold maxLen;omega
   case c4=>omega
   case c5=>simp;omega
   intro v' w2 hown2 hgrow2 _
   have hb2:Below w.heap.size w w2:=(hbl.alloc hz _).grown hgrow2 (by simp;omega) (fun q hq=>by have:=(hown.lt q hq).1;omega)
   have H2:=Lib.hid hown2
   clear hgrow2 hown2 hown
   go_wp2
   go_roundw
   case rel =>
    refine ⟨k+1,(c+x * by_) / 4294967296,by omega,by go_num,?_,hcar.2,?_,?_,hb2⟩
    ·rw [(word_cast c x by_).2]
    ·rw [(take_of hE.out HL.out).1,List.map_append,List.map_singleton,← (word_cast c x by_).1,List.map_take]
     exact H2.out
    ·exact (take_of hE.out HL.out).2
   case measure=>simp [intOf];omega
  ·have hkl:k=ws.length:=by omega
   subst hkl
   rw [List.drop_length,scaleF] at heq
   have hlt2:((scaleF by_ ws more).take ws.length).length=ws.length:=by rw [List.length_take,scaleF_len];omega
   have hfin:=(take_of heq hlt2).1
   rw [List.take_of_length_le (by rw [scaleF_len];exact Nat.le_refl _)] at hfin
   have HE:=Lib.hid hfin
   clear hfin hlt2 heq
   generalize (scaleF by_ ws more).take ws.length=acc at hown HE
   go_wp2_with (at_builtin;refine wpList_append_own _ rfl _ _ 35 rfl w.heap.size 175 i0 (.int .u32 0) 1 4 Tryz.underlying35 hi hz0 hz1 hz2 rfl (by decide) _ _ _ rfl (hown.alloc _) ⟨wr.heap.size,0,none⟩ 1 1 [.int .u32 (c:Int)] rfl rfl ?e1 ?e2 ?e3 ?e4 ?e5 ?_)
   case e1 =>
    intro j' u hj'
    exact World.news_of_block (cs:=#[.int .u32 (c:Int)]) (t:=175) (fr:=(0,0)) (heap_alloc_new wr _) j' u (by simpa using hj')
   case e2=>simp [Value.oneCell']
   case e3=>unfold maxLen;omega
   case e4=>omega
   case e5=>simp;omega
   intro v' w2 hown2 hgrow2 _
   have hb2:Below w.heap.size w w2:=(hbl.alloc hz _).grown hgrow2 (by simp;omega) (fun q hq=>by have:=(hown.lt q hq).1;omega)
   have H2:=Lib.hid hown2
   clear hgrow2 hown2 hown
   go_wp2
   go_ret
   refine ⟨v',rfl,?_,hb2⟩
   rw [HE.out,List.map_append,List.map_singleton,Nat.mod_eq_of_lt (show c<4294967296 by omega),← Nat.mod_eq_of_lt (show c<4294967296 by omega),← HE.out,scaleF_len,Nat.mod_eq_of_lt (show c<4294967296 by omega)]
   exact H2.out
end Go.Proofs.YtemkhbmkaalgdaaGreatDoor
