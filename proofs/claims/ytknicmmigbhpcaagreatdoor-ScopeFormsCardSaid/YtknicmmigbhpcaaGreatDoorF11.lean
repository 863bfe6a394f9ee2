/- Walks and plain laws: ShowPlain, ShowA, ReadW1, ReadW2, ParseW7, ParseW8. -/
import Derived.Test.YtknicmmigbhpcaaGreatDoorF09
import Derived.Test.YtknicmmigbhpcaaGreatDoorF10
set_option maxHeartbeats 16000000
set_option maxRecDepth 100000
set_option linter.unusedVariables false
set_option linter.unusedSimpArgs false
namespace Go.Proofs.YtknicmmigbhpcaaGreatDoor
inductive PZ where
 | mk (op:Int) (name module:List UInt8) (num:Int) (yes:Bool) (kids:List PZ) (at_:Int)
def PZ.op:PZ→Int | .mk o _ _ _ _ _ _=>o
def PZ.name:PZ→List UInt8 | .mk _ n _ _ _ _ _=>n
def PZ.module:PZ→List UInt8 | .mk _ _ m _ _ _ _=>m
def PZ.num:PZ→Int | .mk _ _ _ n _ _ _=>n
def PZ.yes:PZ→Bool | .mk _ _ _ _ y _ _=>y
def PZ.kids:PZ→List PZ | .mk _ _ _ _ _ k _=>k
def PZ.at_:PZ→Int | .mk _ _ _ _ _ _ a=>a
def aR (w:List UInt8):Bool:=match bH w with
 | .ok [t,_]=>decide (t.kind=1) && decide (t.text=w)
 | _=>false
def FQ (op:Int):Int :=
 if op=5 then 8 else if op=6 then 4 else if op=7∨op=8 then 6 else if 9≤op∧op≤11 then 7 else if 12≤op∧op≤17 then 5
 else if op=18 then 3 else if op=19 then 2 else if op=20 then 1 else if 21≤op∧op≤23 then 0 else 9
def tY (op:Int):Int:=if FQ op=5 then 6 else if FQ op=1 then 2 else FQ op
def xU (op:Int):Int:=if FQ op=1 then 1 else FQ op+1
def countB (op:Int)(n:Nat):Bool :=
 if op≤4 then decide (n=0) else if op≤6 then decide (n=1) else if op≤20∨op=22∨op=23 then decide (n=2) else if op=21 then decide (n=3) else decide (n≤8)
def mJ (op:Int)(nm md:List UInt8):Bool :=
 if op=3∨op=22 then aR nm && decide (md=[]) else if op=24 then aR nm && (decide (md=[]) || aR md) else decide (nm=[]) && decide (md=[])
def qd (op num:Int)(yes:Bool):Bool :=
 if op=1 then decide (0≤num) && decide ((jf num).length≤60) && !yes else decide (num=0) && (decide (op=2) || !yes)
def Si (fm:Bool)(op:Int):Bool:=if fm=true then decide (op≤20) else decide (op≠4)
def QC (fm:Bool)(op:Int)(nm md:List UInt8)(num:Int)(yes:Bool)(n:Nat):Bool :=
 decide (1≤op) && decide (op≤24) && Si fm op && mJ op nm md && qd op num yes && countB op n
mutual
def PZ.right (fm:Bool):PZ→Bool
 | .mk op nm md num yes kids _=>QC fm op nm md num yes kids.length && ny fm kids
def ny (fm:Bool):List PZ→Bool
 | []=>true
 | e :: l=>e.right fm && ny fm l
end
def qP (op:Int):List UInt8:=([[43],[45],[42],[47],[37],[61],[60,62],[60],[60,61],[62],[62,61],[38,38],[124,124],[61,62]]:List (List UInt8)).getD (op.toNat - 7) []
def pO (least:Int)(k:Int × List UInt8):List UInt8:=if FQ k.1<least then [40]++k.2++[41] else k.2
def bB:List (List UInt8)→List UInt8
 | []=>[]
 | [t]=>t
 | t :: s :: l=>t++[44,32]++bB (s :: l)
def mq (op:Int)(nm md:List UInt8)(num:Int)(yes:Bool)(ks:List (Int × List UInt8)):List UInt8 :=
 if op=1 then jf num
 else if op=2 then (if yes=true then [116,114,117,101] else [102,97,108,115,101])
 else if op=3 then nm
 else if op=4 then [114,101,115]
 else if op=5 then [45]++pO 9 (ks.getD 0 (0,[]))
 else if op=6 then [110,111,116,32]++pO 4 (ks.getD 0 (0,[]))
 else if op=21 then [105,102,32]++(ks.getD 0 (0,[])).2++[32,116,104,101,110,32]++(ks.getD 1 (0,[])).2++[32,101,108,115,101,32]++(ks.getD 2 (0,[])).2
 else if op=22 then [108,101,116,32]++nm++[32,61,32]++(ks.getD 0 (0,[])).2++[32,105,110,32]++(ks.getD 1 (0,[])).2
 else if op=23 then [97,115,115,101,114,116,32]++(ks.getD 0 (0,[])).2++[32,105,110,32]++(ks.getD 1 (0,[])).2
 else if op=24 then (if md=[] then [] else md++[46])++nm++[40]++bB (ks.map Prod.snd)++[41]
 else pO (tY op) (ks.getD 0 (0,[]))++[32]++qP op++[32]++pO (xU op) (ks.getD 1 (0,[]))
mutual
def PZ.text:PZ→List UInt8
 | .mk op nm md num yes kids _=>mq op nm md num yes (gX kids)
def gX:List PZ→List (Int × List UInt8)
 | []=>[]
 | e :: l=>(e.op,e.text) :: gX l
end
theorem PZ.FR (fm:Bool)(e:PZ):e.right fm=(QC fm e.op e.name e.module e.num e.yes e.kids.length && ny fm e.kids):=by cases e;rw[PZ.right];rfl
theorem PZ.nI (e:PZ):e.text=mq e.op e.name e.module e.num e.yes (gX e.kids):=by cases e;rw[PZ.text];rfl
theorem tZ {fm:Bool}:∀ {l:List PZ},ny fm l=true↔∀ e∈l,e.right fm=true
 | []=>by simp[ny]
 | e :: l=>by rw[ny,Bool.and_eq_true,tZ];simp
theorem oP:∀ l:List PZ,gX l=l.map fun e=>(e.op,e.text)
 | []=>rfl
 | e :: l=>by rw[gX,oP l];rfl
theorem kH {l:List PZ}{i:Nat}(h:i<l.length):(gX l).getD i (0,[])=(l[i].op,l[i].text):=by
 rw[oP,List.getD_eq_getElem?_getD,List.getElem?_map,List.getElem?_eq_getElem h];rfl
mutual
def PE.z:PE→PZ
 | .mk op nm md num _ yes kids a=>.mk op nm md num yes (QD kids) a
def QD:List PE→List PZ
 | []=>[]
 | e :: l=>e.z :: QD l
end
theorem H9:∀ l:List PE,QD l=l.map PE.z
 | []=>rfl
 | e :: l=>by rw[QD,H9 l];rfl
end Go.Proofs.YtknicmmigbhpcaaGreatDoor

namespace Go.Proofs.YtknicmmigbhpcaaGreatDoor
open Go.RowKit Go
theorem FT (a:List UInt8)(s:ByteArray):(a == s.toList)=decide (a=s.data.toList):=by
 rw[Go.ByteArray.toList_eq]
 by_cases h:a=s.data.toList
 ·rw[decide_eq_true h,beq_iff_eq];exact h
 ·rw[decide_eq_false h,← Bool.not_eq_true,beq_iff_eq];exact h
theorem KT (k:Nat):((k:Int) == 1)=decide (k=1):=by
 by_cases h:k=1
 ·subst h;rfl
 ·rw[decide_eq_false h];exact beq_eq_false_iff_ne.2 (by omega)
theorem Cq {s:List UInt8}{l:List Tok}(h:bH s=.ok l)(hl:l.length≠2):aR s=false:=by
 unfold aR;rw[h]
 match l,hl with
 | [],_=>rfl
 | [_],_=>rfl
 | [_,_],h=>exact absurd rfl h
 | _ :: _ :: _ :: _,_=>rfl
theorem kI (s:ByteArray)(w:World)(hs:s.size≤1099511627776) :
  Calls Tryz.prog 48 #[.string s] w fun e w'=>e=.returned (.bool (aR s.data.toList))∧Below w.heap.size w w':=by
 have hL:=Hf s w hs;unfold Qx at hL
 cases hl:bH s.data.toList with
 | error x =>
  rw[hl] at hL
  have hp:aR s.data.toList=false:=by unfold aR;rw[hl]
  have h0:((x.1:Int) == 0)=false:=beq_eq_false_iff_ne.2 (by have:=(om hl).2;omega);rw[hp];have HL:=ah hL;clear hl hp hL;go_enter Tryz.func48,Tryz.ntmps48;go_wp2_with (go_at_call 74;refine HL.out.mono ?_;rintro e w1 ⟨hb1,rfl⟩);go_ret;exact⟨rfl,hb1.trans ((aj w1 _).mono hb1.size)⟩
 | ok l =>
  rw[hl] at hL
  by_cases h2:l.length=2
  ·match l,h2 with
   | [t,u],_ =>
    have hp:aR s.data.toList=(decide (t.kind=1) && decide (t.text=s.data.toList)):=by unfold aR;rw[hl]
    rw[hp];have HL:=ah hL;clear hl hp hL;have hk1:=KT t.kind;have hs1:=FT t.text s;generalize decide (t.kind=1)=kb at hk1 ⊢;generalize decide (t.text=s.data.toList)=tb at hs1 ⊢;go_enter Tryz.func48,Tryz.ntmps48
    go_upto_region 2 with (go_at_call 74;refine HL.out.mono ?_;rintro e w1 ⟨hb1,v,rfl,hv⟩;obtain⟨ao,cap,rfl,hcap,hf⟩:=hv.form (fun _=>rfl);obtain⟨b,off,rfl,hb,hcell⟩:=hf (by simp);have hal:=aj w1 (.cells #[.int .i64 0,.int .i64 0] 75);have x0:=(hal.cell (p:=⟨b,off,none⟩) hb).trans (by simpa using hcell 0 0 _ (by simp) rfl);have x2:=(hal.cell (p:=⟨b,off+2,none⟩) hb).trans (by simpa using hcell 0 2 _ (by simp) rfl))
    clear hcell hf hv
    cases kb<;>cases tb<;>(go_wp2;go_ret;exact⟨rfl,hb1.trans (hal.mono hb1.size)⟩)
  ·have hp:=Cq hl h2
   have h2I:((l.length:Int) == 2)=false:=beq_eq_false_iff_ne.2 (by omega);rw[hp];have HL:=ah hL;clear hl hp hL h2;go_enter Tryz.func48,Tryz.ntmps48;go_wp2_with (go_at_call 74;refine HL.out.mono ?_;rintro e w1 ⟨hb1,v,rfl,hv⟩;obtain⟨ao,cap,rfl,hcap,hf⟩:=hv.form (fun _=>rfl);clear hf hv);go_ret;exact⟨rfl,hb1.trans ((aj w1 _).mono hb1.size)⟩
theorem Oc (s:ByteArray)(w:World)(hs:s.size≤1099511627776) :
  Calls Tryz.prog 44 #[.string s] w fun e w'=>e=.returned (.bool (aR s.data.toList))∧Below w.heap.size w w':=by
 have hL:=Ob s w hs;unfold KS at hL
 cases hl:bH s.data.toList with
 | error x =>
  rw[hl] at hL
  have hp:aR s.data.toList=false:=by unfold aR;rw[hl]
  have h0:((x.1:Int) == 0)=false:=beq_eq_false_iff_ne.2 (by have:=(om hl).2;omega);rw[hp];have HL:=ah hL;clear hl hp hL;go_enter Tryz.func44,Tryz.ntmps44;go_wp2_with (go_at_call 72;refine HL.out.mono ?_;rintro e w1 ⟨hb1,rfl⟩);go_ret;exact⟨rfl,hb1⟩
 | ok l =>
  rw[hl] at hL
  by_cases h2:l.length=2
  ·match l,h2 with
   | [t,u],_ =>
    have hp:aR s.data.toList=(decide (t.kind=1) && decide (t.text=s.data.toList)):=by unfold aR;rw[hl]
    rw[hp];have HL:=ah hL;clear hl hp hL;have hk1:=KT t.kind;have hs1:=FT t.text s;generalize decide (t.kind=1)=kb at hk1 ⊢;generalize decide (t.text=s.data.toList)=tb at hs1 ⊢;go_enter Tryz.func44,Tryz.ntmps44
    go_upto_region 2 with (go_at_call 72;refine HL.out.mono ?_;rintro e w1 ⟨hb1,v,rfl,hv⟩;obtain⟨ao,cap,rfl,hcap,hf⟩:=hv.form (fun _=>rfl);obtain⟨b,off,rfl,hb,hcell⟩:=hf (by simp);have x0:w1.cell? ⟨b,off,none⟩=_:=(by simpa using hcell 0 0 _ (by simp) rfl);have x2:w1.cell? ⟨b,off+2,none⟩=_:=(by simpa using hcell 0 2 _ (by simp) rfl))
    clear hcell hf hv
    cases kb<;>cases tb<;>(go_wp2;go_ret;exact⟨rfl,hb1⟩)
  ·have hp:=Cq hl h2
   have h2I:((l.length:Int) == 2)=false:=beq_eq_false_iff_ne.2 (by omega);rw[hp];have HL:=ah hL;clear hl hp hL h2;go_enter Tryz.func44,Tryz.ntmps44;go_wp2_with (go_at_call 72;refine HL.out.mono ?_;rintro e w1 ⟨hb1,v,rfl,hv⟩;obtain⟨ao,cap,rfl,hcap,hf⟩:=hv.form (fun _=>rfl);clear hf hv);go_ret;exact⟨rfl,hb1⟩
end Go.Proofs.YtknicmmigbhpcaaGreatDoor

namespace Go.Proofs.YtknicmmigbhpcaaGreatDoor
open Go.RowKit
theorem mH.Od {nodes:List Nd}{n:Int}{u:Nat}(h:mH nodes n u .leaf):∃ i:Nat,n=i∧nodes[i]?=some ⟨19,(u:Nat),[]⟩:=by
 rw[mH] at h;exact⟨n.toNat,by omega,h.2⟩
theorem aO.tok {B:Nat}{w:World}{tv nv:Value}{toks:List Tok}{nodes:List Nd}(h:aO B w (.agg #[tv,nv]) toks nodes){u:Nat}(hu:u<toks.length) :
  ∃ b off cap,tv=.slice (some ⟨b,off,none⟩) toks.length cap∧b<B∧w.cell? ⟨b,off+u * 4,none⟩=some (.int .i64 toks[u].kind)∧w.cell? ⟨b,off+u * 4+1,none⟩=some (dM toks[u].lead)∧w.cell? ⟨b,off+u * 4+2,none⟩=some (dM toks[u].text)∧w.cell? ⟨b,off+u * 4+3,none⟩=some (.int .i64 toks[u].place):=by
 obtain⟨tv',nv',l,h1,h2,h3,h4,h5⟩:=h
 obtain⟨rfl,rfl⟩:tv=tv'∧nv=nv':=by simpa using h1
 obtain⟨ao,cap,rfl,_,hf⟩:=h2.form (fun _=>rfl);obtain⟨b,off,rfl,hb,hc⟩:=hf (by omega);exact⟨b,off,cap,rfl,hb,hc u 0 _ hu rfl,hc u 1 _ hu rfl,hc u 2 _ hu rfl,hc u 3 _ hu rfl⟩
def nT (t:Tok):Value:=.agg #[.int .i64 t.kind,dM t.lead,dM t.text,.int .i64 t.place]
theorem jN (B:Nat)(tv nv:Value)(toks:List Tok)(nodes:List Nd)(i u:Nat)(w:World)(h:aO B w (.agg #[tv,nv]) toks nodes)(_hB:B≤w.heap.size)(hn:nodes[i]?=some ⟨19,(u:Nat),[]⟩)(hu:u<toks.length) :
  Calls Tryz.prog 67 #[.agg #[tv,nv],.int .i64 i] w fun e w'=>e=.returned (nT toks[u])∧Below w.heap.size w w':=by
 obtain⟨hi,hni⟩:=nY hn;obtain⟨b,off,cap,kv,rfl,hb,_,x1,_,_⟩:=h.node hi;obtain⟨b2,off2,cap2,rfl,hb2,t0,t1,t2,t3⟩:=h.tok hu;rw[hni] at x1;simp only at x1;generalize toks[u]=t at t0 t1 t2 t3;obtain⟨c,x,y,q⟩:=t;simp only[dM] at t0 t1 t2 t3;have hal:=((Below.refl w.heap.size w).alloc (Nat.le_refl _) (.cells #[.slice (some ⟨b2,off2,none⟩) toks.length cap2,.slice (some ⟨b,off,none⟩) nodes.length cap] 132)).alloc (by simp) (.cells #[.int .i64 0,.string ⟨#[]⟩,.string ⟨#[]⟩,.int .i64 0] 136);have x1':=cell_later hal x1;have y0:=cell_later hal t0;have y1:=cell_later hal t1;have y2:=cell_later hal t2;have y3:=cell_later hal t3
 have i1:(i:Int)<(nodes.length:Int):=by omega
 have i2:(u:Int)<(toks.length:Int):=by omega
 have hnr:((w.alloc (.cells #[.slice (some ⟨b2,off2,none⟩) toks.length cap2,.slice (some ⟨b,off,none⟩) nodes.length cap] 132)).alloc (.cells #[.int .i64 0,.string ⟨#[]⟩,.string ⟨#[]⟩,.int .i64 0] 136)).heap[w.heap.size]?=some (.cells #[.slice (some ⟨b2,off2,none⟩) toks.length cap2,.slice (some ⟨b,off,none⟩) nodes.length cap] 132 (0,0)):=(Lib.alloc_old _ _ _ (by simp)).trans (heap_alloc_new w _);have hnw:=heap_alloc_new (w.alloc (.cells #[.slice (some ⟨b2,off2,none⟩) toks.length cap2,.slice (some ⟨b,off,none⟩) nodes.length cap] 132)) (.cells #[.int .i64 0,.string ⟨#[]⟩,.string ⟨#[]⟩,.int .i64 0] 136);rw[World.size_alloc] at hnw;clear t0 t1 t2 t3 x1 hn hni h;go_enter Tryz.func67,Tryz.ntmps67;go_wp2;generalize (w.alloc _).alloc _=w1 at hnr hnw hal x1' y0 y1 y2 y3 ⊢
 have r0:w1.cell? ⟨w.heap.size,0,none⟩=some (.slice (some ⟨b2,off2,none⟩) toks.length cap2):=by rw[Lib.cell_of_heap hnr];rfl
 have r1:w1.cell? ⟨w.heap.size,1,none⟩=some (.slice (some ⟨b,off,none⟩) nodes.length cap):=by rw[Lib.cell_of_heap hnr];rfl
 go_still_tail 12,(by kernel_rfl)
 change wpList _ _ _ _ _ w1.drew;have Vn:=hal.drew;have wE:w1.drew.heap[w.heap.size+1]?=some (.cells #[.int .i64 0,.string ⟨#[]⟩,.string ⟨#[]⟩,.int .i64 0] 136 (0,0)):=hnw;generalize w1.drew=w2 at Vn wE ⊢
 have f0:w2.cell? ⟨w.heap.size+1,0,none⟩=some (.int .i64 0):=by rw[Lib.cell_of_heap wE];rfl
 have f1:w2.cell? ⟨w.heap.size+1,1,none⟩=some (.string ⟨#[]⟩):=by rw[Lib.cell_of_heap wE];rfl
 have f2:w2.cell? ⟨w.heap.size+1,2,none⟩=some (.string ⟨#[]⟩):=by rw[Lib.cell_of_heap wE];rfl
 have f3:w2.cell? ⟨w.heap.size+1,3,none⟩=some (.int .i64 0):=by rw[Lib.cell_of_heap wE];rfl
 have z0:∀ j,w2.frozen? ⟨w.heap.size+1,j,none⟩=false:=by intro j;simp[World.frozen?,wE]
 clear hnw wE i1 i2 y0 y1 y2 y3 r0 r1 x1';go_wp2;refine bodyPost_ret (v:=.agg #[.int .i64 c,.string ⟨x.toArray⟩,.string ⟨y.toArray⟩,.int .i64 q]) (by simp[results,Tryz.results67,go_sem,f0,f1,f2,f3]) rfl ⟨rfl,?_⟩;exact(((Vn.setCell (by simp) _).setCell (by simp) _).setCell (by simp) _).setCell (by simp) _
theorem Tryz.Sj (a b c d:Value)(w:World):(Instr.field 136 (.agg #[a,b,c,d]) 2).run Tryz.prog w=.ok c w:=by kernel_rfl
theorem uV (B:Nat)(tv nv:Value)(toks:List Tok)(nodes:List Nd)(i u:Nat)(w:World)(h:aO B w (.agg #[tv,nv]) toks nodes)(hB:B≤w.heap.size)(hn:nodes[i]?=some ⟨19,(u:Nat),[]⟩)(hu:u<toks.length) :
  Calls Tryz.prog 110 #[.agg #[tv,nv],.int .i64 i] w fun e w'=>e=.returned (dM toks[u].text)∧Below w.heap.size w w':=by
 have hb1:=(Below.refl w.heap.size w).alloc (Nat.le_refl _) (.cells #[tv,nv] 132);have HT:=ah (jN B tv nv toks nodes i u _ (h.below (hb1.mono hB)) (by have:=hb1.size;omega) hn hu);obtain⟨a1,c1,a2,c2,e⟩:=h.slices
 obtain⟨rfl,rfl⟩:tv=_∧nv=_:=by simpa using e
 generalize toks[u]=t at HT ⊢
 have hf:=fun w=>Tryz.Sj (.int .i64 t.kind) (dM t.lead) (dM t.text) (.int .i64 t.place) w
 unfold nT at HT;clear h hn e;go_enter Tryz.func110,Tryz.ntmps110;go_wp2_with (go_at_call 67;refine HT.out.mono ?_;rintro e w1 ⟨rfl,hb2⟩);go_ret;exact⟨rfl,hb1.trans (hb2.mono hb1.size)⟩
theorem Tryz.lQ:(Tryz.prog.info? 3).map (fun i=>(i.zero,i.size,i.bytes))=some (some (.int .i64 0),1,8):=by kernel_rfl
theorem KU (nodes:List Nd)(ks:List Int)(k:Int):fU nodes (ks++[k])=fU nodes ks++if (nodes[k.toNat]?.map (·.kind)).getD 19 != 19 then [k] else []:=by
 unfold fU;rw[List.filter_append]
 congr 1
 rw[List.filter_cons,List.filter_nil]
def acy (ks:List Int)(w:World)(e:Ending)(w':World):Prop:=∃ v,e=.returned v∧mo (fun b=>w.heap.size≤b) w' v 1 ks.length (ks.map (Value.int .i64))∧Below w.heap.size w w'
theorem mo.ints {P:Nat→Prop}{w:World}{v:Value}{ks:List Int}(h:mo P w v 1 ks.length (ks.map (Value.int .i64))):∃ ao cap,v=.slice ao ks.length cap∧ks.length≤cap ∧
  (0<ks.length→∃ b off,ao=some ⟨b,off,none⟩∧P b∧b<w.heap.size∧∀ j,(hj:j<ks.length)→w.cell? ⟨b,off+j,none⟩=some (.int .i64 ks[j])):=by
 obtain⟨ao,cap,hv,hn,hl,hc⟩:=h;refine⟨ao,cap,hv,hn,fun h0=>?_⟩;obtain⟨b,off,ha,hP,hlt,hcell⟩:=hc h0;exact⟨b,off,ha,hP,hlt,fun j hj=>by rw[hcell j (by simpa using hj)];simp⟩
theorem Oe (B:Nat)(tv nv:Value)(toks:List Tok)(nodes:List Nd)(i:Nat)(w:World)(h:aO B w (.agg #[tv,nv]) toks nodes)(hB:B≤w.heap.size)(hi:i<nodes.length)
  (hk:∀ k∈nodes[i].kids,0≤k∧k<(nodes.length:Int)) (hl:nodes[i].kids.length≤1099511627776) :
  Calls Tryz.prog 240 #[.agg #[tv,nv],.int .i64 i] w (acy (fU nodes nodes[i].kids) w):=by
 obtain⟨i0,aa5,hz0,hz1,hz2⟩:=info_parts Tryz.lQ;have HT:=ah h;obtain⟨a1,c1,_,_,e⟩:=h.slices;obtain⟨b,off,cap,kv,rfl,hb,_,_,x2,hkv⟩:=h.node hi
 obtain⟨rfl,-⟩:tv=.slice a1 toks.length c1∧_:=by simpa using e
 generalize nodes[i].kids=ks at hk hl hkv ⊢;obtain⟨ak,ck,rfl,_,hf⟩:=hkv.form;have HF:=ah hf;have HK:=ah hk;have hal:=(Below.refl w.heap.size w).alloc (Nat.le_refl _) (.cells #[.slice a1 toks.length c1,.slice (some ⟨b,off,none⟩) nodes.length cap] 132);have x2':=cell_later hal x2;have hnr:=heap_alloc_new w (.cells #[.slice a1 toks.length c1,.slice (some ⟨b,off,none⟩) nodes.length cap] 132)
 have r0:(w.alloc (.cells #[.slice a1 toks.length c1,.slice (some ⟨b,off,none⟩) nodes.length cap] 132)).cell? ⟨w.heap.size,1,none⟩=some (.slice (some ⟨b,off,none⟩) nodes.length cap):=by rw[Lib.cell_of_heap hnr];rfl
 have i1:(i:Int)<(nodes.length:Int):=by omega
 clear hf hk h e hkv x2;go_enter Tryz.func240,Tryz.ntmps240;go_wp2;generalize w.alloc _=w1 at hnr hal r0 x2' ⊢;have hsz1:=hal.size
 go_loopw [5,16] (fun v k wr=>∃ j:Nat,j≤ks.length∧k=.int .i64 j∧wr.ownsRow w.heap.size 3 1 v (fU nodes (ks.take j)).length ((fU nodes (ks.take j)).map (Value.int .i64))∧wr.heap[w.heap.size]?=some (.cells #[.slice a1 toks.length c1,.slice (some ⟨b,off,none⟩) nodes.length cap] 132 (0,0))∧Below w.heap.size w wr) (fun _ k _=>ks.length - (intOf k).toNat)
 case atStart=>exact⟨0,Nat.zero_le _,rfl,World.ownsRow_nil _ _ _ _,hnr,hal⟩
 case round =>
  obtain⟨j,hj,rfl,hown,hrr,hbl⟩:=hrel;have hz:=hbl.size;have hlt:=(bQ hrr).1
  by_cases hjl:j<ks.length
  ·obtain⟨bk,ok,rfl,hbk,hcell⟩:=HF.out (by omega)
   have hx:=(hbl.cell (p:=⟨bk,ok+j,none⟩) (by show bk<_;omega)).trans (hcell j hjl);have hkj:=HK.out ks[j] (List.getElem_mem hjl);have hsn:=KU nodes (ks.take j) ks[j];rw[← List.take_succ_eq_append_getElem hjl] at hsn
   have Ia:(j:Int)<(ks.length:Int):=by omega
   generalize ks[j]=q at hx hkj hsn
   obtain⟨m,rfl⟩:∃ m:Nat,q=(m:Int):=⟨q.toNat,by omega⟩
   have hm:m<nodes.length:=by omega
   obtain⟨b',off',cap',kv',e',_,y0,_,_,_⟩:=HT.out.node hm;simp only[Value.slice.injEq,Option.some.injEq,Addr.mk.injEq,and_true] at e'
   obtain⟨⟨rfl,rfl⟩,rfl⟩:(b=b'∧off=off')∧cap=cap':=by simpa using e'
   have y0':=(hbl.cell (p:=⟨b,off+m * 3,none⟩) (by show b<_;omega)).trans y0
   have hmI:(m:Int)<(nodes.length:Int):=by omega
   have r1:wr.cell? ⟨w.heap.size,1,none⟩=some (.slice (some ⟨b,off,none⟩) nodes.length cap):=by rw[Lib.cell_of_heap hrr];rfl
   have hlen:(fU nodes (ks.take j)).length≤j:=by
    have:=List.length_filter_le (fun k:Int=>(nodes[k.toNat]?.map (·.kind)).getD 19 != 19) (ks.take j);rw[List.length_take] at this;show (List.filter _ _).length≤j;omega
   simp only[Int.toNat_natCast,List.getElem?_eq_getElem hm,Option.map_some,Option.getD_some] at hsn;generalize nodes[m].kind=kd at y0' hsn;clear y0 hcell e'
   by_cases hd:kd=19
   ·subst hd
    simp only[bne_self_eq_false,Bool.false_eq_true,if_false,List.append_nil] at hsn;have HS:=ah hsn;clear hsn;go_wp2
    go_roundw
    case rel=>exact⟨j+1,by omega,by go_num,by rw[HS.out];exact hown,hrr,hbl⟩
    case measure=>simp[intOf];omega
   ·have hd1:(kd != 19)=true:=by simp[hd]
    have hd2:(kd == 19)=false:=by simp[hd]
    rw[hd1] at hsn;simp only[if_true] at hsn;have HS:=ah hsn;clear hsn;generalize fU nodes (ks.take j)=acc at hown hlen HS;go_wp2_with (at_builtin;refine wpList_append_own _ rfl _ _ 51 rfl w.heap.size 3 i0 (.int .i64 0) 1 8 Tryz.underlying51 aa5 hz0 hz1 hz2 rfl (by decide) _ _ _ rfl (hown.alloc _) ⟨wr.heap.size,0,none⟩ 1 1 [.int .i64 m] rfl rfl ?c1 ?c2 ?c3 ?c4 ?c5 ?_)
    case c1 =>
     intro j' u hj';have:=World.news_of_block (cs:=#[.int .i64 (m:Int)]) (t:=3) (fr:=(0,0)) (heap_alloc_new wr _) j' u (by simpa using hj');exact this
    case c2=>simp[Value.oneCell']
    case c3=>unfold maxLen;omega
    case c4=>omega
    case c5=>simp;omega
    intro v' w2 hown2 hgrow2 _;have hb2:Below w.heap.size w w2:=(hbl.alloc hz _).grown hgrow2 (by simp;omega) (fun q hq=>by have:=(hown.lt q hq).1;omega);have Sk:=gZ (hown.alloc _) hgrow2 ((Lib.alloc_old wr (.cells #[.int .i64 m] 3) _ hlt).trans hrr) (by decide);have H2:=ah hown2;clear hgrow2 hown2 hown;go_wp2
    go_roundw
    case rel=>exact⟨j+1,by omega,by go_num,by rw[HS.out,bC,List.map_append];exact H2.out,Sk,hb2⟩
    case measure=>simp[intOf];omega
  ·have:j=ks.length:=by omega
   subst this;rw[List.take_length] at hown;have Ia:decide ((ks.length:Int)<(ks.length:Int))=false:=decide_eq_false (by omega);go_wp2;go_ret;exact⟨_,rfl,mo.eP hown (fun b hb=>hb),hbl⟩
theorem Sm (E:aW)(hE:E.ok)(g:Nat)(ih:AX E g)(nest:Nat)(st:aB)(r:Int × aB)(w:World)(h:run E.toks E.depth (g+1) (.expr nest) st=some r)(hw:PW E st w)(hn:r.2.nodes.length+1≤1099511627776)(aa6:nest≤E.depth+1) :
  Calls Tryz.prog 172 #[.pointer (some ⟨E.pb,0,none⟩),.int .i64 nest] w (dL E r w):=by
 have sW:=hE.2.2;have HD:=ah (Cg E hE nest st w hw)
 have hnd:(aN E.toks E.depth nest st).fE=0→nest≤E.depth:=fun q=>by
  unfold aN at q
  split at q
  ·exact(lI (by decide) _ q).elim
  ·omega
 rw[run] at h;generalize aN E.toks E.depth nest st=s at HD h hnd
 by_cases hf:s.fE=0
 ·rw[if_neg (by simp[hf])] at h
  have VA:=hnd hf;have hok:okB s=true:=decide_eq_true hf;have HD':Hid (Calls Tryz.prog 233 #[.pointer (some ⟨E.pb,0,none⟩),.int .i64 nest] w (qO E s false w)):=ah (HD.out.mono fun e w' ⟨he,hp⟩=>⟨by rw[he,hok];rfl,hp⟩);clear HD hnd hok
  by_cases hcl:s.clause=true
  ·rw[if_pos hcl] at h
   have HI:=ah (fun w' hp=>ih _ _ _ w' h hp hn VA);clear h;go_enter Tryz.func172,Tryz.ntmps172;go_wp2_with (go_at_call 233;refine HD'.out.mono ?_);rintro e w1 ⟨rfl,hp1,hk1⟩;obtain⟨_,_,c2,_,_,_⟩:=hp1.cells;rw[hcl] at c2;clear hcl;go_wp2_with (go_at_call 234;refine(HI.out _ hp1).mono ?_);rintro e w2 ⟨rfl,hp2,hk2⟩;go_wp2;go_ret;exact⟨rfl,hp2,hk1.trans hk2⟩
  ·rw[if_neg hcl] at h
   have hcl':s.clause=false:=by simpa using hcl
   clear hcl
   have hHI:∀ (t:Task) (st:aB) (r:Int × aB),run E.toks E.depth g t st=some r→r.2.nodes.length+1≤1099511627776→wF E t→∀ w,PW E st w→mI E r w t:=fun t st r h1 h2 h3 w h4=>ih t st r w h1 h4 h2 h3
   have ex:=aP E.toks E.depth g
   have fin:∀ a b:aB,dB a b→b.nodes.length+1≤1099511627776→a.nodes.length+1≤1099511627776:=fun a b h1 h2=>by have:=h1.2.2.2;omega
   have N1:=ah (fun w hp=>tV E hE ⟨#[108,101,116]⟩ s w hp);have N2:=ah (fun w hp=>tV E hE ⟨#[105,102]⟩ s w hp);have N3:=ah (fun w hp=>tV E hE ⟨#[97,115,115,101,114,116]⟩ s w hp)
   by_cases hl:aV E.toks s [acg]=true
   ·rw[if_pos hl] at h
    have e1:aV E.toks s [(⟨#[108,101,116]⟩:ByteArray).data.toList]=true:=hl;obtain⟨d,h1,h⟩:=bP h;obtain⟨f,h2,h⟩:=bP h
    injection h with h;subst h
    have n6:=fin _ _ (aD _ _ _) hn;have n5:=fin _ _ (ex _ _ _ h2) n6;have n4:=fin _ _ (aF _ _ _) n5;have n3:=fin _ _ (ex _ _ _ h1) n4;have n2:=fin _ _ (aF _ _ _) n3;have n1:=fin _ _ (dZ _ _ _) n2;have n0:=fin _ _ (aI _ _) n1;have C1:=ah (fun w hp=>bI E s w hp hE.1 hE.2.1 n0);have C2:=ah (fun w hp=>qN E hE 1 (ay E.toks s).2 w hp n1);have C3:=ah (fun w hp=>dN E hE ⟨#[61]⟩ (aQ E.toks 1 (ay E.toks s).2).2 w hp n2);have C4:=ah (hHI _ _ _ h1 n4 (by show nest+1≤_;omega));have C5:=ah (fun w hp=>dN E hE ⟨#[105,110]⟩ d.2 w hp n4);have C6:=ah (hHI _ _ _ h2 n6 (by show nest+1≤_;omega));have C7:=ah (fun w hp=>iE E 7 [(ay E.toks s).1,(aQ E.toks 1 (ay E.toks s).2).1,(aA E.toks [[61]] (aQ E.toks 1 (ay E.toks s).2).2).1,d.1,(aA E.toks [UJ] d.2).1,f.1] 6 _ f.2 w hp rfl rfl (by omega) n6);have E1:=ah e1;clear h1 h2 hl e1 n0 n1 n2 n3 n4 n5 n6 hHI ex fin ih hn;go_enter Tryz.func172,Tryz.ntmps172;go_wp2_with (go_at_call 233;refine HD'.out.mono ?_);rintro e w1 ⟨rfl,hp1,hk1⟩;obtain⟨_,_,c2,_,_,_⟩:=hp1.cells;rw[hcl'] at c2;go_wp2_with (go_at_call 165;refine(N1.out w1 hp1).mono ?_);rintro e w2 ⟨rfl,hp2,hk2⟩;rw[E1.out];obtain⟨d0,_,_,_,_,_⟩:=hp2.cells;clear c2;go_wp2_with (go_at_call 167;refine(C1.out w2 hp2).mono ?_);rintro e w3 ⟨rfl,hp3,hk3⟩;go_wp2_with (go_at_call 107;refine(C2.out w3 hp3).mono ?_);rintro e w4 ⟨rfl,oC,hk4⟩;go_wp2_with (go_at_call 168;refine(C3.out w4 oC).mono ?_);rintro e w5 ⟨rfl,rV,hk5⟩;go_wp2_with (go_at_call 172;refine(C4.out w5 rV).mono ?_);rintro e w6 ⟨rfl,Cr,tC⟩;go_wp2_with (go_at_call 168;refine(C5.out w6 Cr).mono ?_);rintro e w7 ⟨rfl,EP,Bo⟩;go_wp2_with (go_at_call 172;refine(C6.out w7 EP).mono ?_);rintro e w8 ⟨rfl,Sn,A9⟩;go_wp2_with (go_at_call 106;refine(C7.out w8 Sn).mono ?_);rintro e w9 ⟨rfl,Zm,VB⟩;go_wp2;go_ret;exact⟨rfl,Zm,((((((hk1.trans hk2).trans hk3).trans hk4).trans hk5).trans tC).trans Bo).trans (A9.trans VB)⟩
   ·rw[if_neg hl] at h
    have e1:aV E.toks s [(⟨#[108,101,116]⟩:ByteArray).data.toList]=false:=eq_false_of_ne_true hl;clear hl
    by_cases hi:aV E.toks s [tIf]=true
    ·rw[if_pos hi] at h
     have e2:aV E.toks s [(⟨#[105,102]⟩:ByteArray).data.toList]=true:=hi;obtain⟨b,h0,h⟩:=bP h;obtain⟨d,h1,h⟩:=bP h;obtain⟨f,h2,h⟩:=bP h
     injection h with h;subst h
     have n6:=fin _ _ (aD _ _ _) hn;have n5:=fin _ _ (ex _ _ _ h2) n6;have n4:=fin _ _ (aF _ _ _) n5;have n3:=fin _ _ (ex _ _ _ h1) n4;have n2:=fin _ _ (aF _ _ _) n3;have n1:=fin _ _ (ex _ _ _ h0) n2;have n0:=fin _ _ (aI _ _) n1;have C1:=ah (fun w hp=>bI E s w hp hE.1 hE.2.1 n0);have C2:=ah (hHI _ _ _ h0 n2 (by show nest+1≤_;omega));have C3:=ah (fun w hp=>dN E hE ⟨#[116,104,101,110]⟩ b.2 w hp n2);have C4:=ah (hHI _ _ _ h1 n4 (by show nest+1≤_;omega));have C5:=ah (fun w hp=>dN E hE ⟨#[101,108,115,101]⟩ d.2 w hp n4);have C6:=ah (hHI _ _ _ h2 n6 (by show nest+1≤_;omega));have C7:=ah (fun w hp=>iE E 8 [(ay E.toks s).1,b.1,(aA E.toks [Fw] b.2).1,d.1,(aA E.toks [Fx] d.2).1,f.1] 6 _ f.2 w hp rfl rfl (by omega) n6);have E1:=ah e1;have E2:=ah e2;clear h0 h1 h2 hi e1 e2 n0 n1 n2 n3 n4 n5 n6 hHI ex fin ih hn;go_enter Tryz.func172,Tryz.ntmps172;go_wp2_with (go_at_call 233;refine HD'.out.mono ?_);rintro e w1 ⟨rfl,hp1,hk1⟩;obtain⟨_,_,c2,_,_,_⟩:=hp1.cells;rw[hcl'] at c2;go_wp2_with (go_at_call 165;refine(N1.out w1 hp1).mono ?_);rintro e w2 ⟨rfl,hp2,hk2⟩;rw[E1.out];obtain⟨_,_,d2,_,_,_⟩:=hp2.cells;rw[hcl'] at d2;clear c2;go_wp2_with (go_at_call 165;refine(N2.out w2 hp2).mono ?_);rintro e w3 ⟨rfl,hp3,hk3⟩;rw[E2.out];obtain⟨d0,_,_,_,_,_⟩:=hp3.cells;clear d2;go_wp2_with (go_at_call 167;refine(C1.out w3 hp3).mono ?_);rintro e w4 ⟨rfl,oC,hk4⟩;go_wp2_with (go_at_call 172;refine(C2.out w4 oC).mono ?_);rintro e w5 ⟨rfl,rV,hk5⟩;go_wp2_with (go_at_call 168;refine(C3.out w5 rV).mono ?_);rintro e w6 ⟨rfl,Cr,tC⟩;go_wp2_with (go_at_call 172;refine(C4.out w6 Cr).mono ?_);rintro e w7 ⟨rfl,EP,Bo⟩;go_wp2_with (go_at_call 168;refine(C5.out w7 EP).mono ?_);rintro e w8 ⟨rfl,Sn,A9⟩;go_wp2_with (go_at_call 172;refine(C6.out w8 Sn).mono ?_);rintro e w9 ⟨rfl,Zm,VB⟩;go_wp2_with (go_at_call 106;refine(C7.out w9 Zm).mono ?_);rintro e kW ⟨rfl,Zn,hk10⟩;go_wp2;go_ret
     exact⟨rfl,Zn,((((((((hk1.trans hk2).trans hk3).trans hk4).trans hk5).trans tC).trans Bo).trans A9).trans VB).trans hk10⟩
    ·rw[if_neg hi] at h
     have e2:aV E.toks s [(⟨#[105,102]⟩:ByteArray).data.toList]=false:=eq_false_of_ne_true hi;clear hi
     by_cases ha:aV E.toks s [Qs]=true
     ·rw[if_pos ha] at h
      have e3:aV E.toks s [(⟨#[97,115,115,101,114,116]⟩:ByteArray).data.toList]=true:=ha;obtain⟨b,h0,h⟩:=bP h;obtain⟨d,h1,h⟩:=bP h
      injection h with h;subst h
      have n4:=fin _ _ (aD _ _ _) hn;have n3:=fin _ _ (ex _ _ _ h1) n4;have n2:=fin _ _ (aF _ _ _) n3;have n1:=fin _ _ (ex _ _ _ h0) n2;have n0:=fin _ _ (aI _ _) n1;have C1:=ah (fun w hp=>bI E s w hp hE.1 hE.2.1 n0);have C2:=ah (hHI _ _ _ h0 n2 (by show nest+1≤_;omega));have C3:=ah (fun w hp=>dN E hE ⟨#[105,110]⟩ b.2 w hp n2);have C4:=ah (hHI _ _ _ h1 n4 (by show nest+1≤_;omega));have C5:=ah (fun w hp=>iE E 9 [(ay E.toks s).1,b.1,(aA E.toks [UJ] b.2).1,d.1] 4 _ d.2 w hp rfl rfl (by omega) n4);have E1:=ah e1;have E2:=ah e2;have E3:=ah e3;clear h0 h1 ha e1 e2 e3 n0 n1 n2 n3 n4 hHI ex fin ih hn;go_enter Tryz.func172,Tryz.ntmps172;go_wp2_with (go_at_call 233;refine HD'.out.mono ?_);rintro e w1 ⟨rfl,hp1,hk1⟩;obtain⟨_,_,c2,_,_,_⟩:=hp1.cells;rw[hcl'] at c2;go_wp2_with (go_at_call 165;refine(N1.out w1 hp1).mono ?_);rintro e w2 ⟨rfl,hp2,hk2⟩;rw[E1.out];go_wp2_with (go_at_call 165;refine(N2.out w2 hp2).mono ?_);rintro e w3 ⟨rfl,hp3,hk3⟩;rw[E2.out];go_wp2_with (go_at_call 165;refine(N3.out w3 hp3).mono ?_);rintro e w4 ⟨rfl,oC,hk4⟩;rw[E3.out];obtain⟨d0,_,_,_,_,_⟩:=oC.cells;clear c2;go_wp2_with (go_at_call 167;refine(C1.out w4 oC).mono ?_);rintro e w5 ⟨rfl,rV,hk5⟩;go_wp2_with (go_at_call 172;refine(C2.out w5 rV).mono ?_);rintro e w6 ⟨rfl,Cr,tC⟩;go_wp2_with (go_at_call 168;refine(C3.out w6 Cr).mono ?_);rintro e w7 ⟨rfl,EP,Bo⟩;go_wp2_with (go_at_call 172;refine(C4.out w7 EP).mono ?_);rintro e w8 ⟨rfl,Sn,A9⟩;go_wp2_with (go_at_call 106;refine(C5.out w8 Sn).mono ?_);rintro e w9 ⟨rfl,Zm,VB⟩;go_wp2;go_ret;exact⟨rfl,Zm,(((((((hk1.trans hk2).trans hk3).trans hk4).trans hk5).trans tC).trans Bo).trans A9).trans VB⟩
     ·rw[if_neg ha] at h
      have e3:aV E.toks s [(⟨#[97,115,115,101,114,116]⟩:ByteArray).data.toList]=false:=eq_false_of_ne_true ha;have HI:=ah (hHI _ _ _ h hn VA);have E1:=ah e1;have E2:=ah e2;have E3:=ah e3;clear h ha e1 e2 e3 hHI ex fin ih hn;go_enter Tryz.func172,Tryz.ntmps172;go_wp2_with (go_at_call 233;refine HD'.out.mono ?_);rintro e w1 ⟨rfl,hp1,hk1⟩;obtain⟨_,_,c2,_,_,_⟩:=hp1.cells;rw[hcl'] at c2;go_wp2_with (go_at_call 165;refine(N1.out w1 hp1).mono ?_);rintro e w2 ⟨rfl,hp2,hk2⟩;rw[E1.out];go_wp2_with (go_at_call 165;refine(N2.out w2 hp2).mono ?_);rintro e w3 ⟨rfl,hp3,hk3⟩;rw[E2.out];go_wp2_with (go_at_call 165;refine(N3.out w3 hp3).mono ?_);rintro e w4 ⟨rfl,oC,hk4⟩;rw[E3.out];go_wp2_with (go_at_call 234;refine(HI.out w4 oC).mono ?_);rintro e w5 ⟨rfl,rV,hk5⟩;go_wp2;go_ret;exact⟨rfl,rV,(((hk1.trans hk2).trans hk3).trans hk4).trans hk5⟩
 ·rw[if_pos hf] at h
  injection h with h
  subst h;have hok:okB s=false:=decide_eq_false hf;have HD':Hid (Calls Tryz.prog 233 #[.pointer (some ⟨E.pb,0,none⟩),.int .i64 nest] w (qO E s true w)):=ah (HD.out.mono fun e w' ⟨he,hp⟩=>⟨by rw[he,hok];rfl,hp⟩);clear HD hnd hok hf;go_enter Tryz.func172,Tryz.ntmps172;go_wp2_with (go_at_call 233;refine HD'.out.mono ?_);rintro e w1 ⟨rfl,hp1,hk1⟩;go_wp2;go_ret;exact⟨rfl,hp1,hk1⟩
theorem jD (E:aW)(st:aB)(hf:st.fE=0)(w:World)(h:PW E st w):Calls Tryz.prog 101 #[.pointer (some ⟨E.pb,0,none⟩)] w (qO E st true w) :=
 (rT E st w h).mono fun e w' ⟨he,hw⟩=>by subst hw;exact⟨by rw[he,show okB st=true from decide_eq_true hf],h,Kp.refl _ _⟩
theorem sK (E:aW)(st:aB)(hf:st.fE≠0)(w:World)(h:PW E st w):Calls Tryz.prog 101 #[.pointer (some ⟨E.pb,0,none⟩)] w (qO E st false w) :=
 (rT E st w h).mono fun e w' ⟨he,hw⟩=>by subst hw;exact⟨by rw[he,show okB st=false from decide_eq_false hf],h,Kp.refl _ _⟩
theorem Ib (E:aW)(hE:E.ok)(nest:Nat)(st:aB)(hf:(aN E.toks E.depth nest st).fE=0)(w:World)(h:PW E st w) :
  Calls Tryz.prog 233 #[.pointer (some ⟨E.pb,0,none⟩),.int .i64 nest] w (qO E (aN E.toks E.depth nest st) false w) :=
 (Cg E hE nest st w h).mono fun e w' ⟨he,hp⟩=>⟨by rw[he,show okB _=true from decide_eq_true hf];rfl,hp⟩
theorem Ct (E:aW)(hE:E.ok)(nest:Nat)(st:aB)(hf:(aN E.toks E.depth nest st).fE≠0)(w:World)(h:PW E st w) :
  Calls Tryz.prog 233 #[.pointer (some ⟨E.pb,0,none⟩),.int .i64 nest] w (qO E (aN E.toks E.depth nest st) true w) :=
 (Cg E hE nest st w h).mono fun e w' ⟨he,hp⟩=>⟨by rw[he,show okB _=false from decide_eq_false hf];rfl,hp⟩
theorem zo (E:aW)(nest:Nat)(st:aB)(hf:(aN E.toks E.depth nest st).fE=0):nest≤E.depth:=by
 unfold aN at hf
 split at hf
 ·exact(lI (by decide) _ hf).elim
 ·omega
theorem aC {a b:aB}(h1:dB a b)(h2:b.nodes.length+1≤1099511627776):a.nodes.length+1≤1099511627776:=by have:=h1.2.2.2;omega
theorem dJ (E:aW)(hE:E.ok)(b:ByteArray)(st:aB)(x:Bool)(hx:aV E.toks st [b.data.toList]=x)(w:World)(h:PW E st w) :
  Calls Tryz.prog 165 #[.pointer (some ⟨E.pb,0,none⟩),.slice (some ⟨w.heap.size,0,none⟩) 1 1] (w.alloc (.cells #[.string b] 9)) (qO E st x w):=by
 subst hx;exact tV E hE b st w h
theorem Ic (E:aW)(hE:E.ok)(g:Nat)(ih:AX E g)(nest:Nat)(st:aB)(r:Int × aB)(w:World)(h:run E.toks E.depth (g+1) (.formula nest) st=some r)(hp:PW E st w)(hn:r.2.nodes.length+1≤1099511627776)(bZ:nest≤E.depth) :
  Calls Tryz.prog 234 #[.pointer (some ⟨E.pb,0,none⟩),.int .i64 nest] w (dL E r w):=by
 have sW:=hE.2.2
 have hHI:∀ (t:Task) (st:aB) (r:Int × aB),run E.toks E.depth g t st=some r→r.2.nodes.length+1≤1099511627776→wF E t→∀ w,PW E st w→mI E r w t:=fun t st r h1 h2 h3 w h4=>ih t st r w h1 h4 h2 h3
 have ex:=aP E.toks E.depth g;rw[run] at h;obtain⟨a,h0,h⟩:=bP h
 by_cases hf:a.2.fE=0
 ·by_cases hx:aV E.toks a.2 [[61,62]]=true
  ·rw[if_pos ⟨hf,hx⟩] at h
   by_cases hd:(aN E.toks E.depth (nest+1) (ay E.toks a.2).2).fE=0
   ·rw[if_neg (by simp[hd])] at h
    obtain⟨b,h1,h⟩:=bP h
    injection h with h;subst h
    have n4:=aC (aD _ _ _) hn;have n3:=aC (ex _ _ _ h1) n4;have n2:=aC (eU _ _ _ _) n3;have n1:=aC (aI _ _) n2;have HR:=ah (hHI _ _ _ h0 n1 ⟨by decide,bZ⟩);have HO:=ah (jD E a.2 hf);have HX:=ah (dJ E hE ⟨#[61,62]⟩ a.2 true hx);have HL:=ah (fun w hp=>bI E a.2 w hp hE.1 hE.2.1 n1);have HD:=ah (Ib E hE (nest+1) _ hd);have HF:=ah (hHI _ _ _ h1 n4 (zo E _ _ hd));have HN:=ah (fun w hp=>iE E 10 [a.1,(ay E.toks a.2).1,b.1] 3 _ b.2 w hp rfl rfl (by omega) n4);clear h0 h1 hf hx hd n1 n2 n3 n4 hHI ex ih hn;go_enter Tryz.func234,Tryz.ntmps234;go_wp2_with (go_at_call 277;refine(HR.out w hp).mono ?_);rintro e w1 ⟨rfl,hp1,hk1⟩;go_wp2_with (go_at_call 101;refine(HO.out w1 hp1).mono ?_);rintro e w2 ⟨rfl,hp2,hk2⟩;go_wp2_with (go_at_call 165;refine(HX.out w2 hp2).mono ?_);rintro e w3 ⟨rfl,hp3,hk3⟩;obtain⟨d0,_,_,_,_,_⟩:=hp3.cells;go_wp2_with (go_at_call 167;refine(HL.out w3 hp3).mono ?_);rintro e w4 ⟨rfl,oC,hk4⟩;clear d0;go_wp2_with (go_at_call 233;refine(HD.out w4 oC).mono ?_);rintro e w5 ⟨rfl,rV,hk5⟩;go_wp2_with (go_at_call 234;refine(HF.out w5 rV).mono ?_);rintro e w6 ⟨rfl,Cr,tC⟩;go_wp2_with (go_at_call 106;refine(HN.out w6 Cr).mono ?_);rintro e w7 ⟨rfl,EP,Bo⟩;go_wp2;go_ret;exact⟨rfl,EP,(((((hk1.trans hk2).trans hk3).trans hk4).trans hk5).trans tC).trans Bo⟩
   ·rw[if_pos hd] at h
    injection h with h;subst h
    have n2:=aC (eU _ _ _ _) hn;have n1:=aC (aI _ _) n2;have HR:=ah (hHI _ _ _ h0 n1 ⟨by decide,bZ⟩);have HO:=ah (jD E a.2 hf);have HX:=ah (dJ E hE ⟨#[61,62]⟩ a.2 true hx);have HL:=ah (fun w hp=>bI E a.2 w hp hE.1 hE.2.1 n1);have HD:=ah (Ct E hE (nest+1) _ hd);clear h0 hf hx hd n1 n2 hHI ex ih hn;go_enter Tryz.func234,Tryz.ntmps234;go_wp2_with (go_at_call 277;refine(HR.out w hp).mono ?_);rintro e w1 ⟨rfl,hp1,hk1⟩;go_wp2_with (go_at_call 101;refine(HO.out w1 hp1).mono ?_);rintro e w2 ⟨rfl,hp2,hk2⟩;go_wp2_with (go_at_call 165;refine(HX.out w2 hp2).mono ?_);rintro e w3 ⟨rfl,hp3,hk3⟩;obtain⟨d0,_,_,_,_,_⟩:=hp3.cells;go_wp2_with (go_at_call 167;refine(HL.out w3 hp3).mono ?_);rintro e w4 ⟨rfl,oC,hk4⟩;clear d0;go_wp2_with (go_at_call 233;refine(HD.out w4 oC).mono ?_);rintro e w5 ⟨rfl,rV,hk5⟩;go_wp2;go_ret;exact⟨rfl,rV,(((hk1.trans hk2).trans hk3).trans hk4).trans hk5⟩
  ·rw[if_neg (fun q=>hx q.2)] at h
   injection h with h;subst h
   have HR:=ah (hHI _ _ _ h0 hn ⟨by decide,bZ⟩);have HO:=ah (jD E a.2 hf);have HX:=ah (dJ E hE ⟨#[61,62]⟩ a.2 false (eq_false_of_ne_true hx));clear h0 hf hx hHI ex ih hn;go_enter Tryz.func234,Tryz.ntmps234;go_wp2_with (go_at_call 277;refine(HR.out w hp).mono ?_);rintro e w1 ⟨rfl,hp1,hk1⟩;go_wp2_with (go_at_call 101;refine(HO.out w1 hp1).mono ?_);rintro e w2 ⟨rfl,hp2,hk2⟩;go_wp2_with (go_at_call 165;refine(HX.out w2 hp2).mono ?_);rintro e w3 ⟨rfl,hp3,hk3⟩;go_wp2;go_ret;exact⟨rfl,hp3,(hk1.trans hk2).trans hk3⟩
 ·rw[if_neg (fun q=>hf q.1)] at h
  injection h with h;subst h
  have HR:=ah (hHI _ _ _ h0 hn ⟨by decide,bZ⟩);have HO:=ah (sK E a.2 hf);clear h0 hf hHI ex ih hn;go_enter Tryz.func234,Tryz.ntmps234;go_wp2_with (go_at_call 277;refine(HR.out w hp).mono ?_);rintro e w1 ⟨rfl,hp1,hk1⟩;go_wp2_with (go_at_call 101;refine(HO.out w1 hp1).mono ?_);rintro e w2 ⟨rfl,hp2,hk2⟩;go_wp2;go_ret;exact⟨rfl,hp2,hk1.trans hk2⟩
theorem Sq (E:aW)(g:Nat)(ih:AX E g)(l nest:Nat)(st:aB)(r:Int × aB)(w:World)(h:run E.toks E.depth (g+1) (.part l nest) st=some r)(hp:PW E st w)(hn:r.2.nodes.length+1≤1099511627776)(bZ:l≤4∧nest≤E.depth) :
  Calls Tryz.prog 298 #[.pointer (some ⟨E.pb,0,none⟩),.int .i64 l,.int .i64 nest] w (dL E r w):=by
 have hHI:∀ (t:Task) (st:aB) (r:Int × aB),run E.toks E.depth g t st=some r→r.2.nodes.length+1≤1099511627776→wF E t→∀ w,PW E st w→mI E r w t:=fun t st r h1 h2 h3 w h4=>ih t st r w h1 h4 h2 h3
 rw[run] at h;obtain⟨hl,bZ⟩:=bZ
 by_cases h1:l=1
 ·rw[if_pos h1] at h
  subst h1;have HR:=ah (hHI _ _ _ h hn bZ);clear h hHI ih hn;go_enter Tryz.func298,Tryz.ntmps298;go_wp2_with (go_at_call 310;refine(HR.out w hp).mono ?_);rintro e w1 ⟨rfl,hp1,hk1⟩;go_wp2;go_ret;exact⟨rfl,hp1,hk1⟩
 ·rw[if_neg h1] at h
  by_cases h4:l=4
  ·rw[if_pos h4] at h
   subst h4;have HR:=ah (hHI _ _ _ h hn bZ);clear h hHI ih hn h1;go_enter Tryz.func298,Tryz.ntmps298;go_wp2_with (go_at_call 311;refine(HR.out w hp).mono ?_);rintro e w1 ⟨rfl,hp1,hk1⟩;go_wp2;go_ret;exact⟨rfl,hp1,hk1⟩
  ·rw[if_neg h4] at h
   have HR:=ah (hHI _ _ _ h hn ⟨by omega,bZ⟩);clear h hHI ih hn
   have aeg:l=0∨l=2∨l=3:=by omega
   rcases aeg with rfl|rfl|rfl
   ·clear h1 h4 hl
    go_enter Tryz.func298,Tryz.ntmps298;go_wp2_with (go_at_call 277;refine(HR.out w hp).mono ?_);rintro e w1 ⟨rfl,hp1,hk1⟩;go_wp2;go_ret;exact⟨rfl,hp1,hk1⟩
   ·clear h1 h4 hl
    go_enter Tryz.func298,Tryz.ntmps298;go_wp2_with (go_at_call 277;refine(HR.out w hp).mono ?_);rintro e w1 ⟨rfl,hp1,hk1⟩;go_wp2;go_ret;exact⟨rfl,hp1,hk1⟩
   ·clear h1 h4 hl
    go_enter Tryz.func298,Tryz.ntmps298;go_wp2_with (go_at_call 277;refine(HR.out w hp).mono ?_);rintro e w1 ⟨rfl,hp1,hk1⟩;go_wp2;go_ret;exact⟨rfl,hp1,hk1⟩
end Go.Proofs.YtknicmmigbhpcaaGreatDoor
