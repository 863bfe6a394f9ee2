/- Walks and plain laws: ScopeForm, ScopeLaw, ScopeLaw2, ScopeLaw3. -/
import Derived.Test.YtknicmmigbhpcaaGreatDoorF39
set_option maxHeartbeats 16000000
set_option maxRecDepth 100000
set_option linter.unusedVariables false
set_option linter.unusedSimpArgs false
namespace Go.Proofs.YtknicmmigbhpcaaGreatDoor
theorem EF {p:ZP}{own:List UInt8}{ms:List (List UInt8)}(h:og [] ms=false):p.check own ms=some (10,0):=by
 rw[ZP.check,h,Bool.and_false,Bool.and_false]
 rfl
theorem GV (m:List UInt8):og [] [m]=aR m:=by
 simp[og]
theorem UA (m:List UInt8):og [] [m,m]=false:=by
 rw[og,og,og];have:decide (m∈fF ([]++[m]))=true:=decide_eq_true (UZ.2 (by simp));rw[this]
 simp
theorem Nh {p:ZP}{m:List UInt8}(hi:p.imports=[])(hd:p.defs=[])(hm:aR m=true):p.check [111,119,110] [m]=none:=by
 obtain⟨is,ds⟩:=p;simp only at hi hd;subst hi hd;rw[ZP.check,GV,hm,if_pos (by rfl)]
 rfl
theorem Qm {own:List UInt8}{ms:List (List UInt8)}{d:ZD}{l:List ZD}{b:Int}(h1:d.res.base=1∨d.res.base=2)(h2:b=1∨b=2):ZP.check ⟨[],d.iH b :: l⟩ own ms=ZP.check ⟨[],d :: l⟩ own ms:=by
 have hc:eO b d.res.clause=eO d.res.base d.res.clause:=by
  rw[eO,eO]
  congr 1
  rcases h1 with h1|h1<;>rcases h2 with h2|h2<;>rw[h1,h2]<;>rfl
 have hr:ZP.right ⟨[],d.iH b :: l⟩=ZP.right ⟨[],d :: l⟩:=by
  have:(d.iH b).sound=d.sound:=by
   show (aR d.res.name && (decide (d.params.length≤8) && (!(d.params.any fun f=>!f.right) && (eO b d.res.clause && d.body.right false))))=_;rw[hc]
   rfl
  rw[ZP.right,ZP.right,List.all_cons,List.all_cons,this]
  rfl
 have ha:gB (d.iH b :: l)=gB (d :: l):=by
  funext nm
  unfold gB
  by_cases h:d.res.name=nm
  ·rw[List.find?_cons_of_pos (by exact decide_eq_true h),List.find?_cons_of_pos (by exact decide_eq_true h)]
   rfl
  ·rw[List.find?_cons_of_neg (by show ¬ decide (d.res.name=nm)=true;rw[decide_eq_false h];decide),List.find?_cons_of_neg (by rw[decide_eq_false h];decide)]
 have hf:∀ face ext,ZP.fI ⟨[],d.iH b :: l⟩ own face ext=ZP.fI ⟨[],d :: l⟩ own face ext:=fun face ext=>by
  rw[ZP.fI,ZP.fI,ZP.se,ZP.se];simp only;rw[ha]
  rfl
 rw[ZP.check,ZP.check,hr,hf]
theorem Jv {own:List UInt8}{ms:List (List UInt8)}{d:ZD}{l:List ZD}{b:Int}(h1:b≠1)(h2:b≠2):ZP.check ⟨[],d.iH b :: l⟩ own ms=some (10,0):=by
 have hc:eO b d.res.clause=false:=by
  rw[eO,decide_eq_false h1,decide_eq_false h2]
  rfl
 have hs:(d.iH b).sound=false:=by
  show (aR d.res.name && (decide (d.params.length≤8) && (!(d.params.any fun f=>!f.right) && (eO b d.res.clause && d.body.right false))))=_;rw[hc,Bool.false_and,Bool.and_false,Bool.and_false,Bool.and_false]
 have hr:ZP.right ⟨[],d.iH b :: l⟩=false:=by
  rw[ZP.right,List.all_cons,hs,Bool.false_and,Bool.and_false,Bool.and_false,Bool.and_false]
 rw[ZP.check,hr,Bool.false_and]
 rfl
end Go.Proofs.YtknicmmigbhpcaaGreatDoor

namespace Go.Proofs.YtknicmmigbhpcaaGreatDoor
open Go.RowKit Go
theorem vW (s:ByteArray)(w:World)(hs:s.size≤65536):Calls Tryz.prog 18 #[.string s] w fun r w'=>r=.returned (.bool (aR s.data.toList))∧Below w.heap.size w w':=by
 have HP:=ah (fun W=>Oc s W (by omega));go_enter Tryz.func18,Tryz.ntmps18;go_wp2_with (go_at_call 44;refine(HP.out _).mono ?_;rintro r w2 ⟨rfl,hb2⟩);go_ret;exact⟨rfl,hb2⟩
def gJ (s m:ByteArray)(base:Int)(Nq:Bool)(w:World):Prop:=Calls Tryz.prog 6 #[.string s,.string m,.int .i64 base,.bool Nq] w fun r w'=>r=.returned (.bool true)∧Below w.heap.size w w'
theorem UC (s m:ByteArray)(base:Int)(Nq:Bool)(w:World)(hs:s.size≤maxLen)(hm:m.size≤maxLen)(h:600<s.size):gJ s m base Nq w:=by
 unfold maxLen at hs hm;unfold gJ
 have hI:(600:Int)<(s.size:Int):=by omega
 go_enter Tryz.func6,Tryz.ntmps6;go_wp2_with (go_at_call 23;refine(jX _).mono ?_;rintro e w1 ⟨rfl,hb1⟩);go_ret;exact⟨rfl,hb1⟩
theorem Qn (s m:ByteArray)(base:Int)(Nq:Bool)(w:World)(hs:s.size≤600)(hm:m.size≤maxLen)(h:60<m.size):gJ s m base Nq w:=by
 unfold maxLen at hm;unfold gJ
 have hI:¬ ((600:Int)<(s.size:Int)):=by omega
 have hJ:(60:Int)<(m.size:Int):=by omega
 go_enter Tryz.func6,Tryz.ntmps6;go_wp2_with (go_at_call 23;refine(jX _).mono ?_;rintro e w1 ⟨rfl,hb1⟩);go_ret;exact⟨rfl,hb1⟩
theorem UD (s m:ByteArray)(base:Int)(Nq:Bool)(w:World)(hs:s.size≤600)(hm:m.size≤60)(c a:Nat)(h:iK s.data.toList 60=.bad c a):gJ s m base Nq w:=by
 unfold gJ
 have hI:¬ ((600:Int)<(s.size:Int)):=by omega
 have hJ:¬ ((60:Int)<(m.size:Int)):=by omega
 have HB:=ah (fun W=>Ng s W (by omega) c a h);clear h;go_enter Tryz.func6,Tryz.ntmps6;go_wp2_with (first|(go_at_call 23;refine(jX _).mono ?_;rintro e w1 ⟨rfl,hb1⟩)|(go_at_call 24;refine(HB.out _).mono ?_;rintro e w2 ⟨rfl,hb2⟩));go_ret;exact⟨rfl,(hb1.trans (hb2.mono hb1.size)).alloc (hb1.trans (hb2.mono hb1.size)).size _⟩
theorem Qo (s m:ByteArray)(base:Int)(Nq:Bool)(w:World)(hs:s.size≤600)(hm:m.size≤60)(z:ZP)(HP:∀ W,Calls Tryz.prog 24 #[.string s] W (uQ z W))(h0:0<z.imports.length)(h16:z.imports.length≤16):gJ s m base Nq w:=by
 unfold gJ
 have hI:¬ ((600:Int)<(s.size:Int)):=by omega
 have hJ:¬ ((60:Int)<(m.size:Int)):=by omega
 have hK:(0:Int)<(z.imports.length:Int):=by omega
 have HPX:=ah HP;clear HP;go_enter Tryz.func6,Tryz.ntmps6
 go_upto_region 6 with (first|(go_at_call 24;refine(HPX.out _).mono ?_;rintro e w2 ⟨ai,ci,ad,cd,rfl,hb2,ho2⟩)|(go_at_call 23;refine(jX _).mono ?_;rintro e w1 ⟨rfl,hb1⟩))
 have oo:=hb1.trans (hb2.mono hb1.size);have hb3:=oo.alloc oo.size (.cells #[.slice ai z.imports.length ci,.slice ad z.defs.length cd] 38);have g3:=heap_alloc_new w2 (.cells #[.slice ai z.imports.length ci,.slice ad z.defs.length cd] 38);clear oo ho2 hb2 hb1;change Code.wp _ _ _ _ (w2.alloc (.cells #[.slice ai z.imports.length ci,.slice ad z.defs.length cd] 38));generalize w2.alloc (.cells #[.slice ai z.imports.length ci,.slice ad z.defs.length cd] 38)=w3 at g3 hb3 ⊢;generalize w2.heap.size=q at g3 ⊢;obtain⟨c0,c1,-⟩:=aX g3;clear g3;go_wp2;go_ret;exact⟨rfl,hb3⟩
theorem Ym {w:World}{b:Nat}{m:ByteArray}{T:TypeId}(h:w.heap[b]?=some (.cells #[.string m,.slice none 0 0] T (0,0))):RowK sQ (fun k=>k=b) w (.slice (some ⟨b,0,none⟩) 1 1) [m.data.toList]:=by
 have hl:=(bQ h).1;refine⟨[(m.data.toList,())],rfl,⟨_,1,rfl,Nat.le_refl _,rfl,fun _=>⟨b,0,rfl,rfl,hl,fun i hi=>?_⟩⟩,fun _ _=>trivial⟩;have hi2:i<2:=hi;rw[Nat.zero_add,Lib.cell_of_heap h]
 match i,hi2 with
 | 0,_=>simp[RK.flat,sQ]
 | 1,_=>simp[RK.flat,sQ]
theorem Ni {z:ZP}{d:ZD}{l:List ZD}(h:z.mid)(e:z.defs=d :: l)(b:Int):(⟨[],d.iH b :: l⟩:ZP).mid:=by
 have hf:=h.LC;have hd:=h.defs;rw[e] at hf hd;refine⟨fun m hm=>(nomatch hm),Nat.zero_le _,fun x hx=>?_,by simpa using hf⟩
 rcases List.mem_cons.1 hx with rfl|hx
 ·have h1:=hd d List.mem_cons_self
  exact⟨h1.kJ,h1.few,⟨h1.res.name,h1.res.few,h1.res.all⟩,h1.body⟩
 ·exact hd x (List.mem_cons_of_mem _ hx)
theorem UE (s m:ByteArray)(base:Int)(w:World)(hs:s.size≤600)(hm:m.size≤60)(z:ZP)(HP:∀ W,Calls Tryz.prog 24 #[.string s] W (uQ z W))(hi:z.imports=[])(hz:z.mid)(hb:∀ d∈z.defs,d.res.base=1∨d.res.base=2):gJ s m base false w:=by
 unfold gJ
 have hI:¬ ((600:Int)<(s.size:Int)):=by omega
 have h2:decide ((600:Int)<(s.size:Int))=false:=decide_eq_false (by omega)
 have hJ:¬ ((60:Int)<(m.size:Int)):=by omega
 have hK:¬ (0:Int)<(z.imports.length:Int):=by rw[hi];decide
 have HPX:=ah HP;have Wx:=ah hi;have HZ:=ah hz;have HB:=ah hb;clear HP hi hz hb;go_enter Tryz.func6,Tryz.ntmps6
 go_upto_region 6 with (first|(go_at_call 24;refine(HPX.out _).mono ?_;rintro e w2 ⟨ai,ci,ad,cd,rfl,hb2,ho2⟩)|(go_at_call 23;refine(jX _).mono ?_;rintro e w1 ⟨rfl,hb1⟩))
 have oo:=hb1.trans (hb2.mono hb1.size);have hb3:=oo.alloc oo.size (.cells #[.slice ai z.imports.length ci,.slice ad z.defs.length cd] 38);have g3:=heap_alloc_new w2 (.cells #[.slice ai z.imports.length ci,.slice ad z.defs.length cd] 38);have ho3:=ho2.below (aj w2 (.cells #[.slice ai z.imports.length ci,.slice ad z.defs.length cd] 38))
 have hl3:w2.heap.size<(w2.alloc (.cells #[.slice ai z.imports.length ci,.slice ad z.defs.length cd] 38)).heap.size:=by simp
 have acd:=hb2.size;have hz1:=hb1.size;have HG0:=ah (fun h0=>ho2.head h0);clear oo ho2 hb2 hb1;change Code.wp _ _ _ _ (w2.alloc (.cells #[.slice ai z.imports.length ci,.slice ad z.defs.length cd] 38));generalize w2.alloc (.cells #[.slice ai z.imports.length ci,.slice ad z.defs.length cd] 38)=w3 at g3 hb3 ho3 hl3 ⊢;generalize w2.heap.size=q at g3 hl3 acd HG0 ⊢;obtain⟨c0,c1,-⟩:=aX g3
 go_upto_region 9 with fail
 have gF:=heap_alloc_new w3 (.cells #[.string m,.slice none 0 0] 27);have yP:=aj w3 (.cells #[.string m,.slice none 0 0] 27)
 have hl4:w3.heap.size<(w3.alloc (.cells #[.string m,.slice none 0 0] 27)).heap.size:=by simp
 generalize w3.alloc (.cells #[.string m,.slice none 0 0] 27)=w4 at gF yP hl4 ⊢;have hF4:=ah (Ym gF)
 have HC:Hid (∀ (z':ZP) (ad':Option Addr) (cd':Nat) (W:World),z'.imports=z.imports→z'.defs.length=z.defs.length→z'.pq→Below w4.heap.size w4 W∨True→RowK sQ (fun b=>b<W.heap.size) W (.slice (some ⟨w3.heap.size,0,none⟩) 1 1) [m.data.toList]→RowK Q0 (fun b=>b<W.heap.size) W (.slice ad' z.defs.length cd') z'.defs →
   Calls Tryz.prog 25 #[.string ⟨#[111,119,110]⟩,.agg #[.slice ai z.imports.length ci,.slice ad' z.defs.length cd'],.slice (some ⟨w3.heap.size,0,none⟩) 1 1] W fun e w'=>e=.returned (.agg #[.int .i64 (JE (z'.check [111,119,110] [m.data.toList])),.int .i64 (JF (z'.check [111,119,110] [m.data.toList]))])∧Below W.heap.size W w'):=ah fun z' ad' cd' W e1 e2 hfit _ hF hD=>by
  have h:=wZ [111,119,110] z' ai ci ad' cd' (some ⟨w3.heap.size,0,none⟩) 1 [m.data.toList] W (by rw[e1];exact Wx.out) hfit (by decide) (by rw[e2];exact hD) hF ⟨by rw[List.length_singleton];omega,fun x hx=>by rw[List.mem_singleton] at hx;subst hx;rw[aK];omega⟩;rw[e1,e2] at h;exact h
 have EU:=ah (HC.out z ad cd w4 rfl rfl HZ.out.pq (.inr trivial) (hF4.out.imp fun _ _ hl=>hl) (ho3.below yP).Uz);have g34:=(yP.block q hl3).trans g3;obtain⟨d0,d1,-⟩:=aX g34;clear c0 c1 g3
 obtain⟨f,hf⟩:∃ f,f=z.check [111,119,110] [m.data.toList]:=⟨_,rfl⟩
 rw[← hf] at EU;have HFF:=ah hf;clear hf
 go_upto_region 12 with (go_at_call 25;refine EU.out.mono ?_;rintro r w5 ⟨rfl,hb5⟩)
 have hT:=heap_alloc_new w5 (.cells #[.int .i64 (JE f),.int .i64 (JF f)] 75);have UF:=hb5.alloc hb5.size (.cells #[.int .i64 (JE f),.int .i64 (JF f)] 75)
 have Yk:w5.heap.size<(w5.alloc (.cells #[.int .i64 (JE f),.int .i64 (JF f)] 75)).heap.size:=by simp
 have aft:=hb5.size;generalize w5.alloc (.cells #[.int .i64 (JE f),.int .i64 (JF f)] 75)=w6 at hT UF Yk ⊢;generalize w5.heap.size=t at hT Yk aft ⊢;have Ee:=hb3.trans ((yP.trans (UF.mono yP.size)).mono hb3.size);have HPL:=ah (vW m w6 (by omega));have HT:=ah hT;have G6:=ah ((UF.block q (by omega)).trans g34);have HO6:=ah ((ho3.below yP).below UF);have HF6:=ah (hF4.out.frame (aT.of UF));clear hT d0 d1 g34 hb5 UF EU hF4 gF ho3 HPX
 obtain⟨pl,hpl⟩:∃ pl,pl=aR m.data.toList:=⟨_,rfl⟩
 rw[← hpl] at HPL;have HPB:=ah hpl;clear hpl
 cases pl with
 | false =>
  obtain rfl:f=some (10,0):=by rw[HFF.out];exact EF (by rw[GV,← HPB.out])
  go_wp2_with (go_at_call 18;refine HPL.out.mono ?_;rintro r w7 ⟨rfl,sI⟩;obtain⟨f0,f1,-⟩:=cK (show w7.heap[t]?=some (.cells #[.int .i64 10,.int .i64 0] 75 (0,0)) from (sI.block t Yk).trans HT.out));go_ret;exact⟨rfl,Ee.trans (sI.mono Ee.size)⟩
 | true =>
  go_upto_region 14 with (go_at_call 18;refine HPL.out.mono ?_;rintro r w7 ⟨rfl,sI⟩)
  have agq:=sI.size;have tq:=Ee.trans (sI.mono Ee.size);have T7:=(sI.block t Yk).trans HT.out;have G7:=(sI.block q (by have:=yP.size;omega)).trans G6.out;obtain⟨d0,d1,-⟩:=aX G7
  by_cases hd:z.defs.length=0
  ·obtain rfl:f=none:=by rw[HFF.out];exact Nh Wx.out (List.length_eq_zero_iff.1 hd) HPB.out.symm
   obtain⟨f0,f1,-⟩:=cK (show w7.heap[t]?=some (.cells #[.int .i64 0,.int .i64 0] 75 (0,0)) from T7)
   have hdI:((z.defs.length:Int) == 0)=true:=by rw[hd];rfl
   clear T7 G7 hd;go_wp2;go_ret;exact⟨rfl,tq⟩
  ·have hdI:((z.defs.length:Int) == 0)=false:=beq_eq_false_iff_ne.2 (by omega)
   have hdJ:(0:Int)<(z.defs.length:Int):=by omega
   have HO7:=ah (HO6.out.below sI);obtain⟨g,cap,hv,hg1,hg2⟩:=HO7.out.head (by omega)
   obtain⟨rfl,rfl⟩:ad=some ⟨g,0,none⟩∧cd=cap:=by simpa using hv
   have hfr:=HO7.out.free 3
   obtain⟨u,hu⟩:∃ u,w7.cell? ⟨g,3,none⟩=some u:=by
    obtain⟨ao,cc,hv2,_,hform⟩:=HO7.out.Uz.form;simp only[Value.slice.injEq] at hv2;obtain⟨rfl,-,rfl⟩:=hv2;obtain⟨b,off,e1,_,_,hk⟩:=hform (by omega);simp only[Option.some.injEq,Addr.mk.injEq,and_true] at e1;obtain⟨rfl,rfl⟩:=e1;obtain⟨x,_,hc⟩:=hk 0 (by omega);exact⟨_,hc 3 _ rfl⟩
   have HG7:=ah (And.intro T7 G7);clear T7 G7 hv hd
   go_upto_region 17 with fail
   have hgq:g<q:=by
    obtain⟨g',cap',hv',_,hlt⟩:=HG0.out (by omega);simp only[Value.slice.injEq,Option.some.injEq,Addr.mk.injEq,and_true] at hv';omega
   obtain⟨d,l,hdl⟩:∃ d l,z.defs=d :: l:=by
    cases hx:z.defs with
    | nil=>rw[hx] at hdJ;simp at hdJ
    | cons d l=>exact⟨d,l,rfl⟩
   have HDL:=ah hdl
   have HO8:Hid (fH Q0 w1.heap.size 48 (w7.setCell ⟨g,3,none⟩ (.int .i64 base)) (.slice (some ⟨g,0,none⟩) z.defs.length cd) (d.iH base :: l)):=ah (by
    have h:=HO7.out;rw[hdl] at h ⊢
    exact h.iH base)
   clear hdl;have Qp:Below w.heap.size w (w7.setCell ⟨g,3,none⟩ (.int .i64 base)):=tq.setCell (by show w.heap.size≤g;omega) _;have T8:=(heap_setCell_other w7 ⟨g,3,none⟩ t (.int .i64 base) (by show t≠g;have:=yP.size;omega)).trans HG7.out.1;have G8:=(heap_setCell_other w7 ⟨g,3,none⟩ q (.int .i64 base) (by show q≠g;omega)).trans HG7.out.2;have HF8:=ah ((HF6.out.frame (aT.of sI)).frame (aT.set (w:=w7) (a:=⟨g,3,none⟩) (.int .i64 base) fun b hb=>by show b≠g;omega));have HC8:=ah (HC.out ⟨[],d.iH base :: l⟩ (some ⟨g,0,none⟩) cd (w7.setCell ⟨g,3,none⟩ (.int .i64 base)) Wx.out.symm (by rw[HDL.out];rfl) (Ni HZ.out HDL.out base).pq (.inr trivial) (HF8.out.imp fun _ _ hl=>hl) HO8.out.Uz)
   have HZE:z=⟨[],d :: l⟩:=by
    have h1:=Wx.out;have h2:=HDL.out;cases z;simp only at h1 h2;rw[h1,h2]
   have HEQ:(base=1∨base=2)→ZP.check ⟨[],d.iH base :: l⟩ [111,119,110] [m.data.toList]=f:=fun hx=>by
    rw[Qm (HB.out d (by rw[HDL.out];exact List.mem_cons_self)) hx,HFF.out,← HZE]
   have HNE:(base≠1∧base≠2)→ZP.check ⟨[],d.iH base :: l⟩ [111,119,110] [m.data.toList]=some (10,0):=fun hx=>Jv hx.1 hx.2
   generalize ZP.check ⟨[],d.iH base :: l⟩ [111,119,110] [m.data.toList]=f2 at HC8 HEQ HNE;have HQ:=ah (And.intro HEQ HNE)
   have hzs:(w7.setCell ⟨g,3,none⟩ (.int .i64 base)).heap.size=w7.heap.size:=by simp
   clear HEQ HNE HZE d0 d1 hu hfr;generalize w7.setCell ⟨g,3,none⟩ (.int .i64 base)=w8 at Qp T8 G8 HC8 hzs ⊢;obtain⟨d0,d1,-⟩:=aX G8;have HT8:=ah T8
   have uj:t<w8.heap.size:=by omega
   clear T8 G8
   go_upto_region 18 with (go_at_call 25;refine HC8.out.mono ?_;rintro r w9 ⟨rfl,yR⟩)
   have hT9:=heap_alloc_new w9 (.cells #[.int .i64 (JE f2),.int .i64 (JF f2)] 75);have Yn:=yR.alloc yR.size (.cells #[.int .i64 (JE f2),.int .i64 (JF f2)] 75);generalize w9.alloc (.cells #[.int .i64 (JE f2),.int .i64 (JF f2)] 75)=wA at hT9 Yn ⊢;have hTA:=(Yn.block t uj).trans HT8.out;obtain⟨f0,f1,-⟩:=cK hTA;obtain⟨e0,e1,-⟩:=cK hT9;clear hTA hT9 d0 d1
   by_cases hb1:base=1
   ·obtain rfl:f2=f:=HQ.out.1 (.inl hb1)
    subst hb1;go_wp2;go_ret;exact⟨rfl,Qp.trans (Yn.mono Qp.size)⟩
   ·by_cases hb2:base=2
    ·obtain rfl:f2=f:=HQ.out.1 (.inr hb2)
     subst hb2;go_wp2;go_ret;exact⟨rfl,Qp.trans (Yn.mono Qp.size)⟩
    ·obtain rfl:f2=some (10,0):=HQ.out.2 ⟨hb1,hb2⟩
     have hN1:(base == 1)=false:=beq_eq_false_iff_ne.2 hb1;have Jw:(base == 2)=false:=beq_eq_false_iff_ne.2 hb2;change wA.cell? ⟨w9.heap.size,0,none⟩=some (.int .i64 10) at e0;change wA.cell? ⟨w9.heap.size,1,none⟩=some (.int .i64 0) at e1;go_wp2;go_ret;exact⟨rfl,Qp.trans (Yn.mono Qp.size)⟩
theorem Tryz.Yo:(Tryz.prog.info? 27).map (fun i=>(i.zero,i.size,i.bytes))=some (some (.agg #[.string ⟨#[]⟩,.slice none 0 0]),2,40):=by kernel_rfl
theorem Yp {C e:Nat}{w:World}{v:Value}{m:ByteArray}(h:w.ownsRow C e 2 v 2 [.string m,.slice none 0 0,.string m,.slice none 0 0]):RowK sQ (fun b=>b<w.heap.size) w v [m.data.toList,m.data.toList]:=by
 have hm:ByteArray.mk m.data.toList.toArray=m:=by cases m;simp
 have h2:RowK sQ (fun b=>C≤b) w v [m.data.toList,m.data.toList]:=by
  refine⟨[(m.data.toList,()),(m.data.toList,())],rfl,mo.eP (e:=e) ?_ fun _ hb=>hb,fun _ _=>trivial⟩
  have:sQ.flat [(m.data.toList,()),(m.data.toList,())]=[.string m,.slice none 0 0,.string m,.slice none 0 0]:=by simp[RK.flat,sQ,hm]
  rw[this];exact h
 exact h2.imp fun _ _ hl=>hl
theorem UG (s m:ByteArray)(base:Int)(w:World)(hs:s.size≤600)(hm:m.size≤60)(z:ZP)(HP:∀ W,Calls Tryz.prog 24 #[.string s] W (uQ z W))(hi:z.imports=[])(hz:z.mid)(hb:∀ d∈z.defs,d.res.base=1∨d.res.base=2):gJ s m base true w:=by
 unfold gJ
 have hI:¬ ((600:Int)<(s.size:Int)):=by omega
 have h2:decide ((600:Int)<(s.size:Int))=false:=decide_eq_false (by omega)
 have hJ:¬ ((60:Int)<(m.size:Int)):=by omega
 have hK:¬ (0:Int)<(z.imports.length:Int):=by rw[hi];decide
 have HPX:=ah HP;have Wx:=ah hi;have HZ:=ah hz;have HB:=ah hb;clear HP hi hz hb;go_enter Tryz.func6,Tryz.ntmps6
 go_upto_region 6 with (first|(go_at_call 24;refine(HPX.out _).mono ?_;rintro e w2 ⟨ai,ci,ad,cd,rfl,hb2,ho2⟩)|(go_at_call 23;refine(jX _).mono ?_;rintro e w1 ⟨rfl,hb1⟩))
 have oo:=hb1.trans (hb2.mono hb1.size);have hb3:=oo.alloc oo.size (.cells #[.slice ai z.imports.length ci,.slice ad z.defs.length cd] 38);have g3:=heap_alloc_new w2 (.cells #[.slice ai z.imports.length ci,.slice ad z.defs.length cd] 38);have ho3:=ho2.below (aj w2 (.cells #[.slice ai z.imports.length ci,.slice ad z.defs.length cd] 38))
 have hl3:w2.heap.size<(w2.alloc (.cells #[.slice ai z.imports.length ci,.slice ad z.defs.length cd] 38)).heap.size:=by simp
 have acd:=hb2.size;have hz1:=hb1.size;have HG0:=ah (fun h0=>ho2.head h0);clear oo ho2 hb2 hb1;change Code.wp _ _ _ _ (w2.alloc (.cells #[.slice ai z.imports.length ci,.slice ad z.defs.length cd] 38));generalize w2.alloc (.cells #[.slice ai z.imports.length ci,.slice ad z.defs.length cd] 38)=w3 at g3 hb3 ho3 hl3 ⊢;generalize w2.heap.size=q at g3 hl3 acd HG0 ⊢;obtain⟨c0,c1,-⟩:=aX g3
 go_upto_region 9 with fail
 have gF:=heap_alloc_new w3 (.cells #[.string m,.slice none 0 0] 27);have yP:=aj w3 (.cells #[.string m,.slice none 0 0] 27)
 have hl4:w3.heap.size<(w3.alloc (.cells #[.string m,.slice none 0 0] 27)).heap.size:=by simp
 generalize w3.alloc (.cells #[.string m,.slice none 0 0] 27)=w4 at gF yP hl4 ⊢
 have hown:w4.ownsRow w3.heap.size 27 2 (.slice (some ⟨w3.heap.size,0,none⟩) 1 1) 1 [.string m,.slice none 0 0]:=⟨rfl,.inr ⟨w3.heap.size,1,_,rfl,Nat.le_refl _,gF,Nat.le_refl _,by unfold maxLen;decide,rfl,rfl⟩⟩
 have hD3:=ah ho3.Uz;have ad3:=ah yP;have g4:=(yP.block q hl3).trans g3;have qM:=hb3.trans (yP.mono hb3.size);have hw4:w.heap.size≤w3.heap.size:=hb3.size;obtain⟨i0,hi,hz0,hz1',hz2⟩:=info_parts Tryz.Yo;clear c0 c1 g3 ho3 gF yP;have HK4:=ah g4;clear g4;go_wp2_with (at_builtin;refine wpList_append_own _ rfl _ _ 24 rfl w3.heap.size 27 i0 _ 2 40 Tryz.underlying24 hi hz0 hz1' hz2 rfl (by decide) _ 1 _ rfl (hown.alloc _) ⟨w4.heap.size,0,none⟩ 1 1 [.string m,.slice none 0 0] rfl rfl ?q0 ?q00 ?q2 ?q3 ?q4 ?_)
 case q0=>exact World.news_of_block (cs:=#[.string m,.slice none 0 0]) (t:=27) (fr:=(0,0)) (heap_alloc_new w4 _)
 case q00=>simp[Value.oneCell']
 case q2=>unfold maxLen;omega
 case q3=>omega
 case q4=>simp;omega
 intro v5 w5 hown5 gq ad4;have Bh:Below w3.heap.size w4 w5:=((aj w4 (.cells #[.string m,.slice none 0 0] 27)).mono (by omega)).grown gq (by simp;omega) (fun b q=>(hown.lt b q).1);have hown6:w5.ownsRow w3.heap.size 27 2 v5 2 [.string m,.slice none 0 0,.string m,.slice none 0 0]:=hown5;have hF5:=Yp hown6;obtain⟨af,cf,rfl⟩:=hF5.slice;have hF5:=ah hF5;have Mw:=ad3.out.trans Bh;have agr:=Mw.size;have HD5:=ah ((hD3.out.frame (aT.qw Mw fun b hb=>hb)).imp (Q:=fun b=>b<w5.heap.size) fun b hb _=>by omega);have g5:=(Bh.block q hl3).trans HK4.out;have NS:=qM.trans (Bh.mono hw4);obtain⟨d0,d1,-⟩:=aX g5;clear hown hown5 hown6 gq ad4 Bh HK4 ad3 g5 qM;have HC:=ah (wZ [111,119,110] z ai ci ad cd af cf [m.data.toList,m.data.toList] w5 Wx.out HZ.out.pq (by decide) HD5.out hF5.out ⟨by show 2≤1000;omega,fun x hx=>by simp only[List.mem_cons,List.not_mem_nil,or_false,or_self] at hx;subst hx;rw[aK];omega⟩);rw[EF (UA _)] at HC
 go_upto_region 12 with (go_at_call 25;refine HC.out.mono ?_;rintro r w6 ⟨rfl,hb6⟩)
 have hT:=heap_alloc_new w6 (.cells #[.int .i64 10,.int .i64 0] 75);have tq:=(NS.trans (hb6.mono NS.size)).alloc (NS.trans (hb6.mono NS.size)).size (.cells #[.int .i64 10,.int .i64 0] 75);change Code.wp _ _ _ _ (w6.alloc (.cells #[.int .i64 10,.int .i64 0] 75))
 have Yk:w6.heap.size<(w6.alloc (.cells #[.int .i64 10,.int .i64 0] 75)).heap.size:=by simp
 generalize w6.alloc (.cells #[.int .i64 10,.int .i64 0] 75)=w7 at hT tq Yk ⊢;have HPL:=ah (vW m w7 (by omega));clear d0 d1 HC;generalize aR m.data.toList=pl at HPL
 cases pl with
 | false =>
  go_wp2_with (go_at_call 18;refine HPL.out.mono ?_;rintro r w8 ⟨rfl,j3⟩;obtain⟨f0,f1,-⟩:=cK ((j3.block _ Yk).trans hT));go_ret;exact⟨rfl,tq.trans (j3.mono tq.size)⟩
 | true =>
  go_wp2_with (go_at_call 18;refine HPL.out.mono ?_;rintro r w8 ⟨rfl,j3⟩;obtain⟨f0,f1,-⟩:=cK ((j3.block _ Yk).trans hT));go_ret;exact⟨rfl,tq.trans (j3.mono tq.size)⟩
theorem UH (s m:ByteArray)(base:Int)(Nq:Bool)(w:World)(hs:s.size≤maxLen)(hm:m.size≤maxLen)(_:-9223372036854775808≤base)(_:base≤9223372036854775807):gJ s m base Nq w:=by
 by_cases h6:s.size≤600
 ·by_cases h7:m.size≤60
  ·cases hf:iK s.data.toList 60 with
   | bad c a=>exact UD s m base Nq w h6 h7 c a hf
   | good toks nodes =>
    obtain⟨p,F⟩:=GK (by omega) hf
    have HP:=fun W=>Aa s W (by omega) toks nodes p hf F
    have hmid:=F.mid (by rw[aK];omega)
    have hbs:∀ d∈(p.pp toks).z.defs,d.res.base=1∨d.res.base=2:=fun d hd=>by
     obtain⟨x,hx,rfl⟩:=List.mem_map.1 hd;have:=(F.Qc.defs x hx).res.base;show ((x.res.base:Nat):Int)=1∨((x.res.base:Nat):Int)=2;omega
    by_cases hi:(p.pp toks).z.imports=[]
    ·cases Nq with
     | false=>exact UE s m base w h6 h7 _ HP hi hmid hbs
     | true=>exact UG s m base w h6 h7 _ HP hi hmid hbs
    ·refine Qo s m base Nq w h6 h7 _ HP (List.length_pos_iff.2 hi) hmid.OP
  ·exact Qn s m base Nq w h6 hm (by omega)
 ·exact UC s m base Nq w hs hm (by omega)
end Go.Proofs.YtknicmmigbhpcaaGreatDoor
