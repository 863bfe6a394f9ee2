/- Walks and plain laws: ABareW, SigBareW. -/
import Derived.Test.YtknicmmigbhpcaaGreatDoorB38
set_option maxHeartbeats 16000000
set_option maxRecDepth 100000
set_option linter.unusedVariables false
set_option linter.unusedSimpArgs false
namespace Go.Proofs.YtknicmmigbhpcaaGreatDoor
open Go.RowKit Go
def El (l:List Int)(w:World)(r:Ending)(w':World):Prop:=∃ v,r=.returned v∧w'.ownsRow w.heap.size 3 1 v l.length (l.map (Value.int .i64))∧Below w.heap.size w w'
theorem zL {w:World}{C e n:Nat}{v:Value}{cs:List Value}(h:w.ownsRow C e 1 v n cs):∃ ao cap,v=.slice ao n cap:=(lF.eZ (P:=fun _=>True) h fun _ _=>trivial).form
theorem qw {α β:Type}(f:α→List β)(K:Nat):∀ l:List α,(∀ x∈l,(f x).length≤K)→(l.flatMap f).length≤l.length * K
 | [],_=>by simp
 | x :: l,h=>by
  have h1:=h x List.mem_cons_self
  have h2:=qw f K l fun y hy=>h y (List.mem_cons_of_mem _ hy)
  rw[List.flatMap_cons,bN,eG,Nat.succ_mul];omega
theorem FF.uM (f:FF):f.dX.length≤1:=by unfold FF.dX;split<;>simp
theorem Em (l:List FF):(l.flatMap FF.dX).length≤l.length:=by
 have:=qw FF.dX 1 l fun f _=>f.uM
 omega
theorem DD.uM {M:Nat}{d:DD}(h:d.small M):d.dX.length≤9:=by
 have h1:=Em d.params;have h2:=d.res.uM;have h3:=h.few;rw[DD.dX,bN];omega
theorem OZ {M:Nat}{l:List DD}(h:∀ d∈l,d.small M)(h2:l.length≤64):(l.flatMap DD.dX).length≤576:=by
 have:=qw DD.dX 9 l fun d hd=>DD.uM (h d hd)
 omega
theorem FF.GI {f:FF}(h:0≤f.bare):f.dX=[f.bare]:=by rw[FF.dX,if_pos h]
theorem FF.LX {f:FF}(h:¬ 0≤f.bare):f.dX=[]:=by rw[FF.dX,if_neg h]
theorem Tm {M:Nat}(p:PP)(hs:p.small M)(B:Nat)(ai:Option Addr)(ci:Nat)(ad:Option Addr)(cd:Nat)(w:World)
  (h:CG (fun b=>b<B) w (.slice ai p.imports.length ci) (.slice ad p.defs.length cd) p) (hB:B≤w.heap.size) :
  Calls Tryz.prog 15 #[.agg #[.slice ai p.imports.length ci,.slice ad p.defs.length cd]] w (El p.dX w):=by
 obtain⟨i0,hi0,hi1,hi2,hi3⟩:=info_parts Tryz.Vf;obtain⟨_,hdr⟩:=h;obtain⟨ao2,cc2,hv2,hcap2,XE⟩:=hdr.form;simp only[Value.slice.injEq] at hv2;obtain⟨rfl,-,rfl⟩:=hv2;have HF2:=ah XE;have hbb:=aj w (.cells #[.slice ai p.imports.length ci,.slice ad p.defs.length cd] 38);have zk:=heap_alloc_new w (.cells #[.slice ai p.imports.length ci,.slice ad p.defs.length cd] 38);obtain⟨c0,c1⟩:=OY zk;have hdl:=hs.Ic;have HS:=ah hs.defs;clear hdr XE hs zk;go_enter Tryz.func15,Tryz.ntmps15;go_wp2;clear c0 c1
 go_loopw [3,11] (fun v q wr=>∃ (j:Nat) (acc:List Int),j≤p.defs.length∧q=.int .i64 j∧acc=(p.defs.take j).flatMap DD.dX∧wr.ownsRow w.heap.size 3 1 v acc.length (acc.map (Value.int .i64))∧Below w.heap.size w wr) (fun _ q _=>p.defs.length - (intOf q).toNat)
 case atStart=>exact⟨0,[],Nat.zero_le _,rfl,rfl,World.ownsRow_nil _ _ _ _,hbb⟩
 case round =>
  obtain⟨j,acc,hj,rfl,hacc,hrow,hbl⟩:=hrel;obtain⟨vo,vc,rfl⟩:=zL hrow;have uL:=hbl.size
  have aff:acc.length≤576:=by rw[hacc];exact OZ (M:=M) (fun d hd=>HS.out d (List.mem_of_mem_take hd)) (by rw[List.length_take];omega)
  by_cases hlt:j<p.defs.length
  ·obtain⟨b,off,rfl,YT,hbw,qx⟩:=HF2.out (by omega)
   obtain⟨⟨pv,cv,bm,bk⟩,⟨hpr,hcr,hbe⟩,hc⟩:=qx j hlt;have hmem:p.defs[j]∈p.defs:=List.getElem_mem hlt;have hsn:p.defs.take (j+1)=p.defs.take j++[p.defs[j]]:=List.take_succ_eq_append_getElem hlt
   have Hf:(j:Int)<(p.defs.length:Int):=by omega
   have hds:=HS.out _ hmem;have hd8:=hds.few;generalize p.defs[j]=d at hpr hcr hbe hc hsn hds hd8;obtain⟨ap,cp,rfl⟩:=hpr.slice;obtain⟨ac,cc,rfl⟩:=hcr.slice;obtain⟨am,wn,cm,ae,ce,rfl,rfl⟩:=kJ.YQ hbe
   have hcl:∀ (c:Nat) (u:Value),w.cell? ⟨b,c,none⟩=some u→wr.cell? ⟨b,c,none⟩=some u:=fun c u hu=>(hbl.cell (p:=⟨b,c,none⟩) hbw).trans hu
   have y0:=hcl _ _ (show w.cell? ⟨b,off+j * 15,none⟩=some (.bool d.pub) from hc 0 _ rfl);have y1:=hcl _ _ (show w.cell? ⟨b,off+j * 15+1,none⟩=some (.string ⟨d.res.name.toArray⟩) from hc 1 _ rfl);have y2:=hcl _ _ (show w.cell? ⟨b,off+j * 15+2,none⟩=some (.slice ap d.params.length cp) from hc 2 _ rfl);have y3:=hcl _ _ (show w.cell? ⟨b,off+j * 15+3,none⟩=some (.int .i64 d.res.base) from hc 3 _ rfl);have y4:=hcl _ _ (show w.cell? ⟨b,off+j * 15+4,none⟩=some (.slice ac d.res.clause.length cc) from hc 4 _ rfl);have y5:=hcl _ _ (show w.cell? ⟨b,off+j * 15+5,none⟩=some (.int .i64 d.body.op) from hc 5 _ rfl);have y6:=hcl _ _ (show w.cell? ⟨b,off+j * 15+6,none⟩=some (.string ⟨d.body.name.toArray⟩) from hc 6 _ rfl);have y7:=hcl _ _ (show w.cell? ⟨b,off+j * 15+7,none⟩=some (.string ⟨d.body.module.toArray⟩) from hc 7 _ rfl);have y8:=hcl _ _ (show w.cell? ⟨b,off+j * 15+8,none⟩=some (.bool (decide (d.body.num<0))) from hc 8 _ rfl);have y9:=hcl _ _ (show w.cell? ⟨b,off+j * 15+9,none⟩=some (.slice am wn cm) from hc 9 _ rfl);have X6:=hcl _ _ (show w.cell? ⟨b,off+j * 15+10,none⟩=some (.bool d.body.yes) from hc 10 _ rfl);have TI:=hcl _ _ (show w.cell? ⟨b,off+j * 15+11,none⟩=some (.slice ae d.body.kids.length ce) from hc 11 _ rfl);have X7:=hcl _ _ (show w.cell? ⟨b,off+j * 15+12,none⟩=some (.int .i64 d.body.at_) from hc 12 _ rfl);have y13:=hcl _ _ (show w.cell? ⟨b,off+j * 15+13,none⟩=some (.int .i64 d.res.at_) from hc 13 _ rfl);have X8:=hcl _ _ (show w.cell? ⟨b,off+j * 15+14,none⟩=some (.int .i64 d.res.bare) from hc 14 _ rfl);have hdb:=heap_alloc_new wr (.cells #[.bool d.pub,.string ⟨d.res.name.toArray⟩,.slice ap d.params.length cp,.int .i64 d.res.base,.slice ac d.res.clause.length cc,.int .i64 d.body.op,.string ⟨d.body.name.toArray⟩,.string ⟨d.body.module.toArray⟩,.bool (decide (d.body.num<0)),.slice am wn cm,.bool d.body.yes,.slice ae d.body.kids.length ce,.int .i64 d.body.at_,.int .i64 d.res.at_,.int .i64 d.res.bare] 48)
   have abJ:=hbl.alloc uL (.cells #[.bool d.pub,.string ⟨d.res.name.toArray⟩,.slice ap d.params.length cp,.int .i64 d.res.base,.slice ac d.res.clause.length cc,.int .i64 d.body.op,.string ⟨d.body.name.toArray⟩,.string ⟨d.body.module.toArray⟩,.bool (decide (d.body.num<0)),.slice am wn cm,.bool d.body.yes,.slice ae d.body.kids.length ce,.int .i64 d.body.at_,.int .i64 d.res.at_,.int .i64 d.res.bare] 48);have XF:=hrow.alloc (.cells #[.bool d.pub,.string ⟨d.res.name.toArray⟩,.slice ap d.params.length cp,.int .i64 d.res.base,.slice ac d.res.clause.length cc,.int .i64 d.body.op,.string ⟨d.body.name.toArray⟩,.string ⟨d.body.module.toArray⟩,.bool (decide (d.body.num<0)),.slice am wn cm,.bool d.body.yes,.slice ae d.body.kids.length ce,.int .i64 d.body.at_,.int .i64 d.res.at_,.int .i64 d.res.bare] 48)
   have O1:some wr.heap.size≠(Value.slice vo acc.length vc).ownBlock:=fun q=>by have:=(hrow.lt _ q.symm).2;omega
   obtain⟨ap',cp',hv3,afg,XG⟩:=hpr.form;simp only[Value.slice.injEq] at hv3;obtain⟨rfl,-,rfl⟩:=hv3;have HF3:=ah XG;have pK:=ah hsn;clear qx hc hcl hsn hbe hcr hpr XG hds
   go_upto_region 5 with fail
   clear y0 y1 y2 y3 y4 y5 y6 y7 y8 y9 X6 TI X7 y13 X8;generalize ae4:wr.heap.size=db at hdb O1 ⊢;generalize wr.alloc _=wA at hdb abJ XF ⊢
   have afY:w.heap.size≤db:=by omega
   have HDC:Hid (∀ W:World,W.heap[db]?=some _→_):=ah (fun W (hW:W.heap[db]?=some (.cells #[.bool d.pub,.string ⟨d.res.name.toArray⟩,.slice ap d.params.length cp,.int .i64 d.res.base,.slice ac d.res.clause.length cc,.int .i64 d.body.op,.string ⟨d.body.name.toArray⟩,.string ⟨d.body.module.toArray⟩,.bool (decide (d.body.num<0)),.slice am wn cm,.bool d.body.yes,.slice ae d.body.kids.length ce,.int .i64 d.body.at_,.int .i64 d.res.at_,.int .i64 d.res.bare] 48 (0,0)))=>Tk hW);obtain⟨_,_,z2,_⟩:=HDC.out _ hdb;clear ae4 hrow hbl;go_wp2;clear z2
   go_loopw [3,18] (fun v q wr=>∃ (k:Nat) (XH:List Int),k≤d.params.length∧q=.int .i64 k∧XH=acc++(d.params.take k).flatMap FF.dX∧wr.ownsRow w.heap.size 3 1 v XH.length (XH.map (Value.int .i64))∧Below w.heap.size w wr∧wr.heap[db]?=some (.cells #[.bool d.pub,.string ⟨d.res.name.toArray⟩,.slice ap d.params.length cp,.int .i64 d.res.base,.slice ac d.res.clause.length cc,.int .i64 d.body.op,.string ⟨d.body.name.toArray⟩,.string ⟨d.body.module.toArray⟩,.bool (decide (d.body.num<0)),.slice am wn cm,.bool d.body.yes,.slice ae d.body.kids.length ce,.int .i64 d.body.at_,.int .i64 d.res.at_,.int .i64 d.res.bare] 48 (0,0))∧some db≠v.ownBlock) (fun _ q _=>d.params.length - (intOf q).toNat)
   case atStart=>exact⟨0,acc,Nat.zero_le _,rfl,by simp,XF,abJ,hdb,O1⟩
   case round =>
    clear XF abJ hdb O1;obtain⟨k,XH,hk,rfl,Tn,hrow,hbl,hdb,O1⟩:=hrel;obtain⟨vo,vc,rfl⟩:=zL hrow;have uL:=hbl.size
    have afZ:XH.length≤600:=by
     have:=Em (d.params.take k);rw[List.length_take] at this;rw[Tn,bN];omega
    have abK:=(bG hdb).1
    by_cases hlt3:k<d.params.length
    ·obtain⟨b3,o3,rfl,af0,ae5,aay⟩:=HF3.out (by omega)
     obtain⟨cv3,abL,hc3⟩:=aay k hlt3;have abM:d.params.take (k+1)=d.params.take k++[d.params[k]]:=List.take_succ_eq_append_getElem hlt3
     have oH:(k:Int)<(d.params.length:Int):=by omega
     generalize d.params[k]=f at abL hc3 abM;obtain⟨ac3,cc3,rfl⟩:=RowK.slice (show RowK (EK XA) (fun b=>b<B) w cv3 f.clause from abL)
     have hcl:∀ (c:Nat) (u:Value),w.cell? ⟨b3,c,none⟩=some u→wr.cell? ⟨b3,c,none⟩=some u:=fun c u hu=>(hbl.cell (p:=⟨b3,c,none⟩) ae5).trans hu
     have v0:=hcl _ _ (show w.cell? ⟨b3,o3+k * 5,none⟩=some (.string ⟨f.name.toArray⟩) from hc3 0 _ rfl);have v1:=hcl _ _ (show w.cell? ⟨b3,o3+k * 5+1,none⟩=some (.int .i64 f.base) from hc3 1 _ rfl);have v2:=hcl _ _ (show w.cell? ⟨b3,o3+k * 5+2,none⟩=some (.slice ac3 f.clause.length cc3) from hc3 2 _ rfl);have v3:=hcl _ _ (show w.cell? ⟨b3,o3+k * 5+3,none⟩=some (.int .i64 f.at_) from hc3 3 _ rfl);have v4:=hcl _ _ (show w.cell? ⟨b3,o3+k * 5+4,none⟩=some (.int .i64 f.bare) from hc3 4 _ rfl);have hpx:=heap_alloc_new wr (.cells #[.string ⟨f.name.toArray⟩,.int .i64 f.base,.slice ac3 f.clause.length cc3,.int .i64 f.at_,.int .i64 f.bare] 80);have Z5:=hbl.alloc uL (.cells #[.string ⟨f.name.toArray⟩,.int .i64 f.base,.slice ac3 f.clause.length cc3,.int .i64 f.at_,.int .i64 f.bare] 80);have Qm:=hrow.alloc (.cells #[.string ⟨f.name.toArray⟩,.int .i64 f.base,.slice ac3 f.clause.length cc3,.int .i64 f.at_,.int .i64 f.bare] 80);have Z6:=(Lib.alloc_old wr (.cells #[.string ⟨f.name.toArray⟩,.int .i64 f.base,.slice ac3 f.clause.length cc3,.int .i64 f.at_,.int .i64 f.bare] 80) db abK).trans hdb;have adC:=ah abM;have HAC:=ah Tn;clear aay hc3 hcl abL abM Tn
     go_upto_region 8 with fail
     clear v0 v1 v2 v3 v4 hrow hbl hdb;generalize wr.heap.size=px at hpx ⊢;generalize wr.alloc _=wB at hpx Z5 Qm Z6 ⊢;obtain⟨_,_,_,_,u4,_⟩:=uK hpx;have hzB:=Z5.size;have abK:=(bG Z6).1
     by_cases h0:0≤f.bare
     ·have HB0:=ah (FF.GI h0)
      go_wp2_with (at_builtin;refine wpList_append_lies _ rfl _ _ 51 rfl w.heap.size 3 i0 (.int .i64 0) 1 8 Tryz.underlying51 hi0 hi1 hi2 hi3 rfl (by decide) _ XH.length _ rfl (Qm.alloc _) ⟨wB.heap.size,0,none⟩ 1 1 [.int .i64 f.bare] rfl rfl (World.news_of_block (cs:=#[.int .i64 f.bare]) (t:=3) (fr:=(0,0)) (heap_alloc_new wB _)) (by simp[Value.oneCell']) (by omega) (by unfold maxLen;omega) (by omega) (by first|omega|(simp;omega)) (wB.heap.size+1) (by simp) ?_);intro gg cap5 w5 hown5 dU uN JL;have ae6:=(dU.block db (by simp;omega) O1).trans ((Lib.alloc_old wB _ db abK).trans Z6);have RF:=(Z5.alloc hzB _).grown dU (by simp;omega) (fun q hq=>(Qm.lt q hq).1);clear dU u4;go_wp2
      go_roundw
      case rel =>
       refine⟨k+1,XH++[f.bare],by omega,by go_num,?_,?_,RF,ae6,?_⟩
       ·rw[adC.out,List.flatMap_append,← List.append_assoc,← HAC.out];simp[HB0.out]
       ·rw[bN,List.map_append];exact hown5
       ·intro q
        simp only[Value.ownBlock,Option.some.injEq] at q
        rcases uN with q2|q2
        ·exact O1 (by rw[q2,q])
        ·omega
      case measure=>simp[intOf];omega
     ·have HB0:=ah (FF.LX h0)
      go_wp2
      go_roundw
      case rel=>exact⟨k+1,XH,by omega,by go_num,by rw[adC.out,List.flatMap_append,← List.append_assoc,← HAC.out];simp[HB0.out],Qm,Z5,Z6,O1⟩
      case measure=>simp[intOf];omega
    ·obtain rfl:k=d.params.length:=by omega
     rw[List.take_length] at Tn;have oH:decide ((d.params.length:Int)<(d.params.length:Int))=false:=decide_eq_false (by omega);obtain⟨_,_,_,_,_,_,_,_,_,_,_,_,_,_,z14⟩:=HDC.out _ hdb;have HAC:=ah Tn;have HA0:=ah hacc;clear Tn hacc
     by_cases h0:0≤d.res.bare
     ·have HB0:=ah (FF.GI h0)
      go_wp2_with (at_builtin;refine wpList_append_lies _ rfl _ _ 51 rfl w.heap.size 3 i0 (.int .i64 0) 1 8 Tryz.underlying51 hi0 hi1 hi2 hi3 rfl (by decide) _ XH.length _ rfl (hrow.alloc _) ⟨wr.heap.size,0,none⟩ 1 1 [.int .i64 d.res.bare] rfl rfl (World.news_of_block (cs:=#[.int .i64 d.res.bare]) (t:=3) (fr:=(0,0)) (heap_alloc_new wr _)) (by simp[Value.oneCell']) (by omega) (by unfold maxLen;omega) (by omega) (by first|omega|(simp;omega)) (wr.heap.size+1) (by simp) ?_);intro gg cap5 w5 hown5 dU uN JL;have RF:=(hbl.alloc uL _).grown dU (by simp;omega) (fun q hq=>(hrow.lt q hq).1);clear dU z14;go_wp2
      go_roundw
      case rel =>
       refine⟨j+1,XH++[d.res.bare],by omega,by go_num,?_,?_,RF⟩
       ·rw[pK.out,List.flatMap_append,← HA0.out,HAC.out];simp[DD.dX,HB0.out]
       ·rw[bN,List.map_append];exact hown5
      case measure=>simp[intOf];omega
     ·have HB0:=ah (FF.LX h0)
      go_wp2
      go_roundw
      case rel=>exact⟨j+1,XH,by omega,by go_num,by rw[pK.out,List.flatMap_append,← HA0.out,HAC.out];simp[DD.dX,HB0.out],hrow,hbl⟩
      case measure=>simp[intOf];omega
  ·obtain rfl:j=p.defs.length:=by omega
   have Hf:decide ((p.defs.length:Int)<(p.defs.length:Int))=false:=decide_eq_false (by omega);rw[List.take_length] at hacc;subst hacc;go_wp2;go_ret;exact⟨_,rfl,hrow,hbl⟩
end Go.Proofs.YtknicmmigbhpcaaGreatDoor

namespace Go.Proofs.YtknicmmigbhpcaaGreatDoor
open Go.RowKit Go Go.Sort
def oG (s:ByteArray)(w:World):Prop:=Calls Tryz.prog 4 #[.string s] w fun r w'=>r=.returned (.bool true)∧Below w.heap.size w w'
theorem XI (s:ByteArray)(w:World)(hs:s.size≤maxLen)(h:1200<s.size):oG s w:=by
 unfold maxLen at hs;unfold oG
 have hI:(1200:Int)<(s.size:Int):=by omega
 go_enter Tryz.func4,Tryz.ntmps4;go_wp2_with (go_at_call 10;refine(rG _).mono ?_;rintro e w1 ⟨rfl,hb1⟩);go_ret;exact⟨rfl,hb1⟩
theorem XJ (s:ByteArray)(w:World)(hs:s.size≤1200)(c a:Nat)(h:gX s.data.toList 60=.bad c a):oG s w:=by
 unfold oG
 have hI:¬ ((1200:Int)<(s.size:Int)):=by omega
 have HB:=ah (fun W=>EM s W (by omega) c a h);clear h;go_enter Tryz.func4,Tryz.ntmps4;go_wp2_with (first|(go_at_call 10;refine(rG _).mono ?_;rintro e w1 ⟨rfl,hb1⟩)|(go_at_call 12;refine(HB.out _).mono ?_;rintro e w2 ⟨rfl,hb2⟩));go_ret;exact⟨rfl,(hb1.trans (hb2.mono hb1.size)).alloc (hb1.trans (hb2.mono hb1.size)).size _⟩
theorem Tp (s:ByteArray)(w:World)(hs:s.size≤1200)(toks:List Tok)(nodes:List Nd)(h:gX s.data.toList 60=.good toks nodes):oG s w:=by
 unfold oG;obtain⟨p,F⟩:=Gl (by omega) h;have HP:=ah (fun W=>Ej s W (by omega) toks nodes p h F);have hmid:=F.mid (by rw[aK];omega);have wF:=ah (F.OT (by rw[aK];omega))
 have hI:¬ ((1200:Int)<(s.size:Int)):=by omega
 have HSM:Hid (∀ d∈(p.pp toks).z.defs,d.res.clause.length≤1∧(∀ f∈d.params,f.clause.length≤1)∧d.params.length≤8):=ah fun d hd=>⟨(hmid.defs d hd).res.few,fun f hf=>((hmid.defs d hd).jR f hf).few,(hmid.defs d hd).few⟩
 have h64:=F.Dt.Ic;have HAL:=ah (OV toks p)
 have HBA:Hid (∀ (B:Nat) (ai:Option Addr) (ci:Nat) (ad:Option Addr) (cd:Nat) (W:World),CG (fun b=>b<B) W (.slice ai (p.pp toks).imports.length ci) (.slice ad (p.pp toks).defs.length cd) (p.pp toks)→B≤W.heap.size→Calls Tryz.prog 15 #[.agg #[.slice ai (p.pp toks).imports.length ci,.slice ad (p.pp toks).defs.length cd]] W (El (p.pp toks).dX W)):=ah fun B ai ci ad cd W hA hB=>Tm _ F.Dt B ai ci ad cd W hA hB
 have hzl:(p.pp toks).z.defs.length=(p.pp toks).defs.length:=List.length_map _;have HZL:=ah hzl;have hzd:(p.pp toks).z.defs=(p.pp toks).defs.map DD.z:=rfl;have HZD:=ah hzd;clear h F hmid hzl hzd;unfold GH at HP;generalize hzz:(p.pp toks).z.defs=zs at *;clear hzz;generalize p.pp toks=pp at *;go_enter Tryz.func4,Tryz.ntmps4
 go_upto_region 8 with (first|(go_at_call 10;refine(rG _).mono ?_;rintro e w1 ⟨rfl,hb1⟩)|(go_at_call 12;refine(HP.out _).mono ?_;rintro e w2 ⟨ai,ci,ad,cd,rfl,hp2,hb2,ho2⟩))
 have sj:=hb1.trans (hb2.mono hb1.size);have hb3:=sj.alloc sj.size (.cells #[.slice ai pp.imports.length ci,.slice ad pp.defs.length cd] 38);have g3:=heap_alloc_new w2 (.cells #[.slice ai pp.imports.length ci,.slice ad pp.defs.length cd] 38)
 have hp3:=(hp2.frame (aQ.of (aj w2 (.cells #[.slice ai pp.imports.length ci,.slice ad pp.defs.length cd] 38)))).imp (Q:=fun b=>b<(w2.alloc (.cells #[.slice ai pp.imports.length ci,.slice ad pp.defs.length cd] 38)).heap.size) fun _ _ hl=>hl
 have ho3:=P6 (ho2.below (aj w2 (.cells #[.slice ai pp.imports.length ci,.slice ad pp.defs.length cd] 38)))
 have hl3:w2.heap.size<(w2.alloc (.cells #[.slice ai pp.imports.length ci,.slice ad pp.defs.length cd] 38)).heap.size:=by simp
 rw[← HZD.out] at ho3;change Code.wp _ _ _ _ (w2.alloc (.cells #[.slice ai pp.imports.length ci,.slice ad pp.defs.length cd] 38));clear sj ho2 hb2 hb1 hp2;generalize w2.alloc _=w3 at g3 hb3 ho3 hl3 hp3 ⊢;generalize w2.heap.size=q at g3 hl3 ⊢;obtain⟨c0,c1,-⟩:=bM g3;have G3:=ah g3;have hlz:=HZL.out;obtain⟨ae',ce',hv,_,hform⟩:=ho3.row.form;simp only[Value.slice.injEq] at hv;obtain⟨rfl,-,rfl⟩:=hv;have HF:=ah hform;have HPA:=ah hp3;have hz3:=hb3.size
 obtain⟨nl,hnl⟩:∃ nl,nl=zs.length:=⟨_,rfl⟩
 have af2:nl≤64:=by omega
 rw[← hlz,← hnl] at c1;have HNL:=ah (And.intro hnl hlz);clear g3 ho3 hform hp3 hnl hlz h64;go_wp2;clear c0 c1
 go_loopw [5,7,23] (fun nv _ q wr=>∃ (k:Nat) (acc:Int),k≤nl∧q=.int .i64 k∧nv=.int .i64 acc∧uh acc (zs.drop k)=(pp.dX.length:Int)∧0≤acc∧acc≤9 * (k:Int)∧Below w3.heap.size w3 wr) (fun _ _ q _=>nl - (intOf q).toNat)
 case atStart=>exact⟨0,0,Nat.zero_le _,rfl,rfl,HAL.out,by omega,by omega,Below.refl _ _⟩
 case round =>
  obtain⟨k,acc,hk,rfl,rfl,hres,hlo,hhi,hbl⟩:=hrel;have uL:=hbl.size;have zK:=ah hres;clear hres
  by_cases hlt:k<nl
  ·have hlt2:k<zs.length:=by rw[← HNL.out.1];exact hlt
   obtain⟨b,off,rfl,_,hbw,qx⟩:=HF.out (by omega);obtain⟨⟨pv,cv,bm,bk⟩,⟨hpr,hcr,hbe⟩,hc⟩:=qx k hlt2;obtain⟨am,wn,cm,ae,ce,rfl,rfl⟩:=hbe.YQ;obtain⟨ap,cp,rfl⟩:=hpr.slice;obtain⟨ac,cc,rfl⟩:=hcr.slice;have hdr:zs.drop k=zs[k] :: zs.drop (k+1):=List.drop_eq_getElem_cons hlt2;have hkn:=wF.out _ (List.getElem_mem hlt2);obtain⟨hs1,hs2,hs3⟩:=HSM.out _ (List.getElem_mem hlt2);have HE:Hid (uh (acc+mP (1 - (zs[k].res.clause.length:Int)) zs[k].params) (zs.drop (k+1))=(pp.dX.length:Int)):=ah (by rw[← zK.out,hdr];rfl);have hsm:=Ap zs[k].params (1 - (zs[k].res.clause.length:Int)) hs2;have y0:=(hbl.cell (p:=⟨b,off+k * 15+0,none⟩) hbw).trans (hc 0 _ rfl);have y1:=(hbl.cell (p:=⟨b,off+k * 15+1,none⟩) hbw).trans (hc 1 _ rfl);have y2:=(hbl.cell (p:=⟨b,off+k * 15+2,none⟩) hbw).trans (hc 2 _ rfl);have y3:=(hbl.cell (p:=⟨b,off+k * 15+3,none⟩) hbw).trans (hc 3 _ rfl);have y4:=(hbl.cell (p:=⟨b,off+k * 15+4,none⟩) hbw).trans (hc 4 _ rfl);have y5:=(hbl.cell (p:=⟨b,off+k * 15+5,none⟩) hbw).trans (hc 5 _ rfl);have y6:=(hbl.cell (p:=⟨b,off+k * 15+6,none⟩) hbw).trans (hc 6 _ rfl);have y7:=(hbl.cell (p:=⟨b,off+k * 15+7,none⟩) hbw).trans (hc 7 _ rfl);have y8:=(hbl.cell (p:=⟨b,off+k * 15+8,none⟩) hbw).trans (hc 8 _ rfl);have y9:=(hbl.cell (p:=⟨b,off+k * 15+9,none⟩) hbw).trans (hc 9 _ rfl);have X6:=(hbl.cell (p:=⟨b,off+k * 15+10,none⟩) hbw).trans (hc 10 _ rfl);have TI:=(hbl.cell (p:=⟨b,off+k * 15+11,none⟩) hbw).trans (hc 11 _ rfl);have X7:=(hbl.cell (p:=⟨b,off+k * 15+12,none⟩) hbw).trans (hc 12 _ rfl);have y13:=(hbl.cell (p:=⟨b,off+k * 15+13,none⟩) hbw).trans (hc 13 _ rfl);have X8:=(hbl.cell (p:=⟨b,off+k * 15+14,none⟩) hbw).trans (hc 14 _ rfl);rw[Nat.add_zero] at y0;simp only[dh] at y1 y2 y4 y6 y7 y9 TI
   have oH:(k:Int)<(nl:Int):=by omega
   have HPR:=ah (And.intro hpr (And.intro hcr hkn));clear hc qx hdr hpr hcr hbe hkn zK;generalize zs[k]=d at *;have bC:=aj wr (.cells (wu d ap cp ac cc am wn cm ae ce) 48);have gd:=heap_alloc_new wr (.cells (wu d ap cp ac cc am wn cm ae ce) 48)
   go_upto_region 12 with fail
   change Code.wp _ _ _ _ (wr.alloc (.cells (wu d ap cp ac cc am wn cm ae ce) 48));clear y0 y1 y2 y3 y4 y5 y6 y7 y8 y9 X6 TI X7 y13 X8;generalize wr.alloc (.cells (wu d ap cp ac cc am wn cm ae ce) 48)=w5 at *;have hb5:=hbl.trans (bC.mono uL);have Lg:=ah (Gv (fun b=>w1.heap.size≤b) d ap cp ac cc am wn cm ae ce w5 HPR.out.2.2.fit (HPR.out.1.frame (aQ.of hb5)) (HPR.out.2.1.frame (aQ.of hb5)));unfold Qh wu at Lg;obtain⟨y0,y1,y2,y3,y4,y5,y6,y7,y8,y9,X6,TI,X7,y13,X8⟩:=wz gd
   have HB:Hid (∀ (a:Option Addr) (c:Nat) (a7:Option Addr) (c7:Nat) (W:World),RowK D9 (fun b=>(w1.heap.size≤b∧b<w5.heap.size)∨w5.heap.size≤b) W (.slice a d.params.length c) d.params→Calls Tryz.prog 14 #[.agg #[.string ⟨d.res.name.toArray⟩,.slice a d.params.length c,.int .i64 d.res.base,.slice a7 d.res.clause.length c7]] W fun e w'=>e=.returned (.int .i64 (mP (1 - (d.res.clause.length:Int)) d.params))∧Below W.heap.size W w') :=
    ah fun a c a7 c7 W hR=>Ea d.res d.params _ a c a7 c7 W hR (fun f hf=>by have:=hs2 f hf;omega) (by omega) (by omega)
   clear gd hs2;generalize mP (1 - (d.res.clause.length:Int)) d.params=bn at *;have LZ:=hb5.size
   have h1:0≤acc+bn:=by omega
   have h2:acc+bn≤9 * ((k+1:Nat):Int):=by omega
   have h3:acc+bn≤1000:=by omega
   go_wp2_with (first|(go_at_call 13;refine Lg.out.mono ?_;rintro e w6 ⟨a6,c6,a7,c7,rfl,ae7,hb6⟩)|(go_at_call 14;refine(HB.out _ _ _ _ _ ae7.1).mono ?_;rintro e w7 ⟨rfl,rZ⟩))
   go_roundw
   case rel=>exact⟨k+1,acc+bn,by omega,by go_num,rfl,HE.out,h1,h2,(hb5.trans (hb6.mono LZ)).trans (rZ.mono (Nat.le_trans LZ hb6.size))⟩
   case measure=>simp[intOf];omega
  ·obtain rfl:k=nl:=by omega
   have oH:decide ((k:Int)<(k:Int))=false:=decide_eq_false (by omega);have HE:Hid (acc=(pp.dX.length:Int)):=ah (by have q:=zK.out;rw[HNL.out.1,List.drop_length] at q;exact q);have gr:=(hbl.block q hl3).trans G3.out;obtain⟨c0,c1,-⟩:=bM gr;have HB:=ah (HBA.out w3.heap.size ai ci ad cd wr ⟨HPA.out.1.frame (aQ.of hbl),HPA.out.2.frame (aQ.of hbl)⟩ uL);unfold El at HB
   have hpl:pp.defs.length=k:=by have:=HNL.out.1;have:=HNL.out.2;omega
   rw[hpl] at c1 HB;clear gr zK hpl;generalize pp.dX=L at *;have hac:=HE.out;clear HE;subst hac;go_wp2_with (go_at_call 15;refine HB.out.mono ?_;rintro r w5 ⟨v,rfl,hown,hb5⟩;obtain⟨av,cv,rfl⟩:=zL hown;clear hown);go_ret;exact⟨rfl,hb3.trans ((hbl.trans (hb5.mono uL)).mono hz3)⟩
theorem XK (s:ByteArray)(w:World)(hs:s.size≤maxLen):oG s w:=by
 by_cases h:s.size≤1200
 ·cases hf:gX s.data.toList 60 with
  | bad c a=>exact XJ s w h c a hf
  | good toks nodes=>exact Tp s w h toks nodes hf
 ·exact XI s w hs (by omega)
end Go.Proofs.YtknicmmigbhpcaaGreatDoor
