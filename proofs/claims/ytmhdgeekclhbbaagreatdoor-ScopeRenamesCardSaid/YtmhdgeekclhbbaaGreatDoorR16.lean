/- Walks and plain laws: ShowPE, ScopeW7, ScopeW8, BothFit, TextLen, OfL, ProgItems, ReadX. -/
import Derived.Test.YtmhdgeekclhbbaaGreatDoorR15
set_option maxHeartbeats 16000000
set_option maxRecDepth 100000
set_option linter.unusedVariables false
set_option linter.unusedSimpArgs false
namespace Go.Proofs.YtmhdgeekclhbbaaGreatDoor
open Go.RowKit Go
def TD (B:Nat)(w:World)(ai:Option Addr)(l:List (List UInt8 × Int)):Prop:=0<l.length→∃ b off,ai=some ⟨b,off,none⟩∧b<B∧b<w.heap.size∧∀ i,(hi:i<l.length)→w.cell? ⟨b,off+i * 2,none⟩=some (.string ⟨l[i].1.toArray⟩)∧w.cell? ⟨b,off+i * 2+1,none⟩=some (.int .i64 l[i].2)
def OA (B:Nat)(w:World)(ad:Option Addr)(l:List ZD):Prop:=0<l.length→∃ b off,ad=some ⟨b,off,none⟩∧b<B∧b<w.heap.size∧∀ i,(hi:i<l.length)→∃ ap cp ac cc am wn cm ae ce,Db l[i] B ap cp ac cc am wn cm ae ce w∧∀ j u,(jB l[i] ap cp ac cc am wn cm ae ce)[j]?=some u→w.cell? ⟨b,off+i * 15+j,none⟩=some u
theorem TD.ru {B:Nat}{w W:World}{ai:Option Addr}{l:List (List UInt8 × Int)}(h:TD B w ai l)(hW:Below B w W):TD B W ai l:=fun h0=>by
 obtain⟨b,off,q1,q2,q3,q4⟩:=h h0;exact⟨b,off,q1,q2,Nat.lt_of_lt_of_le q3 hW.size,fun i hi=>⟨(hW.cell (p:=⟨b,off+i * 2,none⟩) q2).trans (q4 i hi).1,(hW.cell (p:=⟨b,off+i * 2+1,none⟩) q2).trans (q4 i hi).2⟩⟩
theorem OA.ru {B:Nat}{w W:World}{ad:Option Addr}{l:List ZD}(h:OA B w ad l)(hW:Below B w W):OA B W ad l:=fun h0=>by
 obtain⟨b,off,q1,q2,q3,q4⟩:=h h0;refine⟨b,off,q1,q2,Nat.lt_of_lt_of_le q3 hW.size,fun i hi=>?_⟩;obtain⟨ap,cp,ac,cc,am,wn,cm,ae,ce,q5,q6⟩:=q4 i hi;exact⟨ap,cp,ac,cc,am,wn,cm,ae,ce,q5.ru hW,fun j u hu=>(hW.cell (p:=⟨b,off+i * 15+j,none⟩) q2).trans (q6 j u hu)⟩
theorem VR {B:Nat}{w:World}{kv:Value}{zs:List ZD}(hB:B≤w.heap.size)(h:RowK Py (fun b=>b<B) w kv zs):∃ ao cap,kv=.slice ao zs.length cap∧OA B w ao zs:=by
 obtain⟨ao,cap,hv,_,hf⟩:=h.form;refine⟨ao,cap,hv,fun h0=>?_⟩;obtain⟨b,off,h1,h2,h3,h4⟩:=hf h0;refine⟨b,off,h1,h2,h3,fun i hi=>?_⟩;obtain⟨x,⟨h5,h7,h8⟩,h6⟩:=h4 i hi;obtain⟨ap,cp,e1,hp⟩:=VE h5;obtain⟨ac,cc,e2,hc⟩:=Jj h7;obtain⟨am,wn,cm,ae,ce,e3,e4⟩:=h8.slX;rw[e3,e4] at h8;refine⟨ap,cp,ac,cc,am,wn,cm,ae,ce,⟨hp,hc,h8,hB⟩,fun j u hu=>h6 j u ?_⟩;show (Py.cells zs[i] x)[j]?=some u;simp only[Py,e1,e2,e3,e4];rw[jB] at hu
 simpa [dJ] using hu
structure VT (p:ZP) (B:Nat) (ai ad:Option Addr) (w:World):Prop where
 imps:TD B w ai p.aG
 defs:OA B w ad p.defs
 hB:B≤w.heap.size
theorem VT.ru {p:ZP}{B:Nat}{ai ad:Option Addr}{w W:World}(h:VT p B ai ad w)(hW:Below B w W):VT p B ai ad W:=⟨h.imps.ru hW,h.defs.ru hW,jc h.hB hW.size⟩
theorem KQ (b:Nat)(w:World)(hbk:w.heap[b]?=some (.cells #[.pointer none,.slice none 0 0] 151 (0,0))) :
  Calls Tryz.prog 72 #[.pointer (some ⟨b,0,none⟩)] w fun e w'=>e=.returned (.string ⟨#[]⟩)∧Below w.heap.size w w':=by
 have c1:w.drew.cell? ⟨b,1,none⟩=some (.slice none 0 0):=by
  have:w.drew.heap[b]?=some (.cells #[.pointer none,.slice none 0 0] 151 (0,0)):=hbk;rw[aV this];rfl
 have hSD:(Builtin.unsafeSliceData_ #[147] 215 #[.slice none 0 0]).run Tryz.prog w.drew=.ok (.pointer none) w.drew:=Lib.run_unsafeSliceData_nil _ _ _ _ _;have hUS:(Builtin.unsafeString_ #[215,3] 9 #[.pointer none,.int .i64 0]).run Tryz.prog w.drew=.ok (.string ⟨#[]⟩) w.drew:=Lib.run_unsafeString_none _ _ _ _ _
 have mixed:Tryz.prog.follows .mixedOrders=true:=by kernel_rfl
 clear hbk;go_enter Tryz.func72,Tryz.ntmps72;go_wp2
 go_region_o
 all_goals (go_wp2;go_ret;exact⟨rfl,(bI _ w).drew⟩)
theorem Jm {α:Type}{f:α→List UInt8}{l:List α}{k:Nat}(h:k<l.length):(l.take (k+1)).flatMap f=(l.take k).flatMap f++f l[k]:=by
 rw[Dg h,List.flatMap_append,List.flatMap_singleton]
theorem TF {α:Type}(f:α→List UInt8)(l:List α)(k:Nat):((l.take k).flatMap f).length≤(l.flatMap f).length:=by
 conv=>rhs;rw[← List.take_append_drop k l,List.flatMap_append,bN]
 omega
theorem OB {α:Type}{p:α→Bool}{l:List α}{k:Nat}(h:k<l.length)(h1:(l.take k).all p=true)(h2:p l[k]=true):(l.take (k+1)).all p=true:=by
 rw[Dg h,List.all_append,h1];simpa using h2
theorem TG {α:Type}{p:α→Bool}{l:List α}{k:Nat}(h:k<l.length)(h2:p l[k]=false):l.all p=false:=by
 rw[← Bool.not_eq_true,List.all_eq_true];intro q;have:=q _ (mX h);rw[h2] at this;cases this
theorem ZP.Tq {p:ZP}(h:0<p.aG.length∨0<p.defs.length):p.text≠[]:=by
 intro q;have hq:=congrArg List.length q;rw[ZP.text,bN,gX] at hq
 rcases h with h|h
 ·match hi:p.aG,h with
  | m :: l,_=>rw[hi] at hq;simp[sF] at hq
 ·match hi:p.defs,h with
  | d :: l,_=>rw[hi] at hq;simp[ZD.text] at hq
def lS (p:ZP)(w:World)(r:Ending)(w':World):Prop:=(r=.returned (.tuple #[.string ⟨(if p.right=true then p.text else []).toArray⟩,.int .i64 (if p.right=true then 0 else 10)]))∧Below w.heap.size w w'
theorem lS.no {p:ZP}{w w':World}(h:p.right=false)(hb:Below w.heap.size w w'):lS p w (.returned (.tuple #[.string ⟨#[]⟩,.int .i64 10])) w':=⟨by rw[h];rfl,hb⟩
theorem lS.yes {p:ZP}{w w':World}(h:p.right=true)(hb:Below w.heap.size w w'):lS p w (.returned (.tuple #[.string ⟨p.text.toArray⟩,.int .i64 0])) w':=⟨by rw[h];rfl,hb⟩
theorem eZ {w:World}{b:Nat}{c0 c1:Value}(h:w.heap[b]?=some (.cells #[c0,c1] 26 (0,0))):w.cell? ⟨b,0,none⟩=some c0∧w.cell? ⟨b,1,none⟩=some c1:=by
 refine⟨?_,?_⟩<;>(rw[aV h];rfl)
theorem Ad {w:World}{b:Nat}{c0 c1:Value}(h:w.heap[b]?=some (.cells #[c0,c1] 91 (0,0))):w.cell? ⟨b,0,none⟩=some c0∧w.cell? ⟨b,1,none⟩=some c1:=by
 refine⟨?_,?_⟩<;>(rw[aV h];rfl)
theorem KR (p:ZP)(hf:p.fit)(B:Nat)(ai:Option Addr)(ci:Nat)(ad:Option Addr)(cd:Nat)(w:World)(h:VT p B ai ad w)(hn:p.text.length≤1099511627776) :
  Calls Tryz.prog 76 #[.agg #[.slice ai p.aG.length ci,.slice ad p.defs.length cd]] w (lS p w):=by
 obtain⟨f1,f2,f3,f4⟩:=hf;have hal:=aB w (.cells #[.slice ai p.aG.length ci,.slice ad p.defs.length cd] 26);have hN:=aY w (.cells #[.slice ai p.aG.length ci,.slice ad p.defs.length cd] 26)
 by_cases h16:p.aG.length≤16
 ·by_cases h64:p.defs.length≤64
  ·have hdef:p.right=(p.aG.all (fun m=>bf m.1) && p.defs.all ZD.sound):=by rw[ZP.right,iX h16,iX h64];rfl
   have BD:=ay hdef
   have ae9:(p.aG.length:Int)≤16:=by omega
   have agr:(p.defs.length:Int)≤64:=by omega
   have HF2:=ay f2;have HF4:=ay f4;have hB:=h.hB;have HH:=ay (h.ru (hal.mono hB));clear h hdef f1 f2 f3 f4 h16 h64;go_enter Tryz.func76,Tryz.ntmps76
   go_upto_region 1 with fail
   change Code.wp _ _ _ _ (w.alloc (.cells #[.slice ai p.aG.length ci,.slice ad p.defs.length cd] 26));generalize w.alloc (.cells #[.slice ai p.aG.length ci,.slice ad p.defs.length cd] 26)=w1 at hal hN HH ⊢;have hz1:=hal.size;have hl1:=(bS hN).1;obtain⟨y0,y1⟩:=eZ hN;have cB:=aB w1 (.cells #[.pointer none,.slice none 0 0] 151);have hbd:=jY.fresh (T:=151) w1;have hfresh:=aY w1 (.cells #[.pointer none,.slice none 0 0] 151);have Il:=(cB.block w.heap.size hl1).trans hN;have hH2:=HH.out.ru (cB.mono HH.out.hB)
   go_upto_region 4 with fail
   change Code.wp _ _ _ _ (w1.alloc (.cells #[.pointer none,.slice none 0 0] 151));clear y0 y1 hN HH
   have hz2:w1.heap.size<(w1.alloc (.cells #[.pointer none,.slice none 0 0] 151)).heap.size:=by simp
   generalize w1.alloc (.cells #[.pointer none,.slice none 0 0] 151)=w2 at cB hbd hfresh Il hH2 hz2 ⊢;have Lv:=ay hbd;have HFR:=ay hfresh;have HN2:=ay Il;have HH:=ay hH2;obtain⟨y0,y1⟩:=eZ Il;have lF:Below w.heap.size w w2:=hal.trans (cB.mono hz1);clear hbd hfresh Il hH2 hal cB
   have hl2:∀ k,(p.aG.take k).flatMap sF++[]=(p.aG.take k).flatMap sF:=fun _=>List.append_nil _
   clear hl2;go_wp2
   go_loopw [24] (fun q wr=>∃ k:Nat,k≤p.aG.length∧q=.int .i64 k∧(p.aG.take k).all (fun m=>bf m.1)=true∧iD w2 w1.heap.size w1.heap.size ((p.aG.take k).flatMap sF) wr∧(k=0→wr=w2)) (fun q _=>p.aG.length - (intOf q).toNat)
   case atStart=>exact⟨0,lI _,rfl,rfl,by simpa using iD.start Lv.out,fun _=>rfl⟩
   case round =>
    obtain⟨k,hkl,rfl,hall,st,hk0⟩:=hrel;have Fv:=st.kM.size;have HST:=ay st;have Dc:=ay hall;have Tp:=ay hk0;clear st hall hk0
    by_cases hlt:k<p.aG.length
    ·have hH:=HH.out.ru (HST.out.kM.mono (jc hB hz1))
     obtain⟨ib,io,rfl,hiB,hiw,hic⟩:=hH.imps (by omega);obtain⟨x0,x1⟩:=hic k hlt
     have pR:(k:Int)<(p.aG.length:Int):=by omega
     have hsn:=Jm (f:=sF) hlt;have hle:=TF sF p.aG (k+1)
     have htl:(p.aG.flatMap sF).length≤p.text.length:=by rw[ZP.text,bN];omega
     rw[hsn] at hle;have hnm:=HF2.out _ (mX hlt);have OC:=ay (fun (q:bf p.aG[k].1=false)=>(show p.right=false by rw[BD.out,TG (p:=fun m=>bf m.1) hlt q];rfl));have RG:=ay (fun (q:bf p.aG[k].1=true)=>OB (p:=fun m=>bf m.1) hlt Dc.out q);have qx:=ay hsn;clear hic hH hsn Dc Tp;generalize p.aG[k]=m at *;generalize (p.aG.take k).flatMap sF=c at *
     have hil:(sF m).length=7+m.1.length+2:=by simp[sF];omega
     have gW:=aB wr (.cells #[.string ⟨m.1.toArray⟩,.int .i64 m.2] 91);have hM:=aY wr (.cells #[.string ⟨m.1.toArray⟩,.int .i64 m.2] 91);have s1:=HST.out.below gW (by omega)
     go_upto_region 7 with fail
     change Code.wp _ _ _ _ (wr.alloc (.cells #[.string ⟨m.1.toArray⟩,.int .i64 m.2] 91));clear x0 x1;have hz3:=gW.size;generalize wr.alloc (.cells #[.string ⟨m.1.toArray⟩,.int .i64 m.2] 91)=w3 at gW hM s1 hz3 ⊢;obtain⟨v0,v1⟩:=Ad hM
     have eNz:(ByteArray.mk m.1.toArray).size=m.1.length:=by show m.1.toArray.size=_;simp
     have HP:=ay (lY ⟨m.1.toArray⟩ w3 (by rw[eNz];omega));have eN:(ByteArray.mk m.1.toArray).data.toList=m.1:=rfl;rw[eN] at HP;clear eN;have hM3:=(bS hM).1
     cases hpl:bf m.1 with
     | false =>
      rw[hpl] at HP;have hbw:=lF.trans (s1.kM.mono (by omega:w.heap.size≤w1.heap.size));have hres:=OC.out hpl;have pX:=ay hres;clear OC RG HST s1 hM gW hres hpl qx;go_wp2_with (go_at_call 42;refine HP.out.mono ?_;rintro r w4 ⟨rfl,hb4⟩);go_ret2;exact lS.no pX.out (hbw.trans (hb4.mono hbw.size))
     | true =>
      rw[hpl] at HP;have hyes:=RG.out hpl;have HY:=ay hyes;clear OC RG hyes hpl
      go_upto_region 9 with (go_at_call 42;refine HP.out.mono ?_;rintro r w4 ⟨rfl,hb4⟩)
      have s2:=s1.below hb4 (by omega);obtain⟨v0',v1'⟩:=Ad ((hb4.block wr.heap.size hM3).trans hM);have zF:=hb4.size
      have HW:=ay (show Calls _ _ _ _ (bQ w1.heap.size w1.heap.size (c++sF m) w4) from (by
       have:=xq ⟨#[105,109,112,111,114,116,32]⟩ ⟨m.1.toArray⟩ ⟨#[59,10]⟩ w1.heap.size w1.heap.size c w4 s2.lu (by omega) (by rw[eNz];show c.length+7+m.1.length+2≤_;rw[bN,hil] at hle;omega)
       have e:c++sF m=c++((ByteArray.mk #[105,109,112,111,114,116,32]).data.toList++((ByteArray.mk m.1.toArray).data.toList++(ByteArray.mk #[59,10]).data.toList)):=by show c++sF m=c++([105,109,112,111,114,116,32]++(m.1++[59,10]));rw[sF,nQ]
       rw[e]
       exact this))
      have HS2:=ay s2;clear HP v0 v1 s1 s2 hb4 hM gW HST;go_wp2_with (go_at_call 123;refine HW.out.mono ?_;rintro r w5 h5;obtain rfl:=h5.eq)
      go_roundw
      case rel=>exact⟨k+1,by omega,by go_num,HY.out,by rw[qx.out];exact HS2.out.write h5,fun q=>absurd q (by omega)⟩
      case measure=>simp[intOf];omega
    ·obtain rfl:k=p.aG.length:=by omega
     have pR:decide ((p.aG.length:Int)<(p.aG.length:Int))=false:=dA (by omega);rw[List.take_length] at Dc HST;obtain⟨z0,z1⟩:=eZ (HST.out.box Lv.out HN2.out (by decide) (by decide))
     have acv:p.right=p.defs.all ZD.sound:=by rw[BD.out,Dc.out,Bool.true_and]
     have TH:=ay acv;clear Dc acv y0 y1
     obtain⟨wo,rfl⟩:∃ wo:World,wo=wr:=⟨_,rfl⟩
     go_wp2
     go_loopw [41] (fun q wr=>∃ j:Nat,j≤p.defs.length∧q=.int .i64 j∧(p.defs.take j).all ZD.sound=true∧iD w2 w1.heap.size w1.heap.size (p.aG.flatMap sF++(p.defs.take j).flatMap ZD.text) wr∧(j=0→wr=wo)) (fun q _=>p.defs.length - (intOf q).toNat)
     case atStart=>exact⟨0,lI _,rfl,rfl,by simpa using HST.out,fun _=>rfl⟩
     case round =>
      obtain⟨j,hjl,rfl,hall,st,hj0⟩:=hrel;have hzd:=st.kM.size;have HSD:=ay st;have Dc:=ay hall;have HJ0:=ay hj0;clear st hall hj0
      by_cases hlt:j<p.defs.length
      ·have hH:=HH.out.ru (HSD.out.kM.mono (jc hB hz1))
       obtain⟨db,RH,rfl,hdB,hdw,hdc⟩:=hH.defs (by omega);obtain⟨ap,cp,ac,cc,am,wn,cm,ae,ce,hD,hcl⟩:=hdc j hlt
       have JZ:(j:Int)<(p.defs.length:Int):=by omega
       have hsn:=Jm (f:=ZD.text) hlt;have hle:=TF ZD.text p.defs (j+1)
       have htl:(p.aG.flatMap sF).length+(p.defs.flatMap ZD.text).length=p.text.length:=by rw[ZP.text,bN]
       rw[hsn] at hle;have hdf:=HF4.out _ (mX hlt);have OC:=ay (fun (q:p.defs[j].sound=false)=>(show p.right=false by rw[TH.out,TG (p:=ZD.sound) hlt q]));have RG:=ay (fun (q:p.defs[j].sound=true)=>OB (p:=ZD.sound) hlt Dc.out q);have qx:=ay hsn;clear hdc hH hsn Dc HJ0 Tp;generalize p.defs[j]=d at *;generalize (p.defs.take j).flatMap ZD.text=c at *;generalize p.aG.flatMap sF=ic at *;have x0:wr.cell? ⟨db,RH+j * 15,none⟩=some (.bool d.pub):=hcl 0 _ rfl;have x1:wr.cell? ⟨db,RH+j * 15+1,none⟩=some (.string ⟨d.res.name.toArray⟩):=hcl 1 _ rfl;have x2:wr.cell? ⟨db,RH+j * 15+2,none⟩=some (.slice ap d.params.length cp):=hcl 2 _ rfl;have x3:wr.cell? ⟨db,RH+j * 15+3,none⟩=some (.int .i64 d.res.base):=hcl 3 _ rfl;have x4:wr.cell? ⟨db,RH+j * 15+4,none⟩=some (.slice ac d.res.aC.length cc):=hcl 4 _ rfl;have x5:wr.cell? ⟨db,RH+j * 15+5,none⟩=some (.int .i64 d.body.op):=hcl 5 _ rfl;have x6:wr.cell? ⟨db,RH+j * 15+6,none⟩=some (.string ⟨d.body.name.toArray⟩):=hcl 6 _ rfl;have x7:wr.cell? ⟨db,RH+j * 15+7,none⟩=some (.string ⟨d.body.module.toArray⟩):=hcl 7 _ rfl;have x8:wr.cell? ⟨db,RH+j * 15+8,none⟩=some (.bool (decide (d.body.num<0))):=hcl 8 _ rfl;have x9:wr.cell? ⟨db,RH+j * 15+9,none⟩=some (.slice am wn cm):=hcl 9 _ rfl;have x10:wr.cell? ⟨db,RH+j * 15+10,none⟩=some (.bool d.body.yes):=hcl 10 _ rfl;have x11:wr.cell? ⟨db,RH+j * 15+11,none⟩=some (.slice ae d.body.aA.length ce):=hcl 11 _ rfl;have x12:wr.cell? ⟨db,RH+j * 15+12,none⟩=some (.int .i64 d.body.at_):=hcl 12 _ rfl;have x13:wr.cell? ⟨db,RH+j * 15+13,none⟩=some (.int .i64 d.res.at_):=hcl 13 _ rfl;have x14:wr.cell? ⟨db,RH+j * 15+14,none⟩=some (.int .i64 d.res.bare):=hcl 14 _ rfl;have gW:=aB wr (.cells (jB d ap cp ac cc am wn cm ae ce) 66);have hM:=aY wr (.cells (jB d ap cp ac cc am wn cm ae ce) 66);have s1:=HSD.out.below gW (by omega);have hD3:=hD.below gW;clear hcl hD
       go_upto_region 14 with fail
       change Code.wp _ _ _ _ (wr.alloc (.cells (jB d ap cp ac cc am wn cm ae ce) 66));clear x0 x1 x2 x3 x4 x5 x6 x7 x8 x9 x10 x11 x12 x13 x14;have hz3:=gW.size
       have afa:wr.heap.size<(wr.alloc (.cells (jB d ap cp ac cc am wn cm ae ce) 66)).heap.size:=by simp
       generalize wr.alloc (.cells (jB d ap cp ac cc am wn cm ae ce) 66)=w3 at gW hM s1 hz3 hD3 afa ⊢;obtain⟨v0,v1,v2,v3,v4,v5,v6,v7,v8,v9,v10,v11,v12,v13,v14⟩:=bB hM;have HSO:=ay (VL d hdf B ap cp ac cc am wn cm ae ce w3 hD3);have hM3:=afa
       cases hso:d.sound with
       | false =>
        rw[hso] at HSO;have hbw:=lF.trans (s1.kM.mono (by omega:w.heap.size≤w1.heap.size));have hres:=OC.out hso;have pX:=ay hres;clear OC RG HST HSD s1 hM gW hres hso qx hD3;go_wp2_with (go_at_call 130;refine HSO.out.mono ?_;rintro r w4 ⟨rfl,hb4⟩);go_ret2;exact lS.no pX.out (hbw.trans (hb4.mono hbw.size))
       | true =>
        rw[hso] at HSO;have hyes:=RG.out hso;have HY:=ay hyes;clear OC RG hyes
        go_upto_region 16 with (go_at_call 130;refine HSO.out.mono ?_;rintro r w4 ⟨rfl,hb4⟩)
        clear v0 v1 v2 v3 v4 v5 v6 v7 v8 v9 v10 v11 v12 v13 v14;have s2:=s1.below hb4 (by omega);obtain⟨v0,v1,v2,v3,v4,v5,v6,v7,v8,v9,v10,v11,v12,v13,v14⟩:=bB ((hb4.block wr.heap.size hM3).trans hM);have zF:=hb4.size;have HW:=ay (Zg d hso hdf B w1.heap.size w1.heap.size ap cp ac cc am wn cm ae ce (ic++c) w4 (hD3.below hb4) (by omega) s2.lu (by omega) (by rw[bN] at hle ⊢;omega));have HS2:=ay s2;clear HSO s1 s2 hb4 hM gW HST HSD hD3 hso;go_wp2_with (go_at_call 131;refine HW.out.mono ?_;rintro r w5 h5;obtain rfl:=h5.eq)
        go_roundw
        case rel=>exact⟨j+1,by omega,by go_num,HY.out,by rw[qx.out,← nQ];exact HS2.out.write h5,fun q=>absurd q (by omega)⟩
        case measure=>simp[intOf];omega
      ·obtain rfl:j=p.defs.length:=by omega
       have JZ:decide ((p.defs.length:Int)<(p.defs.length:Int))=false:=dA (by omega);rw[List.take_length] at Dc HSD
       have hres:p.right=true:=by rw[TH.out,Dc.out]
       have pX:=ay hres;have hbw:=lF.trans (HSD.out.kM.mono (by omega:w.heap.size≤w1.heap.size));have hbd:=HSD.out.lu;have JK:(⟨w1.heap.size,0,none⟩:Addr).block<wr.heap.size:=hbd.lt;have hpt:p.aG.flatMap sF++p.defs.flatMap ZD.text=p.text:=rfl;rw[hpt] at hbd
       by_cases he:0<p.aG.length∨0<p.defs.length
       ·have HS:=ay (Y6 w1.heap.size w1.heap.size p.text wr hbd (ZP.Tq he))
        clear hbd Dc HSD HST hres hpt he TH BD Tp HJ0;go_wp2_with (go_at_call 72;refine HS.out.mono ?_;rintro r w5 ⟨rfl,hb5⟩);go_ret2;exact lS.yes pX.out (hbw.trans (hb5.mono (by omega)))
       ·have hi0:p.aG.length=0:=by omega
        have hd0:p.defs.length=0:=by omega
        obtain rfl:=HJ0.out hd0;obtain rfl:=Tp.out hi0
        have htx:p.text=[]:=by rw[ZP.text,List.eq_nil_of_length_eq_zero hi0,List.eq_nil_of_length_eq_zero hd0];rfl
        have Px:=ay htx;have HS:=ay (KQ w1.heap.size _ HFR.out);clear hbd Dc HSD HST hres hpt he TH BD Tp HJ0 hi0 hd0 htx;go_wp2_with (go_at_call 72;refine HS.out.mono ?_;rintro r w5 ⟨rfl,hb5⟩);go_ret2;have:=lS.yes (p:=p) pX.out (hbw.trans (hb5.mono hbw.size));rw[Px.out] at this;exact this
  ·have hres:p.right=false:=by rw[ZP.right,dA h64];simp
   have pX:=ay hres
   have ae9:(p.aG.length:Int)≤16:=by omega
   have agr:(64:Int)<(p.defs.length:Int):=by omega
   clear h hres f2 f4 h16 h64;go_enter Tryz.func76,Tryz.ntmps76
   go_upto_region 1 with fail
   change Code.wp _ _ _ _ (w.alloc (.cells #[.slice ai p.aG.length ci,.slice ad p.defs.length cd] 26));generalize w.alloc (.cells #[.slice ai p.aG.length ci,.slice ad p.defs.length cd] 26)=w1 at hal hN ⊢;obtain⟨y0,y1⟩:=eZ hN;go_wp2;go_ret2;exact lS.no pX.out hal
 ·have hres:p.right=false:=by rw[ZP.right,dA h16];rfl
  have pX:=ay hres
  have ae9:(16:Int)<(p.aG.length:Int):=by omega
  clear h hres f2 f4 h16;go_enter Tryz.func76,Tryz.ntmps76
  go_upto_region 1 with fail
  change Code.wp _ _ _ _ (w.alloc (.cells #[.slice ai p.aG.length ci,.slice ad p.defs.length cd] 26));generalize w.alloc (.cells #[.slice ai p.aG.length ci,.slice ad p.defs.length cd] 26)=w1 at hal hN ⊢;obtain⟨y0,y1⟩:=eZ hN;go_wp2;go_ret2;exact lS.no pX.out hal
def Ae:List (List UInt8)→List (List UInt8)→Bool
 | _,[]=>true
 | seen,m :: l=>bf m && (!decide (m∈seen) && Ae (fH (seen++[m])) l)
theorem RI (m:List UInt8)(w:World)(hm:m.length≤65536):Calls Tryz.prog 13 #[.agg #[.string ⟨m.toArray⟩,.slice none 0 0]] w fun r w'=>r=.returned (.bool (bf m))∧Below w.heap.size w w':=by
 have hal:=aB w (.cells #[.string ⟨m.toArray⟩,.slice none 0 0] 31);have hN:=aY w (.cells #[.string ⟨m.toArray⟩,.slice none 0 0] 31);have HP:=ay (fun V=>lY ⟨m.toArray⟩ V (by show m.toArray.size≤_;simp;omega));simp only at HP;generalize bf m=pl at *;go_enter Tryz.func13,Tryz.ntmps13
 go_upto_region 1 with fail
 change Code.wp _ _ _ _ (w.alloc (.cells #[.string ⟨m.toArray⟩,.slice none 0 0] 31));generalize w.alloc (.cells #[.string ⟨m.toArray⟩,.slice none 0 0] 31)=w1 at *;have hl1:=(bS hN).1;have hz1:=hal.size;obtain⟨y0,y1⟩:=l9 hN;have HN:=ay hN;clear hN
 cases pl with
 | false =>
  go_wp2_with (go_at_call 42;refine(HP.out _).mono ?_;rintro r w2 ⟨rfl,hb2⟩);go_ret;exact⟨rfl,hal.trans (hb2.mono hz1)⟩
 | true =>
  go_upto_region 3 with (go_at_call 42;refine(HP.out _).mono ?_;rintro r w2 ⟨rfl,hb2⟩;obtain⟨z0,z1⟩:=l9 ((hb2.block _ hl1).trans HN.out))
  go_wp2
  go_loopw [4,18] (fun _ q wr=>q=.int .i64 0∧wr=w2) (fun _ _ _=>0)
  case atStart=>exact⟨rfl,rfl⟩
  case round =>
   obtain⟨rfl,rfl⟩:=hrel;go_wp2;go_ret;exact⟨rfl,hal.trans (hb2.mono hz1)⟩
theorem RJ (md:List UInt8)(db lb Bp:Nat)(im:Value)(f:Fl)(p:ZP)(ai:Option Addr)(ci:Nat)(ad:Option Addr)(cd:Nat)(af:Option Addr)(cf:Nat)(ms:List (List UInt8))(w:World)(hL:l8 ⟨md,.slice ai p.aG.length ci,.slice ad p.defs.length cd,.slice af ms.length cf,db⟩ lb im f w)
  (hfit:p.fit) (hp:VT p Bp ai ad w) (hn:p.text.length≤1099511627776) (hF:RowK Tz (fun _=>True) w (.slice af ms.length cf) ms) (hms:ms.length≤1000∧∀ m∈ms,m.length≤65536) (hmd:md.length≤65536) :
  Calls Tryz.prog 47 #[.pointer (some ⟨lb,0,none⟩)] w fun r w'=>r=.returned (.bool (p.right && (bf md && Ae [] ms)))∧Below w.heap.size w w':=by
 obtain⟨⟨k0,k1,k2,k3,k4,k5,k6,k7⟩,-⟩:=hL.cells;have HSP:=ay (KR p hfit Bp ai ci ad cd w hp hn);unfold lS at HSP;have HP:=ay (fun V=>lY ⟨md.toArray⟩ V (by show md.toArray.size≤_;simp;omega));simp only at HP;obtain⟨ae',ce',hv,_,hform⟩:=hF.form;simp only[Value.slice.injEq] at hv;obtain⟨rfl,-,rfl⟩:=hv;have HF:=ay hform;have HMS:=ay hms;have hm1:=hms.1;have hlw:=hL.lt;have HL0:=ay hL;clear hL hfit hp hn hF hform hms
 obtain⟨rs,hrs⟩:∃ rs:Bool,rs=Ae [] ms:=⟨_,rfl⟩
 rw[← hrs];have HRS:=ay hrs;clear hrs;generalize p.right=pr at *;generalize bf md=pl at *;generalize p.text=tx at *;go_enter Tryz.func47,Tryz.ntmps47
 cases pr with
 | false =>
  have RL:=HSP.out
  (try simp only[Bool.false_eq_true,if_false,if_true] at RL)
  have abS:=ay RL;clear HSP RL HP;go_wp2_with (go_at_call 76;refine abS.out.mono ?_;rintro r w2 ⟨rfl,hb2⟩);go_ret;exact⟨rfl,hb2⟩
 | true =>
  have RL:=HSP.out
  (try simp only[Bool.false_eq_true,if_false,if_true] at RL)
  have abS:=ay RL;clear HSP RL
  go_upto_region 2 with (go_at_call 76;refine abS.out.mono ?_;rintro r w2 ⟨rfl,hb2⟩)
  have hz2:=hb2.size;have hL2:=HL0.out.below hb2;have HL2:=ay hL2;clear k0 k1 k2 k3 k4 k5 k6 k7 abS;obtain⟨⟨k0,k1,k2,k3,k4,k5,k6,k7⟩,-⟩:=hL2.cells;clear hL2
  cases pl with
  | false =>
   go_wp2_with (go_at_call 42;refine(HP.out _).mono ?_;rintro r w3 ⟨rfl,hb3⟩);go_ret;exact⟨rfl,hb2.trans (hb3.mono hz2)⟩
  | true =>
   go_upto_region 4 with (go_at_call 42;refine(HP.out _).mono ?_;rintro r w3 ⟨rfl,hb3⟩)
   clear k0 k1 k2 k3 k4 k5 k6 k7;have adv:=hb2.trans (hb3.mono hz2);have hL3:=HL2.out.below hb3;have hz3:=hb3.size;have hal:=aB w3 (.cells #[.slice none 0 0] 107);have gv:=aY w3 (.cells #[.slice none 0 0] 107);have hb4:=adv.trans (hal.mono adv.size);have hL4:=hL3.below hal;obtain⟨⟨k0,k1,k2,k3,k4,k5,k6,k7⟩,-⟩:=hL4.cells
   have hvl:w3.heap.size<(w3.alloc (.cells #[.slice none 0 0] 107)).heap.size:=by simp
   go_upto_region 5 with fail
   change Code.wp _ _ _ _ (w3.alloc (.cells #[.slice none 0 0] 107));generalize w3.alloc (.cells #[.slice none 0 0] 107)=w4 at *;have HG:=ay gv;clear hL3 hL4 gv;generalize hvv:w3.heap.size=vb at *
   have hwv:w.heap.size≤vb:=by have:=adv.size;omega
   go_wp2;clear k0 k1 k2 k3 k4 k5 k6 k7
   go_loopw [7,31] (fun _ q wr=>∃ (k:Nat) (ab:Option Addr) (cb:Nat) (bd:List (List UInt8)),k≤ms.length∧q=.int .i64 k∧rs=Ae bd (ms.drop k)∧wr.heap[vb]?=some (.cells #[.slice ab bd.length cb] 107 (0,0))∧gD (fun b=>b≠vb) wr (.slice ab bd.length cb) bd∧bd.Pairwise (· < ·)∧bd.length≤k∧Below w.heap.size w wr) (fun _ q _=>ms.length - (intOf q).toNat)
   case atStart=>exact⟨0,none,0,[],lI _,rfl,by rw[HRS.out];rfl,HG.out,gD.nil _ _,List.Pairwise.nil,lI _,hb4⟩
   case round =>
    obtain⟨k,ab,cb,bd,hk,rfl,hres,hvb,htr,hrr,hbk,hbl⟩:=hrel;have Fv:=hbl.size;have hvr:=(bS hvb).1;have pX:=ay hres;have HVB:=ay hvb;have QF:=ay htr;have HRR:=ay hrr;clear hres hvb htr hrr
    by_cases hlt:k<ms.length
    ·obtain⟨b,off,rfl,_,hbw,hcell⟩:=HF.out (by omega)
     obtain⟨_,_,hc⟩:=hcell k hlt;have x0:=(hbl.cell (p:=⟨b,off+k * 2+0,none⟩) hbw).trans (hc 0 _ rfl);have x1:=(hbl.cell (p:=⟨b,off+k * 2+1,none⟩) hbw).trans (hc 1 _ rfl);rw[Nat.add_zero] at x0;have hdr:ms.drop k=ms[k] :: ms.drop (k+1):=List.drop_eq_getElem_cons hlt;have hmm:=HMS.out.2 _ (mX hlt)
     have pR:(k:Int)<(ms.length:Int):=by omega
     have HDR:=ay hdr;clear hc hcell hdr;generalize ms[k]=y at *;have FD:Hid (rs=(bf y && (!decide (y∈bd) && Ae (fH (bd++[y])) (ms.drop (k+1))))):=ay (by rw[pX.out,HDR.out,Ae]);have cB:=aB wr (.cells #[.string ⟨y.toArray⟩,.slice none 0 0] 31);have hN:=aY wr (.cells #[.string ⟨y.toArray⟩,.slice none 0 0] 31);clear pX HDR
     go_upto_region 8 with fail
     change Code.wp _ _ _ _ (wr.alloc (.cells #[.string ⟨y.toArray⟩,.slice none 0 0] 31));clear x0 x1
     have hyl:wr.heap.size<(wr.alloc (.cells #[.string ⟨y.toArray⟩,.slice none 0 0] 31)).heap.size:=by simp
     generalize wr.alloc (.cells #[.string ⟨y.toArray⟩,.slice none 0 0] 31)=w5 at *;have SH:=cB.size;have gv5:=(cB.block _ hvr).trans HVB.out;have hT5:=QF.out.below cB;have hb5:=hbl.trans (cB.mono Fv);have HFR:=ay (RI y w5 hmm);have HN5:=ay hN;have HV5:=ay gv5;have HT5:=ay hT5;obtain⟨y0,y1⟩:=l9 hN;generalize bf y=py at *;clear hN gv5 hT5 HVB QF
     cases py with
     | false =>
      have HE:Hid (rs=false):=ay (by rw[FD.out];rfl);clear FD;go_wp2_with (go_at_call 13;refine HFR.out.mono ?_;rintro r w6 ⟨rfl,hb6⟩);go_ret;exact⟨by rw[HE.out];rfl,hb5.trans (hb6.mono hb5.size)⟩
     | true =>
      have HH:=ay (fun W (hW:Below w5.heap.size w5 W)=>Dj _ ab cb bd ⟨y.toArray⟩ W (HT5.out.below hW) HRR.out (by omega));simp only at HH;have HW0:=ay (fun W (hW:Below w5.heap.size w5 W)=>Fw (fun _=>True) ab cb (.slice (some ⟨W.heap.size,0,none⟩) 1 1) bd [y] (W.alloc (.cells #[.string ⟨y.toArray⟩] 9)) (((HT5.out.below hW).below (aB W _)).imp fun _ _ _=>trivial) (KM W y) (by omega) (by simp));have hsl:=sJ (bd++[y]);rw[bN,List.length_singleton] at hsl;have HSR:=ay (vD (bd++[y]));generalize fH (bd++[y])=S at *
      obtain⟨m,hm⟩:∃ m,m=decide (y∈bd):=⟨_,rfl⟩
      rw[← hm] at HH FD;clear hm
      cases m with
      | true =>
       have HE:Hid (rs=false):=ay (by rw[FD.out];rfl);clear FD HW0;go_wp2_with (first|(go_at_call 13;refine HFR.out.mono ?_;rintro r w6 ⟨rfl,hb6⟩;obtain⟨v0,v1⟩:=l9 ((hb6.block _ hyl).trans HN5.out);obtain⟨u0,uz⟩:=bL ((hb6.block _ (by omega)).trans HV5.out))|(go_at_call 54;refine(HH.out _ hb6).mono ?_;rintro r w7 ⟨rfl,wR⟩));go_ret;exact⟨by rw[HE.out];rfl,hb5.trans ((hb6.trans (wR.mono hb6.size)).mono hb5.size)⟩
      | false =>
       have HE:Hid (rs=Ae S (ms.drop (k+1))):=ay (by rw[FD.out];rfl);clear FD
       go_upto_region 10 with (first|(go_at_call 13;refine HFR.out.mono ?_;rintro r w6 ⟨rfl,hb6⟩;obtain⟨v0,v1⟩:=l9 ((hb6.block _ hyl).trans HN5.out);obtain⟨u0,uz⟩:=bL ((hb6.block _ (by omega)).trans HV5.out))|(go_at_call 54;refine(HH.out _ hb6).mono ?_;rintro r w7 ⟨rfl,wR⟩))
       clear y0 y1 v0 v1 u0 uz;have Zi:=hb6.trans (wR.mono hb6.size);have hz7:=Zi.size;obtain⟨v0,v1⟩:=l9 ((Zi.block _ hyl).trans HN5.out);have gv7:=(Zi.block _ (by omega)).trans HV5.out;obtain⟨u0,uz⟩:=bL gv7;have HWx:=ay (HW0.out w7 Zi);have mU:Below w7.heap.size w7 (w7.alloc (.cells #[.string ⟨y.toArray⟩] 9)):=aB w7 _;have HV7:=ay gv7;clear gv7 HW0 HH HFR HN5 HT5
       have ags:vb<w7.heap.size:=by omega
       go_wp2_with (go_at_call 55;refine HWx.out.mono ?_;rintro e w9 ⟨a9,c9,rfl,ht9,adw⟩;have afb:=mU.trans (adw.mono (by simp));have gv9:=(afb.block _ ags).trans HV7.out;have hfz:=(bL gv9).2;have hc0:=(bL gv9).1);have hw9:=hb5.trans ((Zi.trans (afb.mono hz7)).mono hb5.size);have gvF:=heap_setCell_same w9 vb 0 _ _ (.slice a9 S.length c9) gv9
       have hTF:gD (fun b=>b≠vb) (w9.setCell ⟨vb,0,none⟩ (.slice a9 S.length c9)) (.slice a9 S.length c9) S:=(ht9.frame (aW.set _ fun b hb=>by have:=mU.size;show b≠vb;omega)).imp fun b hb _=>by have:=mU.size;omega
       have hwF:Below w.heap.size w (w9.setCell ⟨vb,0,none⟩ (.slice a9 S.length c9)):=hw9.setCell hwv _
       go_roundw
       case rel=>exact⟨k+1,a9,c9,S,by omega,by go_num,HE.out,gvF,hTF,HSR.out,by omega,hwF⟩
       case measure=>simp[intOf];omega
    ·obtain rfl:k=ms.length:=by omega
     have pR:decide ((ms.length:Int)<(ms.length:Int))=false:=dA (by omega);have HE:Hid (rs=true):=ay (by rw[pX.out,List.drop_length];rfl);go_wp2;go_ret;exact⟨by rw[HE.out];rfl,hbl⟩
theorem Tryz.VU:(Tryz.prog.info? 64).map (fun i=>(i.zero,i.size,i.bytes))=some (some (.agg #[.int .i64 0,.string ⟨#[]⟩,.string ⟨#[]⟩,.bool false,.slice none 0 0,.bool false,.slice none 0 0,.int .i64 0]),8,112):=by kernel_rfl
def adx (n:Nat)(cs:List Value)(w:World)(e:Ending)(w':World):Prop:=∃ a c,e=.returned (.slice a n c)∧nV (fun b=>w.heap.size≤b) w' (.slice a n c) 8 n cs∧Below w.heap.size w w'
theorem FE (P:Nat→Prop)(v:Value)(n:Nat)(cs:List Value)(w:World)(h:nV P w v 8 n cs)(h1:∀ u∈cs,u.oneCell'=true)(hn:n≤1000000) :
  Calls Tryz.prog 63 #[v] w (adx n cs w):=by
 obtain⟨i0,hi,hz0,hz1,hz2⟩:=info_parts Tryz.VU;obtain⟨ao,cap,rfl,hcap,hlen,hf⟩:=h
 have q22:∀ (w:World) (a:Option Addr) (n c n' c':Nat),(binOp .eql 51 (.slice a n c) (.slice none n' c')).run Tryz.prog w=.ok (.bool a.isNone) w:=fun w a n c n' c'=>Lib.run_eql_slice_nil w _ _ a n c n' c' Tryz.underlying51
 have u22:∀ w,Sem.run Tryz.prog (underlying 51) w=.ok (TypeDesc.slice 64) w:=run_underlying Tryz.underlying51
 cases ao with
 | none =>
  have hn0:n=0:=by
   rcases Nat.eq_zero_or_pos n with q|q
   ·exact q
   ·obtain⟨b,off,q1,_⟩:=hf q;cases q1
  subst hn0;obtain rfl:cs=[]:=List.eq_nil_of_length_eq_zero (by omega);clear hf hlen h1;go_enter Tryz.func63,Tryz.ntmps63;go_wp2;go_ret;exact⟨none,0,rfl,nV.nil _ _ _,bI _ _⟩
 | some ad =>
  have hnews:∀ j u,cs[j]?=some u→w.cell? (ad.add j)=some u:=fun j u hj=>by
   obtain⟨h2,h3⟩:=pJ hj;obtain⟨b,off,q1,_,_,q2⟩:=hf (by omega)
   injection q1 with q1
   rw[q1,Addr.add_lit,q2 j h2,h3]
  have agt:∀ j u,cs[j]?=some u→(ad.add j).block<w.heap.size:=fun j u hj=>by
   obtain⟨h2,h3⟩:=pJ hj;obtain⟨b,off,q1,_,q3,q2⟩:=hf (by omega)
   injection q1 with q1
   rw[q1,Addr.add_lit];exact q3
  have A:=ay hnews;have HLEN:=ay hlen;have HU:=ay h1;clear hf hlen h1 hnews;go_enter Tryz.func63,Tryz.ntmps63;go_wp2_with (at_builtin;refine wpList_append_own _ rfl _ _ 51 rfl w.heap.size 64 i0 (.agg #[.int .i64 0,.string ⟨#[]⟩,.string ⟨#[]⟩,.bool false,.slice none 0 0,.bool false,.slice none 0 0,.int .i64 0]) 8 112 Tryz.underlying51 hi hz0 hz1 hz2 rfl (by decide) _ _ _ rfl (World.ownsRow_made w #[] 0 (bD _) (lI _) rfl) ad n cap cs rfl ?qc1 ?qc2 ?qc3 ?qc4 ?qc5 ?qc6 ?_)
  case qc1=>exact HLEN.out
  case qc2 =>
   intro j u hj;have:=A.out j u hj;rw[World.cell?_of_block (gY w _ _ (agt j u hj))];exact this
  case qc3=>exact HU.out
  case qc4=>unfold maxLen;omega
  case qc5=>omega
  case qc6=>simp
  intro v' w1 hown hgrow hnil;have hb:Below w.heap.size w w1:=((bI _ w).alloc (bD _) _).grown hgrow (by simp) (by intro k hk;simp[Value.ownBlock] at hk;omega)
  have hsl:=nV.fZ (P:=fun b=>w.heap.size≤b) hown fun _ hb=>hb
  have hvf:∃ a c,v'=.slice a n c:=by
   rcases hown.2 with ⟨q,q2⟩|⟨g,jE,cur,q,_⟩
   ·exact⟨none,0,by rw[q,show n=0 by omega]⟩
   ·exact⟨_,_,q⟩
  obtain⟨a',c',rfl⟩:=hvf;clear hown hgrow hnil;go_wp2;go_ret;exact⟨a',c',rfl,hsl,hb⟩
end Go.Proofs.YtmhdgeekclhbbaaGreatDoor

namespace Go.Proofs.YtmhdgeekclhbbaaGreatDoor
end Go.Proofs.YtmhdgeekclhbbaaGreatDoor

namespace Go.Proofs.YtmhdgeekclhbbaaGreatDoor
theorem VW (op:Int):(sZ op).length≤2:=by
 unfold sZ;generalize op.toNat - 7=i
 have h:∀ x∈([[43],[45],[42],[47],[37],[61],[60,62],[60],[60,61],[62],[62,61],[38,38],[124,124],[61,62]]:List (List UInt8)),x.length≤2:=by decide
 rw[List.getD_eq_getElem?_getD]
 cases hx:([[43],[45],[42],[47],[37],[61],[60,62],[60],[60,61],[62],[62,61],[38,38],[124,124],[61,62]]:List (List UInt8))[i]? with
 | none=>simp
 | some x=>exact h x (List.mem_of_getElem? hx)
theorem Af (l:Int)(k:Int × List UInt8):(rF l k).length≤k.2.length+2:=by
 unfold rF
 split
 ·simp only[bN,dR,gX];omega
 ·omega
def Ag:List (Int × List UInt8)→Nat
 | []=>0
 | k :: l=>k.2.length+Ag l
theorem RN:∀ ks:List (Int × List UInt8),(ks.getD 0 (0,[])).2.length+(ks.getD 1 (0,[])).2.length+(ks.getD 2 (0,[])).2.length≤Ag ks
 | []=>by simp[Ag]
 | [a]=>by simp[Ag]
 | [a,b]=>by simp[Ag]
 | a :: b :: c :: l=>by simp[Ag];omega
theorem FH:∀ ks:List (Int × List UInt8),(bM (ks.map Prod.snd)).length≤Ag ks+2 * ks.length
 | []=>by simp[bM,Ag]
 | [a]=>by simp[bM,Ag]
 | a :: b :: l=>by
  have h:=FH (b :: l);simp only[List.map_cons,bM,bN,dR,gX,Ag] at h ⊢;omega
theorem VX (op:Int)(nm md:List UInt8)(num:Int)(yes:Bool)(ks:List (Int × List UInt8))(h1:nm.length≤65536)(h2:md.length≤65536)(h3:(jG num).length≤61)(h4:ks.length≤65536):(nW op nm md num yes ks).length≤Ag ks+300000:=by
 have h5:=RN ks;have h6:=FH ks;have h7:=VW op;have p1:=Af 9 (ks.getD 0 (0,[]));have p2:=Af 4 (ks.getD 0 (0,[]));have p3:=Af (vP op) (ks.getD 0 (0,[]));have p4:=Af (zG op) (ks.getD 1 (0,[]))
 have hm:(if md=[] then [] else md++[46]).length≤65537:=by
  split
  ·simp
  ·simp only[bN,dR,gX];omega
 unfold nW;generalize (if md=[] then [] else md++[46])=mm at hm ⊢
 repeat' split
 all_goals ((try simp only[bN,dR,gX]);omega)
theorem OD:∀ (k n:Nat),n<10 ^ (k+1)→(gN n).length≤k+1
 | 0,n,h=>by
  rw[gN,dif_pos (by omega)]
  simp
 | k+1,n,h=>by
  rw[gN]
  split
  ·simp
  ·rw[bN,List.length_singleton]
   have:=OD k (n / 10) (by rw[Nat.pow_succ] at h;omega);omega
theorem Zj {n:Int}(h:n.natAbs<10 ^ 60):(jG n).length≤61:=by
 unfold jG;rw[bN];have:=OD 59 n.natAbs h
 split
 ·simp only[dR,gX];omega
 ·simp only[gX];omega
mutual
theorem PZ.FI:∀ e:PZ,e.fit→e.text.length≤300000 * e.size
 | .mk op nm md num yes aA at_,h=>by
  rw[PZ.fit] at h;obtain⟨h1,h2,h3,h4,h5⟩:=h;have hs:=Ah aA h5
  have hl:(iG aA).length=aA.length:=by rw[qI,List.length_map]
  have:=VX op nm md num yes (iG aA) h1 h2 (Zj h3) (by omega);rw[PZ.text,PZ.size];omega
theorem Ah:∀ l:List PZ,Bj l→Ag (iG l)≤300000 * qd l
 | [],_=>by simp[iG,Ag]
 | e :: l,h=>by
  rw[Bj] at h;have h1:=PZ.FI e h.1;have h2:=Ah l h.2;rw[iG,Ag,qd];simp only;omega
end
theorem TI {aj:List Nd}:∀ (l:List PT) (ks:List Int) (u:Nat),fJ aj ks u l→ks.length=l.length∧∀ j,(h1:j<ks.length)→(h2:j<l.length)→oo aj ks[j] (u+bU (l.take j)) l[j]
 | [],ks,u,h=>by
  rw[fJ] at h;subst h;exact⟨rfl,fun j h1=>absurd h1 (by simp)⟩
 | i :: l,ks,u,h=>by
  rw[fJ] at h;obtain⟨k,ks',rfl,h1,h2⟩:=h;obtain⟨h3,h4⟩:=TI l ks' _ h2;refine⟨by simp[h3],fun j q1 q2=>?_⟩
  cases j with
  | zero=>simpa [bU] using h1
  | succ j =>
   have:=h4 j (by simpa using q1) (by simpa using q2);rw[List.take_succ_cons,bU,← Nat.add_assoc];exact this
theorem OE:∀ (l:List PT) (j:Nat) (h:j<l.length),bU (l.take j)+l[j].lv≤bU l
 | [],j,h=>absurd h (by simp)
 | i :: l,0,h=>by simp[bU]
 | i :: l,j+1,h=>by
  have:=OE l j (by simpa using h);rw[List.take_succ_cons,bU,bU];simp only[List.getElem_cons_succ];omega
theorem FJ (ah:List Tok):∀ (n u j:Nat) (h:j<(pU ah u n).length),(pU ah u n)[j]=(aN ah (u+3 * j+1),dS ah (u+3 * j+1))
 | 0,u,j,h=>absurd h (by simp[pU])
 | n+1,u,0,h=>rfl
 | n+1,u,j+1,h=>by
  have:=FJ ah n (u+3) j (by simpa [pU] using h);simp only[pU,List.getElem_cons_succ,this];rw[show u+3+3 * j+1=u+3 * (j+1)+1 by omega]
theorem FL (ah:List Tok):∀ (l:List dU) (u j:Nat) (h:j<l.length) (h2:j<(lZ ah u l).length),(lZ ah u l)[j]=l[j].dd ah (u+bU ((l.take j).map dU.pt))
 | [],u,j,h,_=>absurd h (by simp)
 | d :: l,u,0,h,_=>by simp[lZ,bU]
 | d :: l,u,j+1,h,h2=>by
  have:=FL ah l (u+d.pt.lv) j (by simpa using h) (by simpa [lZ] using h2);simp only[lZ,List.getElem_cons_succ,this,List.take_succ_cons,List.map_cons,bU,Nat.add_assoc]
theorem FM {ah:List Tok}:∀ (l:List dU) (u j:Nat) (h:j<l.length),Bd ah u l→l[j].ok ah (u+bU ((l.take j).map dU.pt))
 | [],u,j,h,_=>absurd h (by simp)
 | d :: l,u,0,h,ho=>by simpa [bU] using ho.1
 | d :: l,u,j+1,h,ho=>by
  have:=FM l (u+d.pt.lv) j (by simpa using h) ho.2
  simpa [bU,Nat.add_assoc] using this
theorem kW.abT (p:kW)(j:Nat)(h:j<p.imps):∃ h2:j<p.aA.length,p.aA[j]=vZ∧bU (p.aA.take j)=3 * j:=by
 have h2:j<p.aA.length:=by simp only[kW.aA,bN,List.length_replicate];omega
 refine⟨h2,?_,?_⟩
 ·simp only[kW.aA]
  rw[List.getElem_append_left (by simpa using h),List.getElem_replicate]
 ·simp only[kW.aA]
  rw[List.take_append_of_le_length (by simp;omega),List.take_replicate,Dm,Nat.min_eq_left (by omega)]
theorem kW.abU (p:kW)(j:Nat)(h:j<p.defs.length):∃ h2:p.imps+j<p.aA.length,p.aA[p.imps+j]=p.defs[j].pt∧bU (p.aA.take (p.imps+j))=3 * p.imps+bU ((p.defs.take j).map dU.pt):=by
 have h2:p.imps+j<p.aA.length:=by simp only[kW.aA,bN,List.length_replicate,List.length_map];omega
 refine⟨h2,?_,?_⟩
 ·simp only[kW.aA]
  rw[List.getElem_append_right (by simp),List.getElem_append_left (by simp;omega)]
  simp
 ·simp only[kW.aA]
  rw[List.take_append,Au (by simp),iY,Dm,List.length_replicate,Nat.add_sub_cancel_left,List.take_append_of_le_length (by simp;omega),List.map_take]
theorem kW.abV (p:kW):∃ h2:p.imps+p.defs.length<p.aA.length,p.aA[p.imps+p.defs.length]=.leaf:=by
 have h2:p.imps+p.defs.length<p.aA.length:=by simp only[kW.aA,bN,List.length_replicate,List.length_map,List.length_singleton];omega
 refine⟨h2,?_⟩;simp only[kW.aA];rw[List.getElem_append_right (by simp),List.getElem_append_right (by simp)]
 simp
theorem kW.Zk (p:kW):p.aA.length=p.imps+p.defs.length+1:=by
 simp only[kW.aA,bN,List.length_replicate,List.length_map,List.length_singleton];omega
inductive It where
 | leaf
 | expr (e:CE)
 | par (t:gB)
 | base
 | cl (e:CE)
def It.pt:It→PT
 | .leaf=>.leaf
 | .expr e=>e.pt
 | .par t=>t.par
 | .base=>.node 5 [.leaf]
 | .cl e=>.node 6 [.leaf,e.pt,.leaf]
structure Zl where
 base:Nat
 aC:List PE
 bare:Int
def It.step (ah:List Tok)(u:Nat):It→Zl→Zl
 | .base,a=>⟨if aN ah u=zO then 2 else 1,a.aC,((dS ah u+(aN ah u).length:Nat):Int)⟩
 | .cl e,a=>⟨a.base,[e.pe ah (u+1)],-1⟩
 | _,a=>a
def nN (ah:List Tok):Nat→List It→Zl→Zl
 | _,[],a=>a
 | u,i :: l,a=>nN ah (u+i.pt.lv) l (i.step ah u a)
theorem mO (ah:List Tok):∀ (l k:List It) (u:Nat) (a:Zl),nN ah u (l++k) a=nN ah (u+bU (l.map It.pt)) k (nN ah u l a)
 | [],k,u,a=>by simp[nN,bU]
 | i :: l,k,u,a=>by
  rw[jN,nN,mO ah l k,nN,List.map_cons,bU,Nat.add_assoc]
def fU (ah:List Tok):Nat→List It→List FF
 | _,[]=>[]
 | u,.par t :: l=>t.wB ah u :: fU ah (u+(It.par t).pt.lv) l
 | u,i :: l=>fU ah (u+i.pt.lv) l
theorem gV (ah:List Tok):∀ (l k:List It) (u:Nat),fU ah u (l++k)=fU ah u l++fU ah (u+bU (l.map It.pt)) k
 | [],k,u=>by simp[fU,bU]
 | .par t :: l,k,u=>by
  rw[jN,fU,gV ah l k,fU,List.map_cons,bU,Nat.add_assoc,jN]
 | .leaf :: l,k,u=>by
  rw[jN,fU,gV ah l k,fU,List.map_cons,bU,Nat.add_assoc]<;>simp
 | .base :: l,k,u=>by
  rw[jN,fU,gV ah l k,fU,List.map_cons,bU,Nat.add_assoc]<;>simp
 | .expr e :: l,k,u=>by
  rw[jN,fU,gV ah l k,fU,List.map_cons,bU,Nat.add_assoc]<;>simp
 | .cl e :: l,k,u=>by
  rw[jN,fU,gV ah l k,fU,List.map_cons,bU,Nat.add_assoc]<;>simp
def gB.its (t:gB):List It:=[.leaf,.base]++(match t.cl with|none=>[]|some e=>[.cl e])
theorem gB.FN (t:gB):t.its.map It.pt=t.pts:=by
 unfold gB.its gB.pts
 cases t.cl<;>rfl
def gB.qV (t:gB):List It:=.leaf :: t.its
theorem gB.VY (t:gB):t.par=.node 4 (t.qV.map It.pt):=by
 rw[gB.par,gB.qV,List.map_cons,t.FN]
 rfl
def gy:List gB→List It
 | []=>[]
 | t :: l=>.par t :: (match l with | []=>[]|_ :: _=>.leaf :: gy l)
theorem tX:∀ l:List gB,(gy l).map It.pt=kJ (l.map gB.par)
 | []=>rfl
 | [t]=>rfl
 | t :: s :: l=>by
  have:=tX (s :: l);rw[show gy (t :: s :: l)=.par t :: .leaf :: gy (s :: l) from by rw[gy],List.map_cons,List.map_cons,this];show _=kJ (t.par :: s.par :: l.map gB.par);rw[tu]
  rfl
def dU.fV (d:dU):List It:=if d.pub=true then [.leaf] else []
def dU.its (d:dU):List It:=d.fV++([.leaf,.leaf,.leaf]++(gy d.lg++([.leaf]++(d.ty.its++[.leaf,.expr d.body,.leaf]))))
theorem dU.FN (d:dU):d.pt=.node 3 (d.its.map It.pt):=by
 have h:d.fV.map It.pt=d.lead:=by unfold dU.fV dU.lead;split<;>rfl
 rw[dU.pt,dU.aA,dU.its];simp only[List.map_append,h,tX,d.ty.FN,List.map_cons,List.map_nil,It.pt]
theorem qy (ah:List Tok):∀ (l:List It) (u:Nat) (a:Zl),(∀ i∈l,(i matches .leaf)∨(i matches .par _)∨(i matches .expr _))→nN ah u l a=a
 | [],u,a,_=>rfl
 | i :: l,u,a,h=>by
  rw[nN,qy ah l _ _ fun x hx=>h x (wM _ hx)];have:=h i vB
  cases i<;>simp_all [It.step]
theorem OG (ah:List Tok)(t:gB)(u:Nat)(name:List UInt8)(at_:Nat){b0:Nat}{y0:Int}:nN ah u t.its ⟨b0,[],y0⟩=⟨(t.ff ah u name at_).base,(t.ff ah u name at_).aC,(t.ff ah u name at_).bare⟩:=by
 unfold gB.its gB.ff
 cases t.cl with
 | none=>simp[nN,It.step,It.pt,PT.lv]
 | some e=>simp[nN,It.step,It.pt,PT.lv,bU]
theorem FP:∀ l:List gB,∀ i∈gy l,(i matches .leaf)∨(i matches .par _)∨(i matches .expr _)
 | [],i,h=>by rw[gy] at h;cases h
 | [t],i,h=>by
  rw[gy,List.mem_singleton] at h;subst h;exact .inr (.inl rfl)
 | t :: s :: l,i,h=>by
  rw[show gy (t :: s :: l)=.par t :: .leaf :: gy (s :: l) from by rw[gy],List.mem_cons,List.mem_cons] at h
  rcases h with rfl|rfl|h
  ·exact .inr (.inl rfl)
  ·exact .inl rfl
  ·exact FP (s :: l) i h
theorem gB.abW (ah:List Tok)(t:gB)(u:Nat){b0:Nat}{y0:Int}:nN ah u t.qV ⟨b0,[],y0⟩=⟨(t.wB ah u).base,(t.wB ah u).aC,(t.wB ah u).bare⟩:=by
 rw[gB.qV,nN,gB.wB];exact OG ah t (u+1) _ _
theorem dU.typ (ah:List Tok)(d:dU)(u:Nat){b0:Nat}{y0:Int}:nN ah u d.its ⟨b0,[],y0⟩=⟨(d.dd ah u).res.base,(d.dd ah u).res.aC,(d.dd ah u).res.bare⟩:=by
 have h1:∀ i∈d.fV,(i matches .leaf)∨(i matches .par _)∨(i matches .expr _):=fun i h=>by
  unfold dU.fV at h
  split at h
  ·rw[List.mem_singleton] at h;subst h;exact .inl rfl
  ·cases h
 have h2:∀ i∈[It.leaf,.leaf,.leaf],(i matches .leaf)∨(i matches .par _)∨(i matches .expr _):=fun i h=>by
  simp only[List.mem_cons,List.not_mem_nil,or_false,or_self] at h;subst h;exact .inl rfl
 have h3:∀ i∈[It.leaf,.expr d.body,.leaf],(i matches .leaf)∨(i matches .par _)∨(i matches .expr _):=fun i h=>by
  simp only[List.mem_cons,List.not_mem_nil,or_false] at h
  rcases h with rfl|rfl|rfl
  ·exact .inl rfl
  ·exact .inr (.inr rfl)
  ·exact .inl rfl
 have h4:∀ i∈[It.leaf],(i matches .leaf)∨(i matches .par _)∨(i matches .expr _):=fun i h=>by
  rw[List.mem_singleton] at h;subst h;exact .inl rfl
 have hl:bU (d.fV.map It.pt)=bU d.lead:=by unfold dU.fV dU.lead;split<;>rfl
 rw[dU.its,mO,qy ah _ _ _ h1,mO,qy ah _ _ _ h2,mO,qy ah _ _ _ (FP _),mO,qy ah _ _ _ h4,mO,qy ah _ _ _ h3]
 rw[show u+bU (d.fV.map It.pt)+bU ([It.leaf,.leaf,.leaf].map It.pt)+bU ((gy d.lg).map It.pt)+bU ([It.leaf].map It.pt)=d.at2 u by
  rw[hl,tX]
  simp only[dU.at2,dU.EL,List.map_cons,List.map_nil,It.pt,bU,PT.lv]]
 exact OG ah d.ty _ _ _
theorem xA (ah:List Tok):∀ (l:List It) (u:Nat),(∀ i∈l,¬ (i matches .par _))→fU ah u l=[]
 | [],u,_=>rfl
 | i :: l,u,h=>by
  have h1:=h i vB
  have h2:=xA ah l (u+i.pt.lv) fun x hx=>h x (wM _ hx)
  cases i with
  | par t=>simp at h1
  | leaf=>rw[fU];exact h2;simp
  | base=>rw[fU];exact h2;simp
  | expr e=>rw[fU];exact h2;simp
  | cl e=>rw[fU];exact h2;simp
theorem OH (ah:List Tok):∀ (l:List gB) (u:Nat),fU ah u (gy l)=oG ah u l
 | [],u=>rfl
 | [t],u=>by rw[gy,fU,fU,oG,oG]
 | t :: s :: l,u=>by
  rw[show gy (t :: s :: l)=.par t :: .leaf :: gy (s :: l) from by rw[gy],fU,fU,OH ah (s :: l),oG]
  ·rfl
  ·simp
theorem dU.Zm (ah:List Tok)(d:dU)(u:Nat):fU ah u d.its=(d.dd ah u).params:=by
 have h1:∀ i∈d.fV,¬ (i matches .par _):=fun i h=>by
  unfold dU.fV at h
  split at h
  ·rw[List.mem_singleton] at h;subst h;simp
  ·cases h
 have h2:∀ i∈[It.leaf,.leaf,.leaf],¬ (i matches .par _):=fun i h=>by
  simp only[List.mem_cons,List.not_mem_nil,or_false,or_self] at h;subst h;simp
 have h3:∀ i∈([It.leaf]++(d.ty.its++[.leaf,.expr d.body,.leaf])),¬ (i matches .par _):=fun i h=>by
  unfold gB.its at h
  cases hc:d.ty.cl with
  | none =>
   rw[hc] at h;simp only[List.mem_append,List.mem_cons,List.not_mem_nil,or_false] at h
   rcases h with rfl|(rfl|rfl)|rfl|rfl|rfl<;>simp
  | some e =>
   rw[hc] at h;simp only[List.mem_append,List.mem_cons,List.not_mem_nil,or_false] at h
   rcases h with rfl|((rfl|rfl)|rfl)|rfl|rfl|rfl<;>simp
 have hl:bU (d.fV.map It.pt)=bU d.lead:=by unfold dU.fV dU.lead;split<;>rfl
 rw[dU.its,gV,xA ah _ _ h1,gV,xA ah _ _ h2,gV,xA ah _ _ h3,OH,qc,qc,List.append_nil,hl];simp only[List.map_cons,List.map_nil,It.pt,bU,PT.lv]
 rfl
end Go.Proofs.YtmhdgeekclhbbaaGreatDoor

namespace Go.Proofs.YtmhdgeekclhbbaaGreatDoor
open Go.RowKit Go
theorem FQ {w:World}{b:Nat}{c0 c1:Value}{T:TypeId}(h:w.heap[b]?=some (.cells #[c0,c1] T (0,0))):w.cell? ⟨b,0,none⟩=some c0∧w.cell? ⟨b,1,none⟩=some c1:=by
 constructor<;>(rw[aV h];rfl)
theorem cells3 {w:World}{b:Nat}{c0 c1 c2:Value}{T:TypeId}(h:w.heap[b]?=some (.cells #[c0,c1,c2] T (0,0))):w.cell? ⟨b,0,none⟩=some c0∧w.cell? ⟨b,1,none⟩=some c1∧w.cell? ⟨b,2,none⟩=some c2:=by
 refine⟨?_,?_,?_⟩<;>(rw[aV h];rfl)
theorem RO {w:World}{b:Nat}{c0 c1 c2 c3:Value}{T:TypeId}(h:w.heap[b]?=some (.cells #[c0,c1,c2,c3] T (0,0))):w.cell? ⟨b,0,none⟩=some c0∧w.cell? ⟨b,1,none⟩=some c1∧w.cell? ⟨b,2,none⟩=some c2∧w.cell? ⟨b,3,none⟩=some c3∧∀ j,w.frozen? ⟨b,j,none⟩=false:=by
 refine⟨?_,?_,?_,?_,fun j=>by simp[World.frozen?,h]⟩<;>(rw[aV h];rfl)
theorem mo {w:World}{b:Nat}{c0 c1 c2 c3 c4 c5 c6 c7:Value}{T:TypeId}(h:w.heap[b]?=some (.cells #[c0,c1,c2,c3,c4,c5,c6,c7] T (0,0))):(w.cell? ⟨b,0,none⟩=some c0∧w.cell? ⟨b,1,none⟩=some c1∧w.cell? ⟨b,2,none⟩=some c2∧w.cell? ⟨b,3,none⟩=some c3)∧(w.cell? ⟨b,4,none⟩=some c4∧w.cell? ⟨b,5,none⟩=some c5∧w.cell? ⟨b,6,none⟩=some c6∧w.cell? ⟨b,7,none⟩=some c7)∧∀ j,w.frozen? ⟨b,j,none⟩=false:=by
 refine⟨⟨?_,?_,?_,?_⟩,⟨?_,?_,?_,?_⟩,fun j=>by simp[World.frozen?,h]⟩<;>(rw[aV h];rfl)
structure mq (w:World) (c0 c1 c2 c3:Array Value) (t0 t1 t2 t3:TypeId) (W:World):Prop where
 s0:W.heap[w.heap.size]?=some (.cells c0 t0 (0,0))
 s1:W.heap[w.heap.size+1]?=some (.cells c1 t1 (0,0))
 s2:W.heap[w.heap.size+1+1]?=some (.cells c2 t2 (0,0))
 s3:W.heap[w.heap.size+1+1+1]?=some (.cells c3 t3 (0,0))
 al:Below w.heap.size w W
section
variable {w W W':World} {c0 c1 c2 c3:Array Value} {t0 t1 t2 t3:TypeId}
theorem mq.of (h:(((w.alloc (.cells c0 t0)).alloc (.cells c1 t1)).alloc (.cells c2 t2)).alloc (.cells c3 t3)=W):mq w c0 c1 c2 c3 t0 t1 t2 t3 W:=by
 subst h
 have ho:=fun (W:World) (o:Obj) (k:Nat) (hk:k<W.heap.size)=>gY W o k hk
 have g1:=aY (w.alloc (.cells c0 t0)) (.cells c1 t1);have g2:=aY ((w.alloc (.cells c0 t0)).alloc (.cells c1 t1)) (.cells c2 t2);have g3:=aY (((w.alloc (.cells c0 t0)).alloc (.cells c1 t1)).alloc (.cells c2 t2)) (.cells c3 t3);rw[oP] at g1;rw[oP,oP] at g2;rw[oP,oP,oP] at g3;refine⟨?_,?_,?_,g3,((((bI w.heap.size w).alloc (bD _) _).alloc (by simp) _).alloc (by simp<;>omega) _).alloc (by simp<;>omega) _⟩
 ·exact(ho _ _ _ (by simp<;>omega)).trans ((ho _ _ _ (by simp<;>omega)).trans ((ho _ _ _ (by simp)).trans (aY w (.cells c0 t0))))
 ·exact(ho _ _ _ (by simp<;>omega)).trans ((ho _ _ _ (by simp)).trans g1)
 ·exact(ho _ _ _ (by simp)).trans g2
theorem mq.drewN (h:mq w c0 c1 c2 c3 t0 t1 t2 t3 W)(n:Nat):mq w c0 c1 c2 c3 t0 t1 t2 t3 (W.drewN n):=⟨h.s0,h.s1,h.s2,h.s3,below_drewN h.al n⟩
theorem mq.drew (h:mq w c0 c1 c2 c3 t0 t1 t2 t3 W):mq w c0 c1 c2 c3 t0 t1 t2 t3 W.drew:=⟨h.s0,h.s1,h.s2,h.s3,h.al.drew⟩
theorem mq.size (h:mq w c0 c1 c2 c3 t0 t1 t2 t3 W):w.heap.size+1+1+1<W.heap.size:=(bS h.s3).1
theorem mq.later (h:mq w c0 c1 c2 c3 t0 t1 t2 t3 W)(hb:Below W.heap.size W W'):mq w c0 c1 c2 c3 t0 t1 t2 t3 W':=by
 have:=h.size;exact⟨(hb.block _ (by omega)).trans h.s0,(hb.block _ (by omega)).trans h.s1,(hb.block _ (by omega)).trans h.s2,(hb.block _ (by omega)).trans h.s3,h.al.trans (hb.mono h.al.size)⟩
end
def Rd (f B:Nat)(tv nv:Value)(ah:List Tok)(aj:List Nd)(k:Nat)(x:PE):Prop:=∀ W:World,aZ B W (.agg #[tv,nv]) ah aj→B≤W.heap.size→Calls Tryz.prog f #[.agg #[tv,nv],.int .i64 k] W (EPost XA x W)
def RdM (B:Nat)(tv nv:Value)(ah:List Tok)(aj:List Nd)(i:Nat)(jw:List PE):Prop:=∀ (op at_:Nat) (W:World),aZ B W (.agg #[tv,nv]) ah aj→B≤W.heap.size→Calls Tryz.prog 175 #[.agg #[tv,nv],.int .i64 op,.int .i64 at_,.int .i64 i] W (EPost XA (.mk op [] [] 0 [] false jw at_) W)
inductive qW (B:Nat) (tv nv:Value) (ah:List Tok) (aj:List Nd) (i:Nat) (ks:List Int) (t:Tok):Int→PE→Prop
 | group (k1:Nat) (x:PE):ks[1]?=some (k1:Int)→Rd 108 B tv nv ah aj k1 x→qW B tv nv ah aj i ks t 12 x
 | bin (x:PE):Rd 173 B tv nv ah aj i x→qW B tv nv ah aj i ks t 10 x
 | call (x:PE):Rd 174 B tv nv ah aj i x→qW B tv nv ah aj i ks t 13 x
 | not (jw:List PE):t.text=[110,111,116]→RdM B tv nv ah aj i jw→qW B tv nv ah aj i ks t 11 (.mk 6 [] [] 0 [] false jw t.place)
 | neg (jw:List PE):t.text=[45]→RdM B tv nv ah aj i jw→qW B tv nv ah aj i ks t 11 (.mk 5 [] [] 0 [] false jw t.place)
 | iff (jw:List PE):RdM B tv nv ah aj i jw→qW B tv nv ah aj i ks t 8 (.mk 21 [] [] 0 [] false jw t.place)
 | sP (jw:List PE):RdM B tv nv ah aj i jw→qW B tv nv ah aj i ks t 9 (.mk 23 [] [] 0 [] false jw t.place)
 | sO (jw:List PE) (k1:Nat) (tx:List UInt8):RdM B tv nv ah aj i jw→ks[1]?=some (k1:Int)→(∀ W:World,aZ B W (.agg #[tv,nv]) ah aj→B≤W.heap.size→Calls Tryz.prog 105 #[.agg #[tv,nv],.int .i64 k1] W fun e w'=>e=.returned (.string ⟨tx.toArray⟩)∧Below W.heap.size W w')→qW B tv nv ah aj i ks t 7 (.mk 22 tx [] 0 [] false jw t.place)
 | num (n:Nat) (txt:List UInt8):(∀ W:World,Calls Tryz.prog 176 #[.string ⟨t.text.toArray⟩] W (Yb n W))→qW B tv nv ah aj i ks t 15 (.mk 1 [] [] (n:Nat) txt false [] t.place)
 | tru:t.text=[116,114,117,101]→qW B tv nv ah aj i ks t 16 (.mk 2 [] [] 0 [] true [] t.place)
 | fls:t.text=[102,97,108,115,101]→qW B tv nv ah aj i ks t 16 (.mk 2 [] [] 0 [] false [] t.place)
 | res:qW B tv nv ah aj i ks t 17 (.mk 4 [] [] 0 [] false [] t.place)
 | PO:qW B tv nv ah aj i ks t 14 (.mk 3 t.text [] 0 [] false [] t.place)
theorem Jo (B:Nat)(tv nv:Value)(ah:List Tok)(aj:List Nd)(i:Nat)(kd:Int)(ks:List Int)(w:World)(h:aZ B w (.agg #[tv,nv]) ah aj)(hB:B≤w.heap.size)(hn:aj[i]?=some ⟨kd,-1,ks⟩)(k0:Nat)(hk0:ks[0]?=some (k0:Int))(t:Tok)(xn:Nd)(hl0:aj[k0]?=some xn)
  (ht:(∃ u:Nat,xn=⟨19,(u:Nat),[]⟩∧ah[u]?=some t)∨(xn.kind≠19∧t=⟨0,[],[],0⟩)) (x:PE) (hx:qW B tv nv ah aj i ks t kd x) :
  Calls Tryz.prog 108 #[.agg #[tv,nv],.int .i64 i] w (EPost XA x w):=by
 obtain⟨hi,hni⟩:=pJ hn;obtain⟨hk1,hk2⟩:=pJ hk0;obtain⟨hi0,afc⟩:=pJ hl0;have HT:=ay h;obtain⟨a1,c1,_,_,e⟩:=h.slices;obtain⟨b,off,cap,kv,rfl,hb,x0,x1,x2,hkv⟩:=h.node hi;obtain⟨b',off',jE,kv',e',hb',y0,_,_,_⟩:=h.node hi0
 obtain⟨⟨rfl,rfl⟩,rfl⟩:(b=b'∧off=off')∧cap=jE:=by simpa using e'
 obtain⟨rfl,-⟩:tv=.slice a1 ah.length c1∧_:=by simpa using e
 rw[hni] at x0 x1 hkv;rw[afc] at y0;simp only at x0 x1 hkv;obtain⟨ak,ck,rfl,_,xS⟩:=hkv.form;obtain⟨bk,ok,rfl,hbk,hkc⟩:=xS (by omega);have hz:=hkc 0 hk1;rw[hk2,Nat.add_zero] at hz;have WW:=ay hkc;have HL0:=ay hl0;have HX:=ay hx;have Tm:=ay ht;generalize hkk:xn.kind=kk at y0;have HKK:=ay hkk;have cB:=((bI w.heap.size w).alloc (bD _) (.cells #[.slice a1 ah.length c1,.slice (some ⟨b,off,none⟩) aj.length cap] 126)).alloc (by simp) (.cells #[.int .i64 0,.string ⟨#[]⟩,.string ⟨#[]⟩,.bool false,.slice none 0 0,.bool false,.slice none 0 0,.int .i64 0] 64);have X0:=iW cB x0;have X1:=iW cB x1;have X2:=iW cB x2
 have hiI:(i:Int)<(aj.length:Int):=by omega
 have ahJ:(k0:Int)<(aj.length:Int):=by omega
 have hkl:(0:Int)<(ks.length:Int):=by omega
 have ahK:0<ks.length:=by omega
 clear e e' hkv xS hkc hn hni afc hl0 hk0 hk2 h hx ht hkk cB x0 x1 x2;go_enter Tryz.func108,Tryz.ntmps108;go_wp2;generalize hw4:(((w.alloc _).alloc _).alloc _).alloc _=w4;have S:=mq.of hw4;obtain⟨r0,r1⟩:=FQ S.s0;obtain⟨n0,n1,n2⟩:=cells3 S.s2;have z4:=iW S.al hz;have y4:=iW S.al y0;clear hw4 X0 X1 X2
 go_quiet (fail)
 go_upto_if 27 with fail
 have S5:=S.drewN nq;clear r0 r1 n0 n1 n2 z4 y4 S;generalize w4.drewN nq=w5 at S5 ⊢;obtain⟨r0,r1⟩:=FQ S5.s0;obtain⟨n0,n1,n2⟩:=cells3 S5.s2
 go_cut [] (fun wc=>mq w #[.slice a1 ah.length c1,.slice (some ⟨b,off,none⟩) aj.length cap] #[.int .i64 0,.string ⟨#[]⟩,.string ⟨#[]⟩,.bool false,.slice none 0 0,.bool false,.slice none 0 0,.int .i64 0] #[.int .i64 kd,.int .i64 (-1),.slice (some ⟨bk,ok,none⟩) ks.length ck] #[.int .i64 t.kind,.string ⟨t.lead.toArray⟩,.string ⟨t.text.toArray⟩,.int .i64 t.place] 126 64 129 131 wc)
 case first =>
  rcases Tm.out with ⟨u,hxn,hut⟩|⟨hne,rfl⟩
  ·have hkk:=HKK.out
   rw[hxn] at hkk;obtain rfl:kk=19:=hkk.symm;have hl0:=HL0.out;rw[hxn] at hl0;have z5:=iW S5.al hz;obtain⟨hu,afd⟩:=pJ hut
   have hK:=(kF B _ _ ah aj k0 u w5.drew (HT.out.below ((S5.al.mono hB).drew)) (by have:=S5.al.size;show B≤w5.heap.size;omega) hl0 hu)
   rw[afd] at hK;unfold pQ dJ at hK;have HK:=ay hK;clear hK hut afd hkk hxn hl0 hz y0;go_wp2
   go_still_tail 5,(by kernel_rfl)
   change wpList _ _ _ _ _ w5.drew;go_wp2_with (go_at_call 61;refine HK.out.mono ?_);rintro e w6 ⟨rfl,hb6⟩;have S6:=S5.drew.later hb6;obtain⟨t0,t1,t2,t3,tz⟩:=RO S6.s3;obtain⟨S3,So,Sz⟩:=yH S6.s3 (.int .i64 t.kind) (.string ⟨t.lead.toArray⟩) (.string ⟨t.text.toArray⟩) (.int .i64 t.place);clear z5 r0 r1 n0 n1 n2;go_wp2
   go_meet
   exact⟨(So _ (by omega)).trans S6.s0,(So _ (by omega)).trans S6.s1,(So _ (by omega)).trans S6.s2,S3,(((S6.al.setCell (by show _≤w.heap.size+1+1+1;omega) _).setCell (by show _≤w.heap.size+1+1+1;omega) _).setCell (by show _≤w.heap.size+1+1+1;omega) _).setCell (by show _≤w.heap.size+1+1+1;omega) _⟩
  ·have aeN:(kk == 19)=false:=by rw[← HKK.out,← Bool.not_eq_true,beq_iff_eq];exact hne
   clear hz y0;go_wp2
   go_meet
   exact S5
 case rest =>
  have S:=hcut
  obtain⟨w7,rfl⟩:∃ w7:World,w7=wc:=⟨_,rfl⟩
  clear hcut S5 r0 r1 n0 n1 n2 hz y0 Tm HKK HL0;obtain⟨r0,r1⟩:=FQ S.s0;obtain⟨n0,n1,n2⟩:=cells3 S.s2;have hs:=S.size;have Zd:=HT.out.below (S.al.mono hB);have hB7:=jc hB S.al.size;have hx:=HX.out;clear HX;obtain⟨f0,f1,f2,f3,fz⟩:=RO S.s3
  cases hx with
  | group k1 _ h1 hF =>
   obtain⟨hp1,hp2⟩:=pJ h1;have z1:=iW S.al (WW.out 1 hp1);rw[hp2] at z1
   have ady:(1:Int)<(ks.length:Int):=by omega
   have VZ:=ay ((hF w7.drew (HT.out.below ((S.al.mono hB).drew)) hB7).mono fun _ _ h=>h.s);clear hF h1 hp2;go_wp2
   go_still_tail 5,(by kernel_rfl)
   change wpList _ _ _ _ _ w7.drew;go_wp2_with (go_at_call 108;refine VZ.out.mono ?_);rintro e w8 ⟨am,wn,cm,ae,ce,rfl,hxe,mU⟩;have D1:=(mU.block (w.heap.size+1) (show w.heap.size+1<w7.heap.size by omega)).trans S.s1;clear r0 r1 n0 n1 n2 f0 f1 f2 f3;obtain⟨⟨d0,d1,d2,d3⟩,⟨d4,d5,d6,d7⟩,dz⟩:=mo D1;go_wp2;refine bodyPost_ret (v:=.agg #[.int .i64 x.op,.string ⟨x.name.toArray⟩,.string ⟨x.module.toArray⟩,.bool (decide (x.num<0)),.slice am wn cm,.bool x.yes,.slice ae x.aA.length ce,.int .i64 x.at_]) (by simp[results,Tryz.results108,go_sem,d0,d1,d2,d3,d4,d5,d6,d7]) rfl ⟨_,_,rfl,(EPost.store (w0:=w) (b:=w.heap.size+1) hxe mU S.al.drew (by omega) (by have:=S.al.size;first|omega|(show w.heap.size+1<w7.heap.size;omega)) _ _ _ _ _ _ _ _).1,(EPost.store (w0:=w) (b:=w.heap.size+1) hxe mU S.al.drew (by omega) (by have:=S.al.size;first|omega|(show w.heap.size+1<w7.heap.size;omega)) _ _ _ _ _ _ _ _).2⟩
  | bin _ hF =>
   have VZ:=ay ((hF w7 Zd hB7).mono fun _ _ h=>h.s);clear hF;go_wp2_with (go_at_call 173;refine VZ.out.mono ?_);rintro e w8 ⟨am,wn,cm,ae,ce,rfl,hxe,mU⟩;have D1:=(mU.block (w.heap.size+1) (show w.heap.size+1<w7.heap.size by omega)).trans S.s1;clear r0 r1 n0 n1 n2 f0 f1 f2 f3;obtain⟨⟨d0,d1,d2,d3⟩,⟨d4,d5,d6,d7⟩,dz⟩:=mo D1;go_wp2;refine bodyPost_ret (v:=.agg #[.int .i64 x.op,.string ⟨x.name.toArray⟩,.string ⟨x.module.toArray⟩,.bool (decide (x.num<0)),.slice am wn cm,.bool x.yes,.slice ae x.aA.length ce,.int .i64 x.at_]) (by simp[results,Tryz.results108,go_sem,d0,d1,d2,d3,d4,d5,d6,d7]) rfl ⟨_,_,rfl,(EPost.store (w0:=w) (b:=w.heap.size+1) hxe mU S.al (by omega) (by have:=S.al.size;first|omega|(show w.heap.size+1<w7.heap.size;omega)) _ _ _ _ _ _ _ _).1,(EPost.store (w0:=w) (b:=w.heap.size+1) hxe mU S.al (by omega) (by have:=S.al.size;first|omega|(show w.heap.size+1<w7.heap.size;omega)) _ _ _ _ _ _ _ _).2⟩
  | call _ hF =>
   have VZ:=ay ((hF w7 Zd hB7).mono fun _ _ h=>h.s);clear hF;go_wp2_with (go_at_call 174;refine VZ.out.mono ?_);rintro e w8 ⟨am,wn,cm,ae,ce,rfl,hxe,mU⟩;have D1:=(mU.block (w.heap.size+1) (show w.heap.size+1<w7.heap.size by omega)).trans S.s1;clear r0 r1 n0 n1 n2 f0 f1 f2 f3;obtain⟨⟨d0,d1,d2,d3⟩,⟨d4,d5,d6,d7⟩,dz⟩:=mo D1;go_wp2;refine bodyPost_ret (v:=.agg #[.int .i64 x.op,.string ⟨x.name.toArray⟩,.string ⟨x.module.toArray⟩,.bool (decide (x.num<0)),.slice am wn cm,.bool x.yes,.slice ae x.aA.length ce,.int .i64 x.at_]) (by simp[results,Tryz.results108,go_sem,d0,d1,d2,d3,d4,d5,d6,d7]) rfl ⟨_,_,rfl,(EPost.store (w0:=w) (b:=w.heap.size+1) hxe mU S.al (by omega) (by have:=S.al.size;first|omega|(show w.heap.size+1<w7.heap.size;omega)) _ _ _ _ _ _ _ _).1,(EPost.store (w0:=w) (b:=w.heap.size+1) hxe mU S.al (by omega) (by have:=S.al.size;first|omega|(show w.heap.size+1<w7.heap.size;omega)) _ _ _ _ _ _ _ _).2⟩
  | not jw htx hM =>
   have VZ:=ay ((hM 6 t.place w7 Zd hB7).mono fun _ _ h=>h.m);rw[htx] at f2;clear htx;clear hM;go_wp2_with (go_at_call 175;refine VZ.out.mono ?_);rintro e w8 ⟨am,wn,cm,ae,ce,rfl,hxe,mU⟩;have D1:=(mU.block (w.heap.size+1) (show w.heap.size+1<w7.heap.size by omega)).trans S.s1;clear r0 r1 n0 n1 n2 f0 f1 f2 f3;obtain⟨⟨d0,d1,d2,d3⟩,⟨d4,d5,d6,d7⟩,dz⟩:=mo D1;go_wp2;refine bodyPost_ret (v:=.agg #[.int .i64 6,.string ⟨#[]⟩,.string ⟨#[]⟩,.bool false,.slice am wn cm,.bool false,.slice ae jw.length ce,.int .i64 t.place]) (by simp[results,Tryz.results108,go_sem,d0,d1,d2,d3,d4,d5,d6,d7]) rfl ⟨_,_,rfl,(EPost.store (w0:=w) (b:=w.heap.size+1) hxe mU S.al (by omega) (by have:=S.al.size;first|omega|(show w.heap.size+1<w7.heap.size;omega)) _ _ _ _ _ _ _ _).1,(EPost.store (w0:=w) (b:=w.heap.size+1) hxe mU S.al (by omega) (by have:=S.al.size;first|omega|(show w.heap.size+1<w7.heap.size;omega)) _ _ _ _ _ _ _ _).2⟩
  | neg jw htx hM =>
   have VZ:=ay ((hM 5 t.place w7 Zd hB7).mono fun _ _ h=>h.m);rw[htx] at f2;clear htx;clear hM;go_wp2_with (go_at_call 175;refine VZ.out.mono ?_);rintro e w8 ⟨am,wn,cm,ae,ce,rfl,hxe,mU⟩;have D1:=(mU.block (w.heap.size+1) (show w.heap.size+1<w7.heap.size by omega)).trans S.s1;clear r0 r1 n0 n1 n2 f0 f1 f2 f3;obtain⟨⟨d0,d1,d2,d3⟩,⟨d4,d5,d6,d7⟩,dz⟩:=mo D1;go_wp2;refine bodyPost_ret (v:=.agg #[.int .i64 5,.string ⟨#[]⟩,.string ⟨#[]⟩,.bool false,.slice am wn cm,.bool false,.slice ae jw.length ce,.int .i64 t.place]) (by simp[results,Tryz.results108,go_sem,d0,d1,d2,d3,d4,d5,d6,d7]) rfl ⟨_,_,rfl,(EPost.store (w0:=w) (b:=w.heap.size+1) hxe mU S.al (by omega) (by have:=S.al.size;first|omega|(show w.heap.size+1<w7.heap.size;omega)) _ _ _ _ _ _ _ _).1,(EPost.store (w0:=w) (b:=w.heap.size+1) hxe mU S.al (by omega) (by have:=S.al.size;first|omega|(show w.heap.size+1<w7.heap.size;omega)) _ _ _ _ _ _ _ _).2⟩
  | iff jw hM =>
   have VZ:=ay ((hM 21 t.place w7 Zd hB7).mono fun _ _ h=>h.m);clear hM;go_wp2_with (go_at_call 175;refine VZ.out.mono ?_);rintro e w8 ⟨am,wn,cm,ae,ce,rfl,hxe,mU⟩;have D1:=(mU.block (w.heap.size+1) (show w.heap.size+1<w7.heap.size by omega)).trans S.s1;clear r0 r1 n0 n1 n2 f0 f1 f2 f3;obtain⟨⟨d0,d1,d2,d3⟩,⟨d4,d5,d6,d7⟩,dz⟩:=mo D1;go_wp2;refine bodyPost_ret (v:=.agg #[.int .i64 21,.string ⟨#[]⟩,.string ⟨#[]⟩,.bool false,.slice am wn cm,.bool false,.slice ae jw.length ce,.int .i64 t.place]) (by simp[results,Tryz.results108,go_sem,d0,d1,d2,d3,d4,d5,d6,d7]) rfl ⟨_,_,rfl,(EPost.store (w0:=w) (b:=w.heap.size+1) hxe mU S.al (by omega) (by have:=S.al.size;first|omega|(show w.heap.size+1<w7.heap.size;omega)) _ _ _ _ _ _ _ _).1,(EPost.store (w0:=w) (b:=w.heap.size+1) hxe mU S.al (by omega) (by have:=S.al.size;first|omega|(show w.heap.size+1<w7.heap.size;omega)) _ _ _ _ _ _ _ _).2⟩
  | sP jw hM =>
   have VZ:=ay ((hM 23 t.place w7 Zd hB7).mono fun _ _ h=>h.m);clear hM;go_wp2_with (go_at_call 175;refine VZ.out.mono ?_);rintro e w8 ⟨am,wn,cm,ae,ce,rfl,hxe,mU⟩;have D1:=(mU.block (w.heap.size+1) (show w.heap.size+1<w7.heap.size by omega)).trans S.s1;clear r0 r1 n0 n1 n2 f0 f1 f2 f3;obtain⟨⟨d0,d1,d2,d3⟩,⟨d4,d5,d6,d7⟩,dz⟩:=mo D1;go_wp2;refine bodyPost_ret (v:=.agg #[.int .i64 23,.string ⟨#[]⟩,.string ⟨#[]⟩,.bool false,.slice am wn cm,.bool false,.slice ae jw.length ce,.int .i64 t.place]) (by simp[results,Tryz.results108,go_sem,d0,d1,d2,d3,d4,d5,d6,d7]) rfl ⟨_,_,rfl,(EPost.store (w0:=w) (b:=w.heap.size+1) hxe mU S.al (by omega) (by have:=S.al.size;first|omega|(show w.heap.size+1<w7.heap.size;omega)) _ _ _ _ _ _ _ _).1,(EPost.store (w0:=w) (b:=w.heap.size+1) hxe mU S.al (by omega) (by have:=S.al.size;first|omega|(show w.heap.size+1<w7.heap.size;omega)) _ _ _ _ _ _ _ _).2⟩
  | sO jw k1 tx hM h1 hX =>
   obtain⟨hp1,hp2⟩:=pJ h1;have afe:=WW.out 1 hp1;rw[hp2] at afe;have HM':=ay ((hM 22 t.place w7 Zd hB7).mono fun _ _ h=>h.m);have HXX:=ay hX;clear hM h1 hp2 hX;go_wp2_with (go_at_call 175;refine HM'.out.mono ?_);rintro e w8 ⟨am,wn,cm,ae,ce,rfl,hxe,mU⟩;have S8:=S.later mU;have hz8:=mU.size;clear r0 r1 n0 n1 n2 f0 f1 f2 f3 fz
   go_upto_region 22 with (fail)
   have ha9:=aB w8 (.cells #[.int .i64 22,.string ⟨#[]⟩,.string ⟨#[]⟩,.bool false,.slice am wn cm,.bool false,.slice ae jw.length ce,.int .i64 t.place] 64);have N9:=aY w8 (.cells #[.int .i64 22,.string ⟨#[]⟩,.string ⟨#[]⟩,.bool false,.slice am wn cm,.bool false,.slice ae jw.length ce,.int .i64 t.place] 64);have WY:=(hxe.imp (fun b hb hlt=>(⟨hb,hlt⟩:w7.heap.size≤b∧b<w8.heap.size))).frame (w':=w8.alloc (.cells #[.int .i64 22,.string ⟨#[]⟩,.string ⟨#[]⟩,.bool false,.slice am wn cm,.bool false,.slice ae jw.length ce,.int .i64 t.place] 64)) ⟨by simp,fun b _ hb=>gY _ _ _ hb⟩
   have hs9:(w8.alloc (.cells #[.int .i64 22,.string ⟨#[]⟩,.string ⟨#[]⟩,.bool false,.slice am wn cm,.bool false,.slice ae jw.length ce,.int .i64 t.place] 64)).heap.size=w8.heap.size+1:=by simp
   have S9:=S8.later ha9;clear ha9;generalize w8.alloc _=w9 at N9 WY hs9 S9 ⊢;have k1c:=iW S9.al afe;obtain⟨r0,r1⟩:=FQ S9.s0;obtain⟨n0,n1,n2⟩:=cells3 S9.s2
   have ady:(1:Int)<(ks.length:Int):=by omega
   have WZ:=ay (HXX.out w9.drew (HT.out.below ((S9.al.mono hB).drew)) (show B≤w9.heap.size by have:=S9.al.size;omega))
   go_still_tail 5,(by kernel_rfl)
   change wpList _ _ _ _ _ w9.drew;go_wp2_with (go_at_call 105;refine WZ.out.mono ?_);rintro e mH ⟨rfl,BH⟩;have nX:Below w9.heap.size w9 mH:=(bI w9.heap.size w9).drew.trans BH;have S10:=S9.later nX;have E9:=(nX.block w8.heap.size (by omega)).trans N9;obtain⟨⟨_,e0,_,_⟩,_,ez⟩:=mo E9;have KS:=WY.frame (aW.of nX);clear r0 r1 n0 n1 n2 k1c N9 BH nX WY;have E9':=heap_setCell_same mH w8.heap.size 1 _ _ (.string ⟨tx.toArray⟩) E9;have E1':=(heap_setCell_other mH ⟨w8.heap.size,1,none⟩ (w.heap.size+1) (.string ⟨tx.toArray⟩) (by show w.heap.size+1≠w8.heap.size;omega)).trans S10.s1;have acw:=S10.al.setCell (p:=⟨w8.heap.size,1,none⟩) (by show w.heap.size≤w8.heap.size;omega) (.string ⟨tx.toArray⟩);have aff:=KS.frame (aW.set (a:=⟨w8.heap.size,1,none⟩) (.string ⟨tx.toArray⟩) fun b hb=>by show b≠w8.heap.size;omega)
   go_upto_region 23 with (fail)
   generalize mH.setCell _ _=vU at E9' E1' acw aff ⊢;obtain⟨⟨b0,b1,b2,b3⟩,⟨b4,b5,b6,b7⟩,_⟩:=mo (show vU.heap[w8.heap.size]?=some (.cells #[.int .i64 22,.string ⟨tx.toArray⟩,.string ⟨#[]⟩,.bool false,.slice am wn cm,.bool false,.slice ae jw.length ce,.int .i64 t.place] 64 (0,0)) from E9');obtain⟨⟨d0,d1,d2,d3⟩,⟨d4,d5,d6,d7⟩,dz⟩:=mo E1';clear e0 ez E9;go_wp2;refine bodyPost_ret (v:=.agg #[.int .i64 22,.string ⟨tx.toArray⟩,.string ⟨#[]⟩,.bool false,.slice am wn cm,.bool false,.slice ae jw.length ce,.int .i64 t.place]) (by simp[results,Tryz.results108,go_sem,d0,d1,d2,d3,d4,d5,d6,d7]) rfl ⟨.slice am wn cm,.slice ae jw.length ce,rfl,?_,jI acw (by omega) _ _ _ _ _ _ _ _⟩
   have hq:=(aff.frame (vW _ _ (w.heap.size+1) (.int .i64 22) (.string ⟨tx.toArray⟩) (.string ⟨#[]⟩) (.bool false) (.slice am wn cm) (.bool false) (.slice ae jw.length ce) (.int .i64 t.place) fun k hk=>by omega)).imp (Q:=fun b=>w.heap.size≤b) fun b hb _=>by omega
   rw[oZ] at hq ⊢;exact hq
  | num n txt hZ =>
   have HZ:=ay (hZ w7);clear hZ;go_wp2_with (go_at_call 176;refine HZ.out.mono ?_);rintro e w8 ⟨am,wn,cm,rfl,G5,mU⟩;have S8:=S.later mU;clear r0 r1 n0 n1 n2 f0 f1 f2 f3 fz
   go_upto_region 26 with (fail)
   have ha9:=aB w8 (.cells #[.bool false,.slice am wn cm] 62);have N9:=aY w8 (.cells #[.bool false,.slice am wn cm] 62);have hn9:=XA.frame (P:=fun b=>w7.heap.size≤b) (w:=w8) (w':=w8.alloc (.cells #[.bool false,.slice am wn cm] 62)) (n:=(n:Nat)) (m:=.slice am wn cm) G5 ⟨by simp,fun b _ hb=>gY _ _ _ hb⟩;have S9:=S8.later ha9;clear ha9;generalize w8.alloc _=w9 at N9 hn9 S9 ⊢;obtain⟨_,_,_,f3,_⟩:=RO S9.s3;obtain⟨b0,b1⟩:=FQ N9;obtain⟨⟨d0,d1,d2,d3⟩,⟨d4,d5,d6,d7⟩,dz⟩:=mo S9.s1;go_wp2;refine bodyPost_ret (v:=.agg #[.int .i64 1,.string ⟨#[]⟩,.string ⟨#[]⟩,.bool false,.slice am wn cm,.bool false,.slice none 0 0,.int .i64 t.place]) (by simp[results,Tryz.results108,go_sem,d0,d1,d2,d3,d4,d5,d6,d7]) rfl ⟨.slice am wn cm,.slice none 0 0,ac8 _ _ _ _ _,?_,jI S9.al (by omega) _ _ _ _ _ _ _ _⟩;rw[oZ];exact⟨XA.imp (XA.frame hn9 (vW _ _ (w.heap.size+1) (.int .i64 1) (.string ⟨#[]⟩) (.string ⟨#[]⟩) (.bool false) (.slice am wn cm) (.bool false) (.slice none 0 0) (.int .i64 t.place) fun k hk=>by omega)) (fun b hb _=>by omega),[],nV.nil _ _ _,by rw[iN]⟩
  | tru htx =>
   rw[htx] at f2;clear htx;obtain⟨⟨d0,d1,d2,d3⟩,⟨d4,d5,d6,d7⟩,dz⟩:=mo S.s1;go_wp2;refine bodyPost_ret (v:=.agg #[.int .i64 2,.string ⟨#[]⟩,.string ⟨#[]⟩,.bool false,.slice none 0 0,.bool true,.slice none 0 0,.int .i64 t.place]) (by simp[results,Tryz.results108,go_sem,d0,d1,d2,d3,d4,d5,d6,d7]) rfl ⟨.slice none 0 0,.slice none 0 0,rfl,?_,jI S.al (by omega) _ _ _ _ _ _ _ _⟩;rw[oZ];exact⟨nD.zero _ _,[],nV.nil _ _ _,by rw[iN]⟩
  | fls htx =>
   rw[htx] at f2;clear htx;obtain⟨⟨d0,d1,d2,d3⟩,⟨d4,d5,d6,d7⟩,dz⟩:=mo S.s1;go_wp2;refine bodyPost_ret (v:=.agg #[.int .i64 2,.string ⟨#[]⟩,.string ⟨#[]⟩,.bool false,.slice none 0 0,.bool false,.slice none 0 0,.int .i64 t.place]) (by simp[results,Tryz.results108,go_sem,d0,d1,d2,d3,d4,d5,d6,d7]) rfl ⟨.slice none 0 0,.slice none 0 0,rfl,?_,jI S.al (by omega) _ _ _ _ _ _ _ _⟩;rw[oZ];exact⟨nD.zero _ _,[],nV.nil _ _ _,by rw[iN]⟩
  | res =>
   obtain⟨⟨d0,d1,d2,d3⟩,⟨d4,d5,d6,d7⟩,dz⟩:=mo S.s1;go_wp2;refine bodyPost_ret (v:=.agg #[.int .i64 4,.string ⟨#[]⟩,.string ⟨#[]⟩,.bool false,.slice none 0 0,.bool false,.slice none 0 0,.int .i64 t.place]) (by simp[results,Tryz.results108,go_sem,d0,d1,d2,d3,d4,d5,d6,d7]) rfl ⟨.slice none 0 0,.slice none 0 0,rfl,?_,jI S.al (by omega) _ _ _ _ _ _ _ _⟩;rw[oZ];exact⟨nD.zero _ _,[],nV.nil _ _ _,by rw[iN]⟩
  | PO =>
   obtain⟨⟨d0,d1,d2,d3⟩,⟨d4,d5,d6,d7⟩,dz⟩:=mo S.s1;go_wp2;refine bodyPost_ret (v:=.agg #[.int .i64 3,.string ⟨t.text.toArray⟩,.string ⟨#[]⟩,.bool false,.slice none 0 0,.bool false,.slice none 0 0,.int .i64 t.place]) (by simp[results,Tryz.results108,go_sem,d0,d1,d2,d3,d4,d5,d6,d7]) rfl ⟨.slice none 0 0,.slice none 0 0,rfl,?_,jI S.al (by omega) _ _ _ _ _ _ _ _⟩;rw[oZ];exact⟨nD.zero _ _,[],nV.nil _ _ _,by rw[iN]⟩
