/- Walks and plain laws: ShowM, ShowLaws, PrintOk, ShowN0. -/
import Derived.Test.YtknicmmigbhpcaaGreatDoorF20
set_option maxHeartbeats 16000000
set_option maxRecDepth 100000
set_option linter.unusedVariables false
set_option linter.unusedSimpArgs false
namespace Go.Proofs.YtknicmmigbhpcaaGreatDoor
open Go.RowKit Go
theorem NC {e:PZ}{B B' b:Nat}{am:Option Addr}{wn cm:Nat}{ae:Option Addr}{ce:Nat}{acc:List UInt8}{w:World}(E:zZ e B B' b am wn cm ae ce acc w)(hop:e.op=24)(hkn:e.kids.length≤8)(hnl:e.name.length≤65536)(hml:e.module.length≤65536) :
  Calls Tryz.prog 129 #[.pointer (some ⟨b,0,none⟩),.agg #[.int .i64 e.op,.string ⟨e.name.toArray⟩,.string ⟨e.module.toArray⟩,.bool (decide (e.num<0)),.slice am wn cm,.bool e.yes,.slice ae e.kids.length ce,.int .i64 e.at_]] w (bS B' b (acc++e.text) w):=by
 have hal:=aj w (.cells (aU e.op ⟨e.name.toArray⟩ ⟨e.module.toArray⟩ (decide (e.num<0)) (.slice am wn cm) e.yes (.slice ae e.kids.length ce) e.at_) 46);have hN:=heap_alloc_new w (.cells (aU e.op ⟨e.name.toArray⟩ ⟨e.module.toArray⟩ (decide (e.num<0)) (.slice am wn cm) e.yes (.slice ae e.kids.length ce) e.at_) 46);have hb1:=E.qM.kX hal;have hB:=E.hB;have mP:=E.mP;have hln:=E.len;have HD:=ah E.does;have HK:=ah E.kids;have vU:=hal.mono hB;have Ev:=E.few;have htd:=e.mJ
 have hgt:∀ i,(h:i<e.kids.length)→(gJ e.kids).getD i (0,[])=(e.kids[i].op,e.kids[i].text):=fun i h=>jY h
 clear E
 have htx:e.text=(if (ByteArray.mk e.module.toArray).data.toList=[] then [] else (ByteArray.mk e.module.toArray).data.toList++[46])++(ByteArray.mk e.name.toArray).data.toList++[40]++bg (e.kids.map PZ.text)++[41]:=by
  rw[htd,hop,nT];simp only[lF,List.map_map]
  rfl
 have hC:=fun (W:World) (hW:Below B' w W) (hb:jO B' b acc W 155)=>Vr e.op ⟨e.name.toArray⟩ ⟨e.module.toArray⟩ (decide (e.num<0)) am wn cm e.yes ae ce e.at_ e.kids HD.out B B' b acc W (by omega) (fun h0=>by
  obtain⟨kb,off,q1,q2,q3,q4⟩:=HK.out h0;have hb2:=hW.mono mP;refine⟨kb,off,q1,q2,Nat.lt_of_lt_of_le q3 hb2.size,fun i hi=>?_⟩;obtain⟨BU,wn',BX,xM,xO,q5,q6⟩:=q4 i hi
  exact⟨BU,wn',BX,xM,xO,q5.frame (aQ.sI hb2 fun b hb=>hb),fun j u hu=>(hb2.cell (p:=⟨kb,off+i * 8+j,none⟩) q2).trans (q6 j u hu)⟩) mP hb (Nat.le_trans hB hW.size) e.text htx hln
 have HC:=ah hC;clear hC htx htd hgt HD HK hln;generalize e.text=out at *;generalize hop':e.op=op at *;subst hop;have HB1:=ah hb1;have HN:=ah hN;clear hb1 hN hop';go_enter Tryz.func129,Tryz.ntmps129
 go_upto_region 1 with fail
 change Code.wp _ _ _ _ (w.alloc (.cells (aU 24 ⟨e.name.toArray⟩ ⟨e.module.toArray⟩ (decide (e.num<0)) (.slice am wn cm) e.yes (.slice ae e.kids.length ce) e.at_) 46));generalize w.alloc _=w1 at hal HN HB1 vU ⊢;have hB1:=Nat.le_trans hB hal.size;obtain⟨y0,y1,y2,y3,y4,y5,y6,y7⟩:=aG HN.out;have LM:=ah (HC.out w1 vU HB1.out);go_wp2_with (go_at_call 208;refine LM.out.mono ?_;rintro r w3 h3;obtain rfl:=h3.eq)
 go_end0
 exact bS.from hal hB ((jI.start HB1.out).write h3)
theorem RA {e:PZ}{B B' b:Nat}{am:Option Addr}{wn cm:Nat}{ae:Option Addr}{ce:Nat}{acc:List UInt8}{w:World}(E:zZ e B B' b am wn cm ae ce acc w)(h7:7≤e.op)(h20:e.op≤20)(hkn:e.kids.length=2) :
  Calls Tryz.prog 129 #[.pointer (some ⟨b,0,none⟩),.agg #[.int .i64 e.op,.string ⟨e.name.toArray⟩,.string ⟨e.module.toArray⟩,.bool (decide (e.num<0)),.slice am wn cm,.bool e.yes,.slice ae e.kids.length ce,.int .i64 e.at_]] w (bS B' b (acc++e.text) w):=by
 have hal:=aj w (.cells (aU e.op ⟨e.name.toArray⟩ ⟨e.module.toArray⟩ (decide (e.num<0)) (.slice am wn cm) e.yes (.slice ae e.kids.length ce) e.at_) 46);have hN:=heap_alloc_new w (.cells (aU e.op ⟨e.name.toArray⟩ ⟨e.module.toArray⟩ (decide (e.num<0)) (.slice am wn cm) e.yes (.slice ae e.kids.length ce) e.at_) 46);have hb1:=E.qM.kX hal;have hB:=E.hB;have mP:=E.mP;have hln:=E.len;have HD:=ah E.does;have HK:=ah E.kids;have vU:=hal.mono hB;have Ev:=E.few;have htd:=e.mJ
 have hgt:∀ i,(h:i<e.kids.length)→(gJ e.kids).getD i (0,[])=(e.kids[i].op,e.kids[i].text):=fun i h=>jY h
 clear E;have h0:=hgt 0 (by omega);have h1:=hgt 1 (by omega);have HD0:=ah (HD.out _ (List.getElem_mem (by omega:0<e.kids.length)));have Z6:=ah (fun W hW=>HK.out.at (W:=W) hW (by omega:0<e.kids.length));have HD1:=ah (HD.out _ (List.getElem_mem (by omega:1<e.kids.length)));have HK1:=ah (fun W hW=>HK.out.at (W:=W) hW (by omega:1<e.kids.length));rw[Rx h7 h20,h0,h1] at htd;obtain⟨t1,t2,t3,t4,t5,t6,t21,t22,t23,t24⟩:=acA h7 h20;have HT:=ah (fun W=>Pt e.op h7 h20 W);have Vs:=ah htd;clear hgt h0 h1 HD HK htd;generalize e.kids[0]=x at *;generalize e.kids[1]=z at *;generalize e.text=out at *
 have nJ:(0:Int)<(e.kids.length:Int):=by omega
 have Kz:0<e.kids.length:=by omega
 have afm:(1:Int)<(e.kids.length:Int):=by omega
 have afn:1<e.kids.length:=by omega
 generalize e.op=op at *;generalize e.kids.length=nk at *;generalize ET op=fa at HT;generalize sD op=fb at HT Vs;generalize wU op=fc at HT Vs;obtain⟨SG,hSG,eS⟩:=je (qg op);rw[eS] at HT;rw[← hSG] at Vs
 have hl2:acc.length+(oJ fb (x.op,x.text)).length+1+SG.size+1+(oJ fc (z.op,z.text)).length≤1099511627776:=by
  have:=congrArg List.length Vs.out;simp only[bP,dX,List.length_nil,aK] at this;omega
 have HB1:=ah hb1;have HN:=ah hN;clear hb1 hN hkn hSG eS hln h7 h20;go_enter Tryz.func129,Tryz.ntmps129
 go_upto_region 1 with fail
 change Code.wp _ _ _ _ (w.alloc (.cells (aU op ⟨e.name.toArray⟩ ⟨e.module.toArray⟩ (decide (e.num<0)) (.slice am wn cm) e.yes (.slice ae nk ce) e.at_) 46));generalize w.alloc _=w1 at hal HN HB1 vU ⊢;have hB1:=Nat.le_trans hB hal.size;obtain⟨y0,y1,y2,y3,y4,y5,y6,y7⟩:=aG HN.out
 go_upto_region 2 with fail
 go_upto_region 3 with (go_at_call 209;refine(HT.out _).mono ?_;rintro r w2 ⟨rfl,hb2⟩)
 change Code.wp _ _ _ _ (w2.alloc (.cells #[.int .i64 fa,.int .i64 fb,.int .i64 fc,.string SG] 275));have s2:=(jI.start HB1.out).below hb2 hB1;have hF:=heap_alloc_new w2 (.cells #[.int .i64 fa,.int .i64 fb,.int .i64 fc,.string SG] 275);have s3:=s2.below (aj w2 (.cells #[.int .i64 fa,.int .i64 fb,.int .i64 fc,.string SG] 275)) hB1;clear y0 y1 y2 y3 y4 y5 y6 y7;generalize w2.heap.size=fk at hF ⊢;generalize w2.alloc _=w3 at hF s3 ⊢;have hB3:=s3.rQ.size;have s3d:=s3.drew;obtain⟨f0,f1,f2,f3⟩:=mY hF;obtain⟨-,-,-,-,-,-,y6,-⟩:=aG (s3.box HB1.out HN.out (by decide) (by decide));obtain⟨kb,off,FP,FQ,FR,IY,ck1,rfl,hkB,hE,x0,x1,x2,x3,x4,x5,x6,x7⟩:=Z6.out w3 ((vU.trans s3.rQ).mono mP);simp only[Nat.zero_mul,Nat.add_zero] at x0 x1 x2 x3 x4 x5 x6 x7;have HC:=ah (HD0.out fb B B' b FP FQ FR IY ck1 _ w3.drew (hE.frame (aQ.of (Below.refl _ _).drew)) mP s3d.qM (show B'≤w3.heap.size by omega) (by omega));have HS3:=ah s3;have HF:=ah hF;clear hE Z6 HD0 s3 s2 hF hb2 HT
 go_still_tail 7,(by kernel_rfl)
 change wpList _ _ _ _ _ w3.drew;clear y6 x0 x1 x2 x3 x4 x5 x6 x7 f0 f1 f2 f3
 go_upto_region 4 with (go_at_call 206;refine HC.out.mono ?_;rintro r w4 h4;obtain rfl:=h4.eq)
 have s4:=s3d.write h4;have hB4:=s4.rQ.size;have F4:=s3d.qM.block h4.2.2.2 HF.out (by decide) (by decide);obtain⟨f0,f1,f2,f3⟩:=mY F4;clear h4 s3d HC
 go_upto_region 5 with (go_at_call 128;refine(Rv ⟨#[32]⟩ SG ⟨#[32]⟩ B' b _ w4 s4.qM (by omega) (by show List.length _+1+SG.size+1≤_;rw[bP];omega)).mono ?_;rintro r w5 h5;obtain rfl:=h5.eq)
 have s5:=s4.write h5;have hB5:=s5.rQ.size;have F5:=s4.qM.block h5.2.2.2 F4 (by decide) (by decide);have s5d:=s5.drew;clear f0 f1 f2 f3 h5 s4 F4;obtain⟨f0,f1,f2,f3⟩:=mY F5;obtain⟨-,-,-,-,-,-,y6,-⟩:=aG (s5.box HB1.out HN.out (by decide) (by decide));obtain⟨kb1,off1,Vu,Vv,Vw,ak2,ck2,hkk,afo,hE,x0,x1,x2,x3,x4,x5,x6,x7⟩:=HK1.out w5 ((vU.trans s5.rQ).mono mP);simp only[Option.some.injEq,Addr.mk.injEq,and_true] at hkk;obtain⟨rfl,rfl⟩:=hkk;simp only[Nat.one_mul] at x0 x1 x2 x3 x4 x5 x6 x7;have HC:=ah (HD1.out fc B B' b Vu Vv Vw ak2 ck2 _ w5.drew (hE.frame (aQ.of (Below.refl _ _).drew)) mP s5d.qM (show B'≤w5.heap.size by omega) (by show List.length (_++(([32]:List UInt8)++(SG.data.toList++[32])))+_≤_;simp only[bP,aK,dX,List.length_nil];omega));have HS5:=ah s5d;clear hE HK1 HD1 s5 s5d F5;go_wp2
 go_still_tail 7,(by kernel_rfl)
 change wpList _ _ _ _ _ w5.drew;clear y6 x0 x1 x2 x3 x4 x5 x6 x7 f0 f1 f2 f3;go_wp2_with (go_at_call 206;refine HC.out.mono ?_;rintro r w6 h6;obtain rfl:=h6.eq)
 go_end0
 have:=bS.from hal hB (HS5.out.write h6)
 rw[Vs.out]
 simpa [List.append_assoc] using this
theorem FU {fm:Bool}:∀ (n:Nat) (e:PZ),SizeOf.sizeOf e<n→e.right fm=true→e.fit→Nw e
 | 0,_,h,_,_=>absurd h (by omega)
 | n+1,e,hs,hr,hf=>by
  have R:=PZ.Hw hr;obtain⟨f1,f2,f3,f4,f5⟩:=PZ.o9 hf
  have ih:∀ x∈e.kids,zi x:=fun x hx=>YO x (FU n x (by have:=e.iT x hx;omega) (R.kids x hx) (f5 x hx))
  intro B B' b am wn cm ae ce acc w h mP hbd hB hn
  have E:zZ e B B' b am wn cm ae ce acc w:=⟨h.U9,ih,mP,hbd,hB,hn,h.form.1,f3,f4⟩
  have F:(1≤e.op∧e.op≤4)∨((e.op=5∨e.op=6)∧e.kids.length=1)∨(7≤e.op∧e.op≤20∧e.kids.length=2)∨(e.op=21∧e.kids.length=3)∨(e.op=22∧e.kids.length=2)∨(e.op=23∧e.kids.length=2)∨(e.op=24∧e.kids.length≤8):=by
   have F:=R.form;generalize e.op=op at F ⊢;generalize e.kids.length=c at F ⊢
   cases F<;>omega
  rcases F with ⟨h1,h2⟩|⟨h1,h2⟩|⟨h1,h2,h3⟩|⟨h1,h2⟩|⟨h1,h2⟩|⟨h1,h2⟩|⟨h1,h2⟩
  ·exact Ny E h1 h2
  ·exact Ry E h1 h2
  ·exact RA E h1 h2 h3
  ·exact Rz E h1 h2
  ·exact NA E h1 h2 f1
  ·exact Nz E h1 h2
  ·exact NC E h1 h2 f1 f2
end Go.Proofs.YtknicmmigbhpcaaGreatDoor

namespace Go.Proofs.YtknicmmigbhpcaaGreatDoor
theorem xP (n:Nat):0<(fK n).length:=by
 unfold fK
 split
 ·simp
 ·rw[bP];simp
theorem Vx (n:Int):0<(iW n).length:=by
 rw[iW,bP];have:=xP n.natAbs;omega
def Ends (r:List UInt8):Prop:=∀ c,r.head?=some c→aV c=false
theorem Ends.cons {c:UInt8}{r:List UInt8}(h:aV c=false):Ends (c :: r):=by
 intro d hd;simp only[List.head?_cons,Option.some.injEq] at hd;rw[← hd];exact h
theorem H9 {c:UInt8}(h:aV c=false):aL c=false:=by
 simp only[aV,Bool.or_eq_false_iff] at h;exact h.1.2
theorem Vy {k:Nat}(hk:k≠4){t r:List UInt8}(h:Ends r):yY k t r.head?=true:=by
 cases hr:r.head? with
 | none=>rfl
 | some c =>
  have:=h c hr;rw[yY,if_neg hk]
  split
  ·rw[H9 this];rfl
  ·rw[this];rfl
def FV (t:List UInt8):Bool:=t.all aV && (t.headD 0 |> dG) && decide (0<t.length) && decide (t.length≤40) && decide (t ∉ pE)
theorem lZ {w:List UInt8}(h:dK w=true):FV w=true:=by
 unfold dK at h
 cases hl:bW w with
 | error x=>rw[hl] at h;cases h
 | ok l =>
  rw[hl] at h
  match l,h with
  | [t,x],h =>
   simp only[Bool.and_eq_true,decide_eq_true_eq] at h;obtain⟨h1,h2⟩:=h;unfold bW at hl
   split at hl
   ·cases hl
   ·unfold nQ at hl
    dsimp only at hl
    split at hl
    ·cases hl
    ·rename_i he
     split at hl
     ·injection hl with hl;cases hl
     ·split at hl
      ·cases hl
      ·injection hl with hl
       have ht:=(List.cons.inj hl).1
       have hk:(dY (w.drop (bJ false w))).1=1:=by rw[← ht] at h1;exact h1
       have htx:(w.drop (bJ false w)).take (dY (w.drop (bJ false w))).2.1=w:=by rw[← ht] at h2;exact h2
       have hp:=wG (w.drop (bJ false w)) (by simpa using he) (by rw[hk];decide);have hlen:=congrArg List.length htx;rw[List.length_take,List.length_drop] at hlen;have hle:=wF (w.drop (bJ false w));rw[List.length_drop] at hle
       have hk0:bJ false w=0:=by omega
       rw[hk0,List.drop_zero] at hk htx he hle;rw[hk0] at hlen
       have hwl:(dY w).2.1=w.length:=by rw[List.drop_zero] at hlen;omega
       cases w with
       | nil=>simp[dY] at hk
       | cons c r =>
        rw[dY] at hk hwl
        by_cases hc:dG c=true
        ·rw[if_pos hc] at hk hwl
         unfold lC at hk hwl;simp only at hk hwl
         split at hk
         ·cases hk
         ·rename_i XE
          rw[if_neg XE] at hwl
          split at hk
          ·cases hk
          ·rename_i hkey
           rw[if_neg hkey] at hwl;simp only at hwl;have hall:(c :: r).takeWhile aV=c :: r:=(List.takeWhile_prefix aV).eq_of_length hwl;rw[hall] at XE hkey
           have ha:(c :: r).all aV=true:=by rw[← hall];exact List.all_takeWhile
           simp only[FV,Bool.and_eq_true,decide_eq_true_eq];exact⟨⟨⟨⟨ha,hc⟩,by simp⟩,by omega⟩,hkey⟩
        ·rw[if_neg hc] at hk
         split at hk
         ·unfold nP at hk
          simp only at hk
          split at hk<;>cases hk
         ·unfold Aj at hk
          split at hk<;>cases hk
  | [],h=>cases h
  | [_],h=>cases h
  | _ :: _ :: _ :: _,h=>cases h
theorem Vz (t:List UInt8):lY (U8 t)=(t.all aL && decide (0<t.length) && decide (t.length≤60) && (decide (t.length=1) || !decide (t[0]?=some 48))):=rfl
theorem aaY (t:List UInt8):lY ⟨[],1,t⟩=(t.all aV && dG (t.headD 0) && decide (0<t.length) && decide (t.length≤40) && decide (1=if t∈pE then 2 else 1)):=rfl
theorem q9 {t:List UInt8}(h:FV t=true):dD t=⟨[],1,t⟩∧lY (dD t)=true:=by
 simp only[FV,Bool.and_eq_true,decide_eq_true_eq] at h
 have e:dD t=⟨[],1,t⟩:=by rw[dD,if_neg h.2]
 refine⟨e,?_⟩;rw[e,aaY];simp only[Bool.and_eq_true,decide_eq_true_eq];exact⟨⟨⟨⟨h.1.1.1.1,h.1.1.1.2⟩,h.1.1.2⟩,h.1.2⟩,by rw[if_neg h.2]⟩
theorem RB:∀ t∈pE,lY (dD t)=true:=by decide
theorem qD:∀ t∈iF,lY (mX t)=true:=by decide
theorem RD {n:Nat}:(fK n).all aL=true:=by
 induction n using Nat.strongRecOn with
 | ind n ih =>
  rw[fK]
  split
  ·have:∀ k:Fin 10,aL (UInt8.ofNat (48+k.val))=true:=by decide
   have:=this ⟨n,by omega⟩
   simpa using this
  ·rename_i h
   rw[List.all_append,ih (n / 10) (by omega),Bool.true_and]
   have:∀ k:Fin 10,aL (UInt8.ofNat (48+k.val))=true:=by decide
   have:=this ⟨n % 10,by omega⟩
   simpa using this
theorem VA {n:Nat}:(fK n).length=1∨(fK n)[0]?≠some 48:=by
 induction n using Nat.strongRecOn with
 | ind n ih =>
  rw[fK]
  split
  ·left;simp
  ·rename_i h
   right
   have hp:=xP (n / 10);rw[List.getElem?_append_left hp]
   rcases ih (n / 10) (by omega) with q|q
   ·intro q2
    have:n / 10<10:=by
     apply Classical.byContradiction
     intro q3;rw[fK,dif_neg (by omega)] at q;have:=xP (n / 10 / 10);simp only[bP,dX,List.length_nil] at q;omega
    rw[fK,dif_pos this] at q2;simp only[dX,List.length_nil,Nat.zero_add,Nat.lt_add_one,List.getElem?_eq_getElem,List.getElem_cons_zero,Option.some.injEq] at q2;have h2:=congrArg UInt8.toNat q2;rw[UInt8.toNat_ofNat'] at h2;simp at h2;omega
   ·exact q
theorem FW {n:Int}(h0:0≤n)(Gy:(iW n).length≤60):lY (U8 (iW n))=true:=by
 obtain⟨m,rfl⟩:=Int.eq_ofNat_of_zero_le h0;rw[wT] at Gy ⊢;rw[Vz];simp only[Bool.and_eq_true,decide_eq_true_eq,Bool.or_eq_true,Bool.not_eq_true',decide_eq_false_iff_not];exact⟨⟨⟨RD,xP m⟩,Gy⟩,VA⟩
theorem zm {l:List Pc}{r:List UInt8}:LQ (vR l) r↔LQ l r:=by
 cases l with
 | nil=>exact Iff.rfl
 | cons p l =>
  rw[vR,LQ,LQ]
  have:lY ⟨32 :: p.lead,p.kind,p.text⟩=lY p:=by simp[lY,dJ]
  rw[this]
theorem CS {l:List Pc}(h:l≠[])(r:List UInt8):Ends (bf (vR l)++r):=by
 rw[dQ h];exact Ends.cons (by decide)
theorem FX (t:List UInt8)(h:t∈[[40],[41],[44],[46],[123],[125],[58],[59]])(c:Option UInt8):yY 4 t c=true:=by
 cases c with
 | none=>rfl
 | some c =>
  have:∀ t∈([[40],[41],[44],[46],[123],[125],[58],[59]]:List (List UInt8)),∀ n:Fin 256,yY 4 t (some (UInt8.ofNat n.val))=true:=by decide +kernel
  have h1:=this t h ⟨c.toNat,c.toNat_lt⟩;rw[UInt8.ofNat_toNat] at h1;exact h1
theorem CU:∀ t∈iF,yY 4 t (some 32)=true:=by decide
theorem ND {c:Option UInt8}(h:c≠some 45):yY 4 [45] c=true:=by
 cases c with
 | none=>rfl
 | some c =>
  have:∀ n:Fin 256,UInt8.ofNat n.val≠45→yY 4 [45] (some (UInt8.ofNat n.val))=true:=by decide +kernel
  have h1:=this ⟨c.toNat,c.toNat_lt⟩;rw[UInt8.ofNat_toNat] at h1
  exact h1 fun q=>h (by rw[q])
def fB (l:List Pc):Prop:=∀ r,Ends r→LQ l r
theorem fB.word {t:List UInt8}(h:lY (dD t)=true):fB [dD t]:=fun r hr=>⟨h,by
 have:(dD t).kind≠4:=by unfold dD;simp only;split<;>decide
 exact Vy this hr,trivial⟩
theorem fB.key {t:List UInt8}(h:t∈pE):fB [dD t]:=fB.word (RB t h)
theorem fB.jW {a b:List Pc}(h:fB a)(hb:fB b)(hne:b≠[]):fB (a++vR b):=fun r hr=>iy.2 ⟨h _ (CS hne r),zm.2 (hb r hr)⟩
theorem fB.close {a:List Pc}(h:fB a)(t:List UInt8)(ht:t∈[[40],[41],[44],[46],[123],[125],[58],[59]])(hi:∀ x∈t,aV x=false):∀ r,LQ (a++[mX t]) r:=fun r=>by
 have hs:t∈iF:=by
  have:∀ t∈([[40],[41],[44],[46],[123],[125],[58],[59]]:List (List UInt8)),t∈iF:=by decide
  exact this t ht
 refine iy.2 ⟨h _ ?_,qD t hs,FX t ht _,trivial⟩;intro c hc
 cases t with
 | nil=>exact absurd hs (by decide)
 | cons x t=>simp[bf,mX] at hc;rw[← hc];exact hi x (by simp)
theorem VB {l:List Pc}{r:List UInt8}(t:List UInt8)(ht:t∈[[40],[41],[44],[46],[123],[125],[58],[59]])(h:LQ l r):LQ (mX t :: l) r:=by
 have hs:t∈iF:=by
  have:∀ t∈([[40],[41],[44],[46],[123],[125],[58],[59]]:List (List UInt8)),t∈iF:=by decide
  exact this t ht
 exact⟨qD t hs,FX t ht _,h⟩
theorem Ia {least:Int}{k:Int × List Pc}(h:fB k.2):fB (Aq least k):=by
 intro r hr;unfold Aq
 split
 ·exact VB [40] (by decide) (h.close [41] (by decide) (by decide) r)
 ·exact h r hr
theorem KA:∀ (es:List PZ),(∀ x∈es,fB x.pR∧x.pR≠[])→fB (nZ (es.map PZ.pR))
 | [],_=>fun _ _=>trivial
 | [e],h=>(h e (by simp)).1
 | e :: f :: l,h=>by
  have ih:=KA (f :: l) fun x hx=>h x (List.mem_cons_of_mem _ hx)
  have he:=(h e (by simp)).1;intro r hr;simp only[List.map_cons] at ih ⊢;rw[nZ,show e.pR++mX [44] :: vR (nZ (f.pR :: l.map PZ.pR))=(e.pR++[mX [44]])++vR (nZ (f.pR :: l.map PZ.pR)) by simp];exact iy.2 ⟨he.close [44] (by decide) (by decide) _,zm.2 (ih r hr)⟩
theorem aaZ (nm md:List UInt8)(num:Int)(yes:Bool)(ks:List (Int × List Pc)):jh 2 nm md num yes ks=[dD (if yes=true then [116,114,117,101] else [102,97,108,115,101])]:=rfl
theorem VD (nm md:List UInt8)(num:Int)(yes:Bool)(ks:List (Int × List Pc)):jh 3 nm md num yes ks=[dD nm]:=rfl
theorem aa2 (nm md:List UInt8)(num:Int)(yes:Bool)(ks:List (Int × List Pc)):jh 4 nm md num yes ks=[dD [114,101,115]]:=rfl
theorem VE {e:PZ}{fm:Bool}(h:CJ fm e)(hne:e.pR≠[])(r:List UInt8):(bf (Aq 9 (e.op,e.pR))++r).head?≠some 45:=by
 unfold Aq
 split
 ·simp[bf,mX]
 ·rename_i hl
  have F:=h.form;simp only at hl;rw[e.Hu];have hnm:=h.names;have hv:=h.values;generalize hc:e.kids.length=c at F;generalize e.op=op at *
  cases F with
  | none h1 h2 =>
   have:op=1∨op=2∨op=3∨op=4:=by omega
   rcases this with rfl|rfl|rfl|rfl
   ·simp only[oQ,if_pos,Bool.and_eq_true,decide_eq_true_eq] at hv
    have hp:=FW hv.1.1 hv.1.2;rw[Vz] at hp;simp only[Bool.and_eq_true] at hp;have hd:=hp.1.1.1;have hpos:=Vx e.num;simp only[jh,if_pos,bf,U8]
    cases hi:iW e.num with
    | nil=>rw[hi] at hpos;simp at hpos
    | cons c r =>
     rw[hi,List.all_cons,Bool.and_eq_true] at hd;simp only[List.nil_append,List.cons_append,List.head?_cons,ne_eq,Option.some.injEq];exact(Kl c hd.1).2.2
   ·simp[jh,bf,dD];split<;>simp
   ·have hnm:dK e.name=true:=by
     simp only[lN] at hnm;rw[if_pos (by decide),Bool.and_eq_true] at hnm;exact hnm.1
    have hn:=lZ hnm;simp only[FV,Bool.and_eq_true] at hn;rw[VD]
    cases hi:e.name with
    | nil=>rw[hi] at hn;simp at hn
    | cons c r =>
     rw[hi] at hn;simp only[bf,dD,List.nil_append,List.cons_append,List.head?_cons,ne_eq,Option.some.injEq];exact(yZ c hn.1.1.1.2).2.2
   ·simp[jh,bf,dD]
  | one h=>rcases h with rfl|rfl<;>exact absurd (by decide) hl
  | two h1 h2 =>
   exfalso
   apply hl
   unfold ET;rw[if_neg (by omega),if_neg (by omega)]
   repeat (first|omega|(split;(first|omega|decide)))
  | iff=>exact absurd (by decide) hl
  | pF=>exact absurd (by decide) hl
  | pG=>exact absurd (by decide) hl
  | call h =>
   have hnm:dK e.name=true∧(e.module=[]∨dK e.module=true):=by
    simp only[lN] at hnm;rw[if_neg (by decide),if_pos trivial,Bool.and_eq_true,Bool.or_eq_true,decide_eq_true_eq] at hnm;exact hnm
   simp only[jh];simp only[if_neg,if_pos,show ¬ (24:Int)=1 by decide,show ¬ (24:Int)=2 by decide,show ¬ (24:Int)=3 by decide,show ¬ (24:Int)=4 by decide,show ¬ (24:Int)=5 by decide,show ¬ (24:Int)=6 by decide,show ¬ (24:Int)=21 by decide,show ¬ (24:Int)=22 by decide,show ¬ (24:Int)=23 by decide,not_false_eq_true]
   have key:∀ w,dK w=true→∀ l,(w++l).head?≠some 45:=by
    intro w hw l;have hn:=lZ hw;simp only[FV,Bool.and_eq_true] at hn
    cases w with
    | nil=>simp at hn
    | cons c r =>
     simp only[List.cons_append,List.head?_cons,ne_eq,Option.some.injEq];exact(yZ c hn.1.1.1.2).2.2
   split
   ·simp only[List.nil_append,bf,dD,List.cons_append,List.append_assoc]
    exact key _ hnm.1 _
   ·rename_i hm
    have:=hnm.2.resolve_left hm;simp only[List.nil_append,bf,dD,List.cons_append,List.append_assoc];exact key _ this _
theorem VF {op:Int}(h1:7≤op)(h2:op≤20):qg op∈iF∧qg op∈nS:=by
 have:∀ k:Fin 14,qg ((k.val+7:Nat):Int)∈iF∧qg ((k.val+7:Nat):Int)∈nS:=by decide
 have h:=this ⟨(op - 7).toNat,by omega⟩;rw[show (((⟨(op - 7).toNat,by omega⟩:Fin 14).val+7:Nat):Int)=op by simp only;omega] at h;exact h
theorem PZ.Z7 {fm:Bool}:∀ (n:Nat) (e:PZ),SizeOf.sizeOf e<n→e.right fm=true→fB e.pR
 | 0,_,h,_=>absurd h (by omega)
 | n+1,e,hs,hr=>by
  have R:=PZ.Hw hr
  have ih:∀ x∈e.kids,fB x.pR∧x.pR≠[]:=fun x hx=>⟨PZ.Z7 n x (by have:=e.iT x hx;omega) (R.kids x hx),(PZ.bytes n x (by have:=e.iT x hx;omega) (R.kids x hx)).2⟩
  have hrk:∀ x∈e.kids,CJ fm x:=fun x hx=>PZ.Hw (R.kids x hx)
  have F:=R.form;rw[e.Hu]
  have hk:∀ i,(h:i<e.kids.length)→(Ew e.kids).getD i (0,[])=(e.kids[i].op,e.kids[i].pR)∧fB e.kids[i].pR∧e.kids[i].pR≠[]:=fun i h=>⟨Km h,ih _ (List.getElem_mem h)⟩
  have hm:(Ew e.kids).map Prod.snd=e.kids.map PZ.pR:=by rw[xK];simp
  have hcm:=KA e.kids ih;have hnm:=R.names;have hv:=R.values;generalize e.kids=ks at *;generalize hn:ks.length=c at F;generalize e.op=op at *
  cases F with
  | none h1 h2 =>
   have:op=1∨op=2∨op=3∨op=4:=by omega
   rcases this with rfl|rfl|rfl|rfl
   ·simp only[oQ,if_pos,Bool.and_eq_true,decide_eq_true_eq] at hv
    simp only[jh,if_pos]
    exact fun r hr=>⟨FW hv.1.1 hv.1.2,Vy (by show (3:Nat)≠4;decide) hr,trivial⟩
   ·rw[aaZ]
    split
    ·exact fB.key (by decide)
    ·exact fB.key (by decide)
   ·simp only[lN] at hnm
    rw[if_pos (by decide),Bool.and_eq_true] at hnm;rw[VD];exact fB.word (q9 (lZ hnm.1)).2
   ·rw[aa2]
    exact fB.key (by decide)
  | one h =>
   obtain⟨a1,a2,a3⟩:=hk 0 (by omega);have adU:=hrk _ (List.getElem_mem (show 0<ks.length by omega))
   rcases h with rfl|rfl
   ·simp only[jh]
    simp only[if_neg,if_pos,show ¬ (5:Int)=1 by decide,show ¬ (5:Int)=2 by decide,show ¬ (5:Int)=3 by decide,show ¬ (5:Int)=4 by decide,not_false_eq_true];rw[a1]
    exact fun r hr=>⟨qD [45] (by decide),ND (VE adU a3 r),Ia (k:=(ks[0].op,ks[0].pR)) a2 r hr⟩
   ·simp only[jh]
    simp only[if_neg,if_pos,show ¬ (6:Int)=1 by decide,show ¬ (6:Int)=2 by decide,show ¬ (6:Int)=3 by decide,show ¬ (6:Int)=4 by decide,show ¬ (6:Int)=5 by decide,not_false_eq_true];rw[a1];exact(fB.key (t:=[110,111,116]) (by decide)).jW (Ia (k:=(ks[0].op,ks[0].pR)) a2) (AO a3)
  | two h1 h2 =>
   obtain⟨a1,a2,a3⟩:=hk 0 (by omega);obtain⟨b1,b2,b3⟩:=hk 1 (by omega)
   have e1:∀ k:Int,(k≤6∨21≤k)→¬ op=k:=fun k hk q=>by omega
   simp only[jh];rw[if_neg (e1 1 (by omega)),if_neg (e1 2 (by omega)),if_neg (e1 3 (by omega)),if_neg (e1 4 (by omega)),if_neg (e1 5 (by omega)),if_neg (e1 6 (by omega)),if_neg (e1 21 (by omega)),if_neg (e1 22 (by omega)),if_neg (e1 23 (by omega)),if_neg (e1 24 (by omega)),a1,b1];have hs:=(VF h1 h2).1;have hpb:=AO (least:=wU op) (k:=(ks[1].op,ks[1].pR)) b3;intro r hr;refine iy.2 ⟨Ia (k:=(ks[0].op,ks[0].pR)) a2 _ ?_,iy.2 ⟨zm.2 ⟨qD _ hs,?_,trivial⟩,zm.2 (Ia (k:=(ks[1].op,ks[1].pR)) b2 r hr)⟩⟩
   ·rw[bT,dQ (by simp)]
    exact Ends.cons (by decide)
   ·rw[bf,List.nil_append,dQ hpb]
    exact CU _ hs
  | iff =>
   obtain⟨a1,a2,a3⟩:=hk 0 (by omega);obtain⟨b1,b2,b3⟩:=hk 1 (by omega);obtain⟨c1,c2,c3⟩:=hk 2 (by omega);simp only[jh];simp only[if_neg,if_pos,show ¬ (21:Int)=1 by decide,show ¬ (21:Int)=2 by decide,show ¬ (21:Int)=3 by decide,show ¬ (21:Int)=4 by decide,show ¬ (21:Int)=5 by decide,show ¬ (21:Int)=6 by decide,not_false_eq_true];rw[a1,b1,c1]
   have:=((((fB.key (t:=[105,102]) (by decide)).jW a2 a3).jW (fB.key (t:=[116,104,101,110]) (by decide)) (by simp)).jW b2 b3).jW (fB.key (t:=[101,108,115,101]) (by decide)) (by simp) |>.jW c2 c3
   simpa using this
  | pF =>
   obtain⟨a1,a2,a3⟩:=hk 0 (by omega);obtain⟨b1,b2,b3⟩:=hk 1 (by omega);simp only[lN] at hnm;rw[if_pos (by decide),Bool.and_eq_true] at hnm;simp only[jh];simp only[if_neg,if_pos,show ¬ (22:Int)=1 by decide,show ¬ (22:Int)=2 by decide,show ¬ (22:Int)=3 by decide,show ¬ (22:Int)=4 by decide,show ¬ (22:Int)=5 by decide,show ¬ (22:Int)=6 by decide,show ¬ (22:Int)=21 by decide,not_false_eq_true];rw[a1,b1];have hq:=(fB.key (t:=[108,101,116]) (by decide)).jW (fB.word (q9 (lZ hnm.1)).2) (by simp)
   have h1:fB ([dD [108,101,116]]++vR [dD e.name]++(vR [mX [61]]++vR ks[0].pR)):=fun r hr=>iy.2 ⟨hq _ (by
     rw[bT,dQ (by simp)]
     exact Ends.cons (by decide)),iy.2 ⟨zm.2 ⟨qD [61] (by decide),by rw[bf,List.nil_append,dQ a3];exact CU [61] (by decide),trivial⟩,zm.2 (a2 r hr)⟩⟩
   have:=(h1.jW (fB.key (t:=[105,110]) (by decide)) (by simp)).jW b2 b3
   simpa using this
  | pG =>
   obtain⟨a1,a2,a3⟩:=hk 0 (by omega);obtain⟨b1,b2,b3⟩:=hk 1 (by omega);simp only[jh];simp only[if_neg,if_pos,show ¬ (23:Int)=1 by decide,show ¬ (23:Int)=2 by decide,show ¬ (23:Int)=3 by decide,show ¬ (23:Int)=4 by decide,show ¬ (23:Int)=5 by decide,show ¬ (23:Int)=6 by decide,show ¬ (23:Int)=21 by decide,show ¬ (23:Int)=22 by decide,not_false_eq_true];rw[a1,b1];have:=(((fB.key (t:=[97,115,115,101,114,116]) (by decide)).jW a2 a3).jW (fB.key (t:=[105,110]) (by decide)) (by simp)).jW b2 b3
   simpa using this
  | call h =>
   simp only[lN] at hnm;rw[if_neg (by decide),if_pos trivial,Bool.and_eq_true,Bool.or_eq_true,decide_eq_true_eq] at hnm;simp only[jh];simp only[if_neg,if_pos,show ¬ (24:Int)=1 by decide,show ¬ (24:Int)=2 by decide,show ¬ (24:Int)=3 by decide,show ¬ (24:Int)=4 by decide,show ¬ (24:Int)=5 by decide,show ¬ (24:Int)=6 by decide,show ¬ (24:Int)=21 by decide,show ¬ (24:Int)=22 by decide,show ¬ (24:Int)=23 by decide,not_false_eq_true];rw[hm];intro r hr
   have h1:LQ ([dD e.name,mX [40]]++(nZ (ks.map PZ.pR)++[mX [41]])) r:=by
    refine iy.2 ⟨?_,hcm.close [41] (by decide) (by decide) r⟩;have:=(fB.word (q9 (lZ hnm.1)).2).close [40] (by decide) (by decide);exact this _
   split
   ·exact h1
   ·rename_i hmd
    refine iy.2 ⟨?_,h1⟩;have:=(fB.word (q9 (lZ (hnm.2.resolve_left hmd))).2).close [46] (by decide) (by decide);exact this _
end Go.Proofs.YtknicmmigbhpcaaGreatDoor

namespace Go.Proofs.YtknicmmigbhpcaaGreatDoor
open Go.RowKit Go
theorem VG {T:TypeId}(B b:Nat)(acc:List UInt8)(w:World)(h:jO B b acc w T)(h0:acc≠[]) :
  Calls Tryz.prog 77 #[.pointer (some ⟨b,0,none⟩)] w fun e w'=>e=.returned (.string ⟨acc.toArray⟩)∧Below B w w':=by
 obtain⟨p,hB,v,hbk,hown,hne⟩:=h.at
 have hl0:acc.length≠0:=by simpa using h0
 rw[Lib.byteCells_length] at hown
 obtain⟨g,cap,cur,fz,rfl,hbg,hg,hfz,hnc,hcm,hcs,htake⟩:∃ g cap cur fz,v=.slice (some ⟨g,0,none⟩) acc.length cap∧B≤g∧w.heap[g]?=some (.cells cur 5 fz)∧fz.2≤acc.length * 1∧acc.length≤cap∧cap≤maxLen∧cur.size=cap * 1∧cur.toList.take (acc.length * 1)=Lib.byteCells acc:=by
  rcases hown.2 with ⟨_,hz⟩|⟨g,cap,cur,fz,hv,r⟩
  ·exact absurd hz hl0
  ·exact⟨g,cap,cur,fz,hv,r⟩
 have c1:w.drew.cell? ⟨b,1,none⟩=some (.slice (some ⟨g,0,none⟩) acc.length cap):=by
  have:w.drew.heap[b]?=some (.cells #[p,.slice (some ⟨g,0,none⟩) acc.length cap] T (0,0)):=hbk;rw[Lib.cell_of_heap this];rfl
 have hSD:(Builtin.unsafeSliceData_ #[151] 219 #[.slice (some ⟨g,0,none⟩) acc.length cap]).run Tryz.prog w.drew=.ok (.pointer (some ⟨g,0,none⟩)) w.drew :=
  Lib.run_unsafeSliceData_row _ _ _ _ _ _ (by omega)
 have hUS:(Builtin.unsafeString_ #[219,3] 9 #[.pointer (some ⟨g,0,none⟩),.int .i64 acc.length]).run Tryz.prog w.drew=.ok (.string ⟨acc.toArray⟩) (w.drew.freeze ⟨g,0,none⟩ acc.length):=by
  refine Lib.run_unsafeString_row w.drew 219 3 9 5 (by kernel_rfl) (by kernel_rfl) g cur.size (by have hg':w.drew.heap[g]?=some (.cells cur 5 fz):=hg;simp[World.shape?,hg']) acc h0 (by omega) (by unfold maxLen at hcm;omega) ?_;intro j x hx;exact hown.cells (g:=g) rfl j (.int .u8 x.toNat) (by simp[Lib.byteCells,hx])
 clear h hne hown hbk htake hcs hcm hfz hg
 have mixed:Tryz.prog.follows .mixedOrders=true:=by kernel_rfl
 go_enter Tryz.func77,Tryz.ntmps77;go_wp2
 go_region_o
 all_goals (go_wp2;go_ret;exact⟨rfl,Lib.below_freeze (Below.drew (Below.refl B w)) (p:=⟨g,0,none⟩) hbg _⟩)
structure InZ (e:PZ) (B:Nat) (am:Option Addr) (wn cm:Nat) (ae:Option Addr) (ce:Nat) (w:World):Prop where
 at_:oI YA (fun k=>k<B) w (.slice am wn cm) (.slice ae e.kids.length ce) e
 hB:B≤w.heap.size
 fit:e.fit
theorem InZ.below {e:PZ}{B:Nat}{am:Option Addr}{wn cm:Nat}{ae:Option Addr}{ce:Nat}{w w':World}(h:InZ e B am wn cm ae ce w)(hb:Below w.heap.size w w'):InZ e B am wn cm ae ce w':=⟨h.at_.frame (aQ.of hb),Nat.le_trans h.hB hb.size,h.fit⟩
theorem YQ {fm:Bool}{e:PZ}(h:e.right fm=true):e.text≠[]:=by
 obtain⟨h1,h2⟩:=PZ.bytes (SizeOf.sizeOf e+1) e (by omega) h;have hok:=PZ.Z7 (SizeOf.sizeOf e+1) e (by omega) h [] (by intro c hc;cases hc)
 cases hp:e.pR with
 | nil=>exact absurd hp h2
 | cons p l =>
  rw[hp] at hok h1;have:=(Rl (r:=bf l++[]) hok.1 hok.2.1).2.2.1;rw[← h1,bf];intro q;have:=congrArg List.length q;simp only[bP,List.length_nil] at this;omega
end Go.Proofs.YtknicmmigbhpcaaGreatDoor
