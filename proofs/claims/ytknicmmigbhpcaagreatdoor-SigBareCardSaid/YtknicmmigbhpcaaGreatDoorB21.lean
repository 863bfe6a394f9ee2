/- Walks and plain laws: ShowM, ShowLaws, PrintOk, ShowN0. -/
import Derived.Test.YtknicmmigbhpcaaGreatDoorB20
set_option maxHeartbeats 16000000
set_option maxRecDepth 100000
set_option linter.unusedVariables false
set_option linter.unusedSimpArgs false
namespace Go.Proofs.YtknicmmigbhpcaaGreatDoor
open Go.RowKit Go
theorem NT {e:PZ}{B B' b:Nat}{am:Option Addr}{wn cm:Nat}{ae:Option Addr}{ce:Nat}{acc:List UInt8}{w:World}(E:Ae e B B' b am wn cm ae ce acc w)(hop:e.op=24)(hkn:e.kids.length≤8)(hnl:e.name.length≤65536)(hml:e.module.length≤65536) :
  Calls Tryz.prog 129 #[.pointer (some ⟨b,0,none⟩),.agg #[.int .i64 e.op,.string ⟨e.name.toArray⟩,.string ⟨e.module.toArray⟩,.bool (decide (e.num<0)),.slice am wn cm,.bool e.yes,.slice ae e.kids.length ce,.int .i64 e.at_]] w (bV B' b (acc++e.text) w):=by
 have hal:=aj w (.cells (aU e.op ⟨e.name.toArray⟩ ⟨e.module.toArray⟩ (decide (e.num<0)) (.slice am wn cm) e.yes (.slice ae e.kids.length ce) e.at_) 46);have hN:=heap_alloc_new w (.cells (aU e.op ⟨e.name.toArray⟩ ⟨e.module.toArray⟩ (decide (e.num<0)) (.slice am wn cm) e.yes (.slice ae e.kids.length ce) e.at_) 46);have hb1:=E.qN.kY hal;have hB:=E.hB;have mM:=E.mM;have hln:=E.len;have HD:=ah E.does;have HK:=ah E.kids;have vW:=hal.mono hB;have ED:=E.few;have htd:=e.mH
 have hgt:∀ i,(h:i<e.kids.length)→(gK e.kids).getD i (0,[])=(e.kids[i].op,e.kids[i].text):=fun i h=>j3 h
 clear E
 have htx:e.text=(if (ByteArray.mk e.module.toArray).data.toList=[] then [] else (ByteArray.mk e.module.toArray).data.toList++[46])++(ByteArray.mk e.name.toArray).data.toList++[40]++bg (e.kids.map PZ.text)++[41]:=by
  rw[htd,hop,nU];simp only[lD,List.map_map]
  rfl
 have hC:=fun (W:World) (hW:Below B' w W) (hb:jO B' b acc W 155)=>VD e.op ⟨e.name.toArray⟩ ⟨e.module.toArray⟩ (decide (e.num<0)) am wn cm e.yes ae ce e.at_ e.kids HD.out B B' b acc W (by omega) (fun h0=>by
  obtain⟨kb,off,q1,q2,q3,q4⟩:=HK.out h0;have hb2:=hW.mono mM;refine⟨kb,off,q1,q2,Nat.lt_of_lt_of_le q3 hb2.size,fun i hi=>?_⟩;obtain⟨Eo,wn',Ep,xP,xQ,q5,q6⟩:=q4 i hi
  exact⟨Eo,wn',Ep,xP,xQ,q5.frame (aQ.sQ hb2 fun b hb=>hb),fun j u hu=>(hb2.cell (p:=⟨kb,off+i * 8+j,none⟩) q2).trans (q6 j u hu)⟩) mM hb (Nat.le_trans hB hW.size) e.text htx hln
 have HC:=ah hC;clear hC htx htd hgt HD HK hln;generalize e.text=out at *;generalize hop':e.op=op at *;subst hop;have HB1:=ah hb1;have HN:=ah hN;clear hb1 hN hop';go_enter Tryz.func129,Tryz.ntmps129
 go_upto_region 1 with fail
 change Code.wp _ _ _ _ (w.alloc (.cells (aU 24 ⟨e.name.toArray⟩ ⟨e.module.toArray⟩ (decide (e.num<0)) (.slice am wn cm) e.yes (.slice ae e.kids.length ce) e.at_) 46));generalize w.alloc _=w1 at hal HN HB1 vW ⊢;have hB1:=Nat.le_trans hB hal.size;obtain⟨y0,y1,y2,y3,y4,y5,y6,y7⟩:=aG HN.out;have L6:=ah (HC.out w1 vW HB1.out);go_wp2_with (go_at_call 208;refine L6.out.mono ?_;rintro r w3 h3;obtain rfl:=h3.eq)
 go_end0
 exact bV.from hal hB ((jJ.start HB1.out).write h3)
theorem RS {e:PZ}{B B' b:Nat}{am:Option Addr}{wn cm:Nat}{ae:Option Addr}{ce:Nat}{acc:List UInt8}{w:World}(E:Ae e B B' b am wn cm ae ce acc w)(h7:7≤e.op)(h20:e.op≤20)(hkn:e.kids.length=2) :
  Calls Tryz.prog 129 #[.pointer (some ⟨b,0,none⟩),.agg #[.int .i64 e.op,.string ⟨e.name.toArray⟩,.string ⟨e.module.toArray⟩,.bool (decide (e.num<0)),.slice am wn cm,.bool e.yes,.slice ae e.kids.length ce,.int .i64 e.at_]] w (bV B' b (acc++e.text) w):=by
 have hal:=aj w (.cells (aU e.op ⟨e.name.toArray⟩ ⟨e.module.toArray⟩ (decide (e.num<0)) (.slice am wn cm) e.yes (.slice ae e.kids.length ce) e.at_) 46);have hN:=heap_alloc_new w (.cells (aU e.op ⟨e.name.toArray⟩ ⟨e.module.toArray⟩ (decide (e.num<0)) (.slice am wn cm) e.yes (.slice ae e.kids.length ce) e.at_) 46);have hb1:=E.qN.kY hal;have hB:=E.hB;have mM:=E.mM;have hln:=E.len;have HD:=ah E.does;have HK:=ah E.kids;have vW:=hal.mono hB;have ED:=E.few;have htd:=e.mH
 have hgt:∀ i,(h:i<e.kids.length)→(gK e.kids).getD i (0,[])=(e.kids[i].op,e.kids[i].text):=fun i h=>j3 h
 clear E;have h0:=hgt 0 (by omega);have h1:=hgt 1 (by omega);have HD0:=ah (HD.out _ (List.getElem_mem (by omega:0<e.kids.length)));have HK0:=ah (fun W hW=>HK.out.at (W:=W) hW (by omega:0<e.kids.length));have HD1:=ah (HD.out _ (List.getElem_mem (by omega:1<e.kids.length)));have HK1:=ah (fun W hW=>HK.out.at (W:=W) hW (by omega:1<e.kids.length));rw[RO h7 h20,h0,h1] at htd;obtain⟨t1,t2,t3,t4,t5,t6,t21,t22,t23,t24⟩:=acF h7 h20;have HT:=ah (fun W=>PL e.op h7 h20 W);have VE:=ah htd;clear hgt h0 h1 HD HK htd;generalize e.kids[0]=x at *;generalize e.kids[1]=z at *;generalize e.text=out at *
 have oH:(0:Int)<(e.kids.length:Int):=by omega
 have acE:0<e.kids.length:=by omega
 have afv:(1:Int)<(e.kids.length:Int):=by omega
 have afw:1<e.kids.length:=by omega
 generalize e.op=op at *;generalize e.kids.length=nk at *;generalize Fb op=fa at HT;generalize sM op=fb at HT VE;generalize wV op=fc at HT VE;obtain⟨SG,hSG,eS⟩:=iM (qc op);rw[eS] at HT;rw[← hSG] at VE
 have hl2:acc.length+(oJ fb (x.op,x.text)).length+1+SG.size+1+(oJ fc (z.op,z.text)).length≤1099511627776:=by
  have:=congrArg List.length VE.out;simp only[bN,eG,List.length_nil,aK] at this;omega
 have HB1:=ah hb1;have HN:=ah hN;clear hb1 hN hkn hSG eS hln h7 h20;go_enter Tryz.func129,Tryz.ntmps129
 go_upto_region 1 with fail
 change Code.wp _ _ _ _ (w.alloc (.cells (aU op ⟨e.name.toArray⟩ ⟨e.module.toArray⟩ (decide (e.num<0)) (.slice am wn cm) e.yes (.slice ae nk ce) e.at_) 46));generalize w.alloc _=w1 at hal HN HB1 vW ⊢;have hB1:=Nat.le_trans hB hal.size;obtain⟨y0,y1,y2,y3,y4,y5,y6,y7⟩:=aG HN.out
 go_upto_region 2 with fail
 go_upto_region 3 with (go_at_call 209;refine(HT.out _).mono ?_;rintro r w2 ⟨rfl,hb2⟩)
 change Code.wp _ _ _ _ (w2.alloc (.cells #[.int .i64 fa,.int .i64 fb,.int .i64 fc,.string SG] 275));have s2:=(jJ.start HB1.out).below hb2 hB1;have hF:=heap_alloc_new w2 (.cells #[.int .i64 fa,.int .i64 fb,.int .i64 fc,.string SG] 275);have s3:=s2.below (aj w2 (.cells #[.int .i64 fa,.int .i64 fb,.int .i64 fc,.string SG] 275)) hB1;clear y0 y1 y2 y3 y4 y5 y6 y7;generalize w2.heap.size=fk at hF ⊢;generalize w2.alloc _=w3 at hF s3 ⊢;have hB3:=s3.rU.size;have s3d:=s3.drew;obtain⟨f0,f1,f2,f3⟩:=mZ hF;obtain⟨-,-,-,-,-,-,y6,-⟩:=aG (s3.box HB1.out HN.out (by decide) (by decide));obtain⟨kb,off,F3,F6,F7,Jf,ck1,rfl,hkB,hE,x0,x1,x2,x3,x4,x5,x6,x7⟩:=HK0.out w3 ((vW.trans s3.rU).mono mM);simp only[Nat.zero_mul,Nat.add_zero] at x0 x1 x2 x3 x4 x5 x6 x7;have HC:=ah (HD0.out fb B B' b F3 F6 F7 Jf ck1 _ w3.drew (hE.frame (aQ.of (Below.refl _ _).drew)) mM s3d.qN (show B'≤w3.heap.size by omega) (by omega));have HS3:=ah s3;have HF:=ah hF;clear hE HK0 HD0 s3 s2 hF hb2 HT
 go_still_tail 7,(by kernel_rfl)
 change wpList _ _ _ _ _ w3.drew;clear y6 x0 x1 x2 x3 x4 x5 x6 x7 f0 f1 f2 f3
 go_upto_region 4 with (go_at_call 206;refine HC.out.mono ?_;rintro r w4 h4;obtain rfl:=h4.eq)
 have s4:=s3d.write h4;have hB4:=s4.rU.size;have F4:=s3d.qN.block h4.2.2.2 HF.out (by decide) (by decide);obtain⟨f0,f1,f2,f3⟩:=mZ F4;clear h4 s3d HC
 go_upto_region 5 with (go_at_call 128;refine(RL ⟨#[32]⟩ SG ⟨#[32]⟩ B' b _ w4 s4.qN (by omega) (by show List.length _+1+SG.size+1≤_;rw[bN];omega)).mono ?_;rintro r w5 h5;obtain rfl:=h5.eq)
 have s5:=s4.write h5;have hB5:=s5.rU.size;have F5:=s4.qN.block h5.2.2.2 F4 (by decide) (by decide);have s5d:=s5.drew;clear f0 f1 f2 f3 h5 s4 F4;obtain⟨f0,f1,f2,f3⟩:=mZ F5;obtain⟨-,-,-,-,-,-,y6,-⟩:=aG (s5.box HB1.out HN.out (by decide) (by decide));obtain⟨kb1,off1,VG,VH,VI,ak2,ck2,hkk,afx,hE,x0,x1,x2,x3,x4,x5,x6,x7⟩:=HK1.out w5 ((vW.trans s5.rU).mono mM);simp only[Option.some.injEq,Addr.mk.injEq,and_true] at hkk;obtain⟨rfl,rfl⟩:=hkk;simp only[Nat.one_mul] at x0 x1 x2 x3 x4 x5 x6 x7;have HC:=ah (HD1.out fc B B' b VG VH VI ak2 ck2 _ w5.drew (hE.frame (aQ.of (Below.refl _ _).drew)) mM s5d.qN (show B'≤w5.heap.size by omega) (by show List.length (_++(([32]:List UInt8)++(SG.data.toList++[32])))+_≤_;simp only[bN,aK,eG,List.length_nil];omega));have HS5:=ah s5d;clear hE HK1 HD1 s5 s5d F5;go_wp2
 go_still_tail 7,(by kernel_rfl)
 change wpList _ _ _ _ _ w5.drew;clear y6 x0 x1 x2 x3 x4 x5 x6 x7 f0 f1 f2 f3;go_wp2_with (go_at_call 206;refine HC.out.mono ?_;rintro r w6 h6;obtain rfl:=h6.eq)
 go_end0
 have:=bV.from hal hB (HS5.out.write h6)
 rw[VE.out]
 simpa [List.append_assoc] using this
theorem Ga {fm:Bool}:∀ (n:Nat) (e:PZ),SizeOf.sizeOf e<n→e.right fm=true→e.fit→NP e
 | 0,_,h,_,_=>absurd h (by omega)
 | n+1,e,hs,hr,hf=>by
  have R:=PZ.Ii hr;obtain⟨f1,f2,f3,f4,f5⟩:=PZ.pq hf
  have ih:∀ x∈e.kids,zn x:=fun x hx=>Y4 x (Ga n x (by have:=e.iY x hx;omega) (R.kids x hx) (f5 x hx))
  intro B B' b am wn cm ae ce acc w h mM hbd hB hn
  have E:Ae e B B' b am wn cm ae ce acc w:=⟨h.Vo,ih,mM,hbd,hB,hn,h.form.1,f3,f4⟩
  have F:(1≤e.op∧e.op≤4)∨((e.op=5∨e.op=6)∧e.kids.length=1)∨(7≤e.op∧e.op≤20∧e.kids.length=2)∨(e.op=21∧e.kids.length=3)∨(e.op=22∧e.kids.length=2)∨(e.op=23∧e.kids.length=2)∨(e.op=24∧e.kids.length≤8):=by
   have F:=R.form;generalize e.op=op at F ⊢;generalize e.kids.length=c at F ⊢
   cases F<;>omega
  rcases F with ⟨h1,h2⟩|⟨h1,h2⟩|⟨h1,h2,h3⟩|⟨h1,h2⟩|⟨h1,h2⟩|⟨h1,h2⟩|⟨h1,h2⟩
  ·exact NQ E h1 h2
  ·exact RP E h1 h2
  ·exact RS E h1 h2 h3
  ·exact RQ E h1 h2
  ·exact NS E h1 h2 f1
  ·exact NR E h1 h2
  ·exact NT E h1 h2 f1 f2
end Go.Proofs.YtknicmmigbhpcaaGreatDoor

namespace Go.Proofs.YtknicmmigbhpcaaGreatDoor
theorem xS (n:Nat):0<(fJ n).length:=by
 unfold fJ
 split
 ·simp
 ·rw[bN];simp
theorem VJ (n:Int):0<(iZ n).length:=by
 rw[iZ,bN];have:=xS n.natAbs;omega
def Ends (r:List UInt8):Prop:=∀ c,r.head?=some c→aV c=false
theorem Ends.cons {c:UInt8}{r:List UInt8}(h:aV c=false):Ends (c :: r):=by
 intro d hd;simp only[List.head?_cons,Option.some.injEq] at hd;rw[← hd];exact h
theorem Io {c:UInt8}(h:aV c=false):aL c=false:=by
 simp only[aV,Bool.or_eq_false_iff] at h;exact h.1.2
theorem VK {k:Nat}(hk:k≠4){t r:List UInt8}(h:Ends r):ze k t r.head?=true:=by
 cases hr:r.head? with
 | none=>rfl
 | some c =>
  have:=h c hr;rw[ze,if_neg hk]
  split
  ·rw[Io this];rfl
  ·rw[this];rfl
def Gc (t:List UInt8):Bool:=t.all aV && (t.headD 0 |> dH) && decide (0<t.length) && decide (t.length≤40) && decide (t ∉ pF)
theorem lZ {w:List UInt8}(h:dL w=true):Gc w=true:=by
 unfold dL at h
 cases hl:bO w with
 | error x=>rw[hl] at h;cases h
 | ok l =>
  rw[hl] at h
  match l,h with
  | [t,x],h =>
   simp only[Bool.and_eq_true,decide_eq_true_eq] at h;obtain⟨h1,h2⟩:=h;unfold bO at hl
   split at hl
   ·cases hl
   ·unfold nQ at hl
    dsimp only at hl
    split at hl
    ·cases hl
    ·rename_i he
     split at hl
     ·injection hl with hl;cases hl
     ·split at hl
      ·cases hl
      ·injection hl with hl
       have ht:=(List.cons.inj hl).1
       have hk:(dY (w.drop (bK false w))).1=1:=by rw[← ht] at h1;exact h1
       have htx:(w.drop (bK false w)).take (dY (w.drop (bK false w))).2.1=w:=by rw[← ht] at h2;exact h2
       have hp:=wK (w.drop (bK false w)) (by simpa using he) (by rw[hk];decide);have hlen:=congrArg List.length htx;rw[List.length_take,List.length_drop] at hlen;have hle:=wJ (w.drop (bK false w));rw[List.length_drop] at hle
       have hk0:bK false w=0:=by omega
       rw[hk0,List.drop_zero] at hk htx he hle;rw[hk0] at hlen
       have hwl:(dY w).2.1=w.length:=by rw[List.drop_zero] at hlen;omega
       cases w with
       | nil=>simp[dY] at hk
       | cons c r =>
        rw[dY] at hk hwl
        by_cases hc:dH c=true
        ·rw[if_pos hc] at hk hwl
         unfold lu at hk hwl;simp only at hk hwl
         split at hk
         ·cases hk
         ·rename_i XM
          rw[if_neg XM] at hwl
          split at hk
          ·cases hk
          ·rename_i hkey
           rw[if_neg hkey] at hwl;simp only at hwl;have hall:(c :: r).takeWhile aV=c :: r:=(List.takeWhile_prefix aV).eq_of_length hwl;rw[hall] at XM hkey
           have ha:(c :: r).all aV=true:=by rw[← hall];exact List.all_takeWhile
           simp only[Gc,Bool.and_eq_true,decide_eq_true_eq];exact⟨⟨⟨⟨ha,hc⟩,by simp⟩,by omega⟩,hkey⟩
        ·rw[if_neg hc] at hk
         split at hk
         ·unfold nP at hk
          simp only at hk
          split at hk<;>cases hk
         ·unfold Aq at hk
          split at hk<;>cases hk
  | [],h=>cases h
  | [_],h=>cases h
  | _ :: _ :: _ :: _,h=>cases h
theorem VL (t:List UInt8):lY (Vn t)=(t.all aL && decide (0<t.length) && decide (t.length≤60) && (decide (t.length=1) || !decide (t[0]?=some 48))):=rfl
theorem aa2 (t:List UInt8):lY ⟨[],1,t⟩=(t.all aV && dH (t.headD 0) && decide (0<t.length) && decide (t.length≤40) && decide (1=if t∈pF then 2 else 1)):=rfl
theorem rC {t:List UInt8}(h:Gc t=true):dF t=⟨[],1,t⟩∧lY (dF t)=true:=by
 simp only[Gc,Bool.and_eq_true,decide_eq_true_eq] at h
 have e:dF t=⟨[],1,t⟩:=by rw[dF,if_neg h.2]
 refine⟨e,?_⟩;rw[e,aa2];simp only[Bool.and_eq_true,decide_eq_true_eq];exact⟨⟨⟨⟨h.1.1.1.1,h.1.1.1.2⟩,h.1.1.2⟩,h.1.2⟩,by rw[if_neg h.2]⟩
theorem RU:∀ t∈pF,lY (dF t)=true:=by decide
theorem qC:∀ t∈iI,lY (mY t)=true:=by decide
theorem RV {n:Nat}:(fJ n).all aL=true:=by
 induction n using Nat.strongRecOn with
 | ind n ih =>
  rw[fJ]
  split
  ·have:∀ k:Fin 10,aL (UInt8.ofNat (48+k.val))=true:=by decide
   have:=this ⟨n,by omega⟩
   simpa using this
  ·rename_i h
   rw[List.all_append,ih (n / 10) (by omega),Bool.true_and]
   have:∀ k:Fin 10,aL (UInt8.ofNat (48+k.val))=true:=by decide
   have:=this ⟨n % 10,by omega⟩
   simpa using this
theorem VN {n:Nat}:(fJ n).length=1∨(fJ n)[0]?≠some 48:=by
 induction n using Nat.strongRecOn with
 | ind n ih =>
  rw[fJ]
  split
  ·left;simp
  ·rename_i h
   right
   have hp:=xS (n / 10);rw[List.getElem?_append_left hp]
   rcases ih (n / 10) (by omega) with q|q
   ·intro q2
    have:n / 10<10:=by
     apply Classical.byContradiction
     intro q3;rw[fJ,dif_neg (by omega)] at q;have:=xS (n / 10 / 10);simp only[bN,eG,List.length_nil] at q;omega
    rw[fJ,dif_pos this] at q2;simp only[eG,List.length_nil,Nat.zero_add,Nat.lt_add_one,List.getElem?_eq_getElem,List.getElem_cons_zero,Option.some.injEq] at q2;have h2:=congrArg UInt8.toNat q2;rw[UInt8.toNat_ofNat'] at h2;simp at h2;omega
   ·exact q
theorem Gd {n:Int}(h0:0≤n)(GQ:(iZ n).length≤60):lY (Vn (iZ n))=true:=by
 obtain⟨m,rfl⟩:=Int.eq_ofNat_of_zero_le h0;rw[wS] at GQ ⊢;rw[VL];simp only[Bool.and_eq_true,decide_eq_true_eq,Bool.or_eq_true,Bool.not_eq_true',decide_eq_false_iff_not];exact⟨⟨⟨RV,xS m⟩,GQ⟩,VN⟩
theorem zu {l:List Pc}{r:List UInt8}:L9 (vT l) r↔L9 l r:=by
 cases l with
 | nil=>exact Iff.rfl
 | cons p l =>
  rw[vT,L9,L9]
  have:lY ⟨32 :: p.lead,p.kind,p.text⟩=lY p:=by simp[lY,dK]
  rw[this]
theorem CX {l:List Pc}(h:l≠[])(r:List UInt8):Ends (bf (vT l)++r):=by
 rw[dQ h];exact Ends.cons (by decide)
theorem Gf (t:List UInt8)(h:t∈[[40],[41],[44],[46],[123],[125],[58],[59]])(c:Option UInt8):ze 4 t c=true:=by
 cases c with
 | none=>rfl
 | some c =>
  have:∀ t∈([[40],[41],[44],[46],[123],[125],[58],[59]]:List (List UInt8)),∀ n:Fin 256,ze 4 t (some (UInt8.ofNat n.val))=true:=by decide +kernel
  have h1:=this t h ⟨c.toNat,c.toNat_lt⟩;rw[UInt8.ofNat_toNat] at h1;exact h1
theorem CY:∀ t∈iI,ze 4 t (some 32)=true:=by decide
theorem NU {c:Option UInt8}(h:c≠some 45):ze 4 [45] c=true:=by
 cases c with
 | none=>rfl
 | some c =>
  have:∀ n:Fin 256,UInt8.ofNat n.val≠45→ze 4 [45] (some (UInt8.ofNat n.val))=true:=by decide +kernel
  have h1:=this ⟨c.toNat,c.toNat_lt⟩;rw[UInt8.ofNat_toNat] at h1
  exact h1 fun q=>h (by rw[q])
def fD (l:List Pc):Prop:=∀ r,Ends r→L9 l r
theorem fD.word {t:List UInt8}(h:lY (dF t)=true):fD [dF t]:=fun r hr=>⟨h,by
 have:(dF t).kind≠4:=by unfold dF;simp only;split<;>decide
 exact VK this hr,trivial⟩
theorem fD.key {t:List UInt8}(h:t∈pF):fD [dF t]:=fD.word (RU t h)
theorem fD.jX {a b:List Pc}(h:fD a)(hb:fD b)(hne:b≠[]):fD (a++vT b):=fun r hr=>iA.2 ⟨h _ (CX hne r),zu.2 (hb r hr)⟩
theorem fD.close {a:List Pc}(h:fD a)(t:List UInt8)(ht:t∈[[40],[41],[44],[46],[123],[125],[58],[59]])(hi:∀ x∈t,aV x=false):∀ r,L9 (a++[mY t]) r:=fun r=>by
 have hs:t∈iI:=by
  have:∀ t∈([[40],[41],[44],[46],[123],[125],[58],[59]]:List (List UInt8)),t∈iI:=by decide
  exact this t ht
 refine iA.2 ⟨h _ ?_,qC t hs,Gf t ht _,trivial⟩;intro c hc
 cases t with
 | nil=>exact absurd hs (by decide)
 | cons x t=>simp[bf,mY] at hc;rw[← hc];exact hi x (by simp)
theorem VO {l:List Pc}{r:List UInt8}(t:List UInt8)(ht:t∈[[40],[41],[44],[46],[123],[125],[58],[59]])(h:L9 l r):L9 (mY t :: l) r:=by
 have hs:t∈iI:=by
  have:∀ t∈([[40],[41],[44],[46],[123],[125],[58],[59]]:List (List UInt8)),t∈iI:=by decide
  exact this t ht
 exact⟨qC t hs,Gf t ht _,h⟩
theorem Ip {least:Int}{k:Int × List Pc}(h:fD k.2):fD (AA least k):=by
 intro r hr;unfold AA
 split
 ·exact VO [40] (by decide) (h.close [41] (by decide) (by decide) r)
 ·exact h r hr
theorem KJ:∀ (es:List PZ),(∀ x∈es,fD x.pR∧x.pR≠[])→fD (nZ (es.map PZ.pR))
 | [],_=>fun _ _=>trivial
 | [e],h=>(h e (by simp)).1
 | e :: f :: l,h=>by
  have ih:=KJ (f :: l) fun x hx=>h x (List.mem_cons_of_mem _ hx)
  have he:=(h e (by simp)).1;intro r hr;simp only[List.map_cons] at ih ⊢;rw[nZ,show e.pR++mY [44] :: vT (nZ (f.pR :: l.map PZ.pR))=(e.pR++[mY [44]])++vT (nZ (f.pR :: l.map PZ.pR)) by simp];exact iA.2 ⟨he.close [44] (by decide) (by decide) _,zu.2 (ih r hr)⟩
theorem aa3 (nm md:List UInt8)(num:Int)(yes:Bool)(ks:List (Int × List Pc)):jk 2 nm md num yes ks=[dF (if yes=true then [116,114,117,101] else [102,97,108,115,101])]:=rfl
theorem VP (nm md:List UInt8)(num:Int)(yes:Bool)(ks:List (Int × List Pc)):jk 3 nm md num yes ks=[dF nm]:=rfl
theorem aa4 (nm md:List UInt8)(num:Int)(yes:Bool)(ks:List (Int × List Pc)):jk 4 nm md num yes ks=[dF [114,101,115]]:=rfl
theorem VQ {e:PZ}{fm:Bool}(h:CS fm e)(hne:e.pR≠[])(r:List UInt8):(bf (AA 9 (e.op,e.pR))++r).head?≠some 45:=by
 unfold AA
 split
 ·simp[bf,mY]
 ·rename_i hl
  have F:=h.form;simp only at hl;rw[e.Ih];have hnm:=h.names;have hv:=h.values;generalize hc:e.kids.length=c at F;generalize e.op=op at *
  cases F with
  | none h1 h2 =>
   have:op=1∨op=2∨op=3∨op=4:=by omega
   rcases this with rfl|rfl|rfl|rfl
   ·simp only[oQ,if_pos,Bool.and_eq_true,decide_eq_true_eq] at hv
    have hp:=Gd hv.1.1 hv.1.2;rw[VL] at hp;simp only[Bool.and_eq_true] at hp;have hd:=hp.1.1.1;have hpos:=VJ e.num;simp only[jk,if_pos,bf,Vn]
    cases hi:iZ e.num with
    | nil=>rw[hi] at hpos;simp at hpos
    | cons c r =>
     rw[hi,List.all_cons,Bool.and_eq_true] at hd;simp only[List.nil_append,List.cons_append,List.head?_cons,ne_eq,Option.some.injEq];exact(Kz c hd.1).2.2
   ·simp[jk,bf,dF];split<;>simp
   ·have hnm:dL e.name=true:=by
     simp only[lS] at hnm;rw[if_pos (by decide),Bool.and_eq_true] at hnm;exact hnm.1
    have hn:=lZ hnm;simp only[Gc,Bool.and_eq_true] at hn;rw[VP]
    cases hi:e.name with
    | nil=>rw[hi] at hn;simp at hn
    | cons c r =>
     rw[hi] at hn;simp only[bf,dF,List.nil_append,List.cons_append,List.head?_cons,ne_eq,Option.some.injEq];exact(zf c hn.1.1.1.2).2.2
   ·simp[jk,bf,dF]
  | one h=>rcases h with rfl|rfl<;>exact absurd (by decide) hl
  | two h1 h2 =>
   exfalso
   apply hl
   unfold Fb;rw[if_neg (by omega),if_neg (by omega)]
   repeat (first|omega|(split;(first|omega|decide)))
  | iff=>exact absurd (by decide) hl
  | pG=>exact absurd (by decide) hl
  | pI=>exact absurd (by decide) hl
  | call h =>
   have hnm:dL e.name=true∧(e.module=[]∨dL e.module=true):=by
    simp only[lS] at hnm;rw[if_neg (by decide),if_pos trivial,Bool.and_eq_true,Bool.or_eq_true,decide_eq_true_eq] at hnm;exact hnm
   simp only[jk];simp only[if_neg,if_pos,show ¬ (24:Int)=1 by decide,show ¬ (24:Int)=2 by decide,show ¬ (24:Int)=3 by decide,show ¬ (24:Int)=4 by decide,show ¬ (24:Int)=5 by decide,show ¬ (24:Int)=6 by decide,show ¬ (24:Int)=21 by decide,show ¬ (24:Int)=22 by decide,show ¬ (24:Int)=23 by decide,not_false_eq_true]
   have key:∀ w,dL w=true→∀ l,(w++l).head?≠some 45:=by
    intro w hw l;have hn:=lZ hw;simp only[Gc,Bool.and_eq_true] at hn
    cases w with
    | nil=>simp at hn
    | cons c r =>
     simp only[List.cons_append,List.head?_cons,ne_eq,Option.some.injEq];exact(zf c hn.1.1.1.2).2.2
   split
   ·simp only[List.nil_append,bf,dF,List.cons_append,List.append_assoc]
    exact key _ hnm.1 _
   ·rename_i hm
    have:=hnm.2.resolve_left hm;simp only[List.nil_append,bf,dF,List.cons_append,List.append_assoc];exact key _ this _
theorem VR {op:Int}(h1:7≤op)(h2:op≤20):qc op∈iI∧qc op∈nS:=by
 have:∀ k:Fin 14,qc ((k.val+7:Nat):Int)∈iI∧qc ((k.val+7:Nat):Int)∈nS:=by decide
 have h:=this ⟨(op - 7).toNat,by omega⟩;rw[show (((⟨(op - 7).toNat,by omega⟩:Fin 14).val+7:Nat):Int)=op by simp only;omega] at h;exact h
theorem PZ.aaj {fm:Bool}:∀ (n:Nat) (e:PZ),SizeOf.sizeOf e<n→e.right fm=true→fD e.pR
 | 0,_,h,_=>absurd h (by omega)
 | n+1,e,hs,hr=>by
  have R:=PZ.Ii hr
  have ih:∀ x∈e.kids,fD x.pR∧x.pR≠[]:=fun x hx=>⟨PZ.aaj n x (by have:=e.iY x hx;omega) (R.kids x hx),(PZ.bytes n x (by have:=e.iY x hx;omega) (R.kids x hx)).2⟩
  have hrk:∀ x∈e.kids,CS fm x:=fun x hx=>PZ.Ii (R.kids x hx)
  have F:=R.form;rw[e.Ih]
  have hk:∀ i,(h:i<e.kids.length)→(EF e.kids).getD i (0,[])=(e.kids[i].op,e.kids[i].pR)∧fD e.kids[i].pR∧e.kids[i].pR≠[]:=fun i h=>⟨KA h,ih _ (List.getElem_mem h)⟩
  have hm:(EF e.kids).map Prod.snd=e.kids.map PZ.pR:=by rw[xM];simp
  have hcm:=KJ e.kids ih;have hnm:=R.names;have hv:=R.values;generalize e.kids=ks at *;generalize hn:ks.length=c at F;generalize e.op=op at *
  cases F with
  | none h1 h2 =>
   have:op=1∨op=2∨op=3∨op=4:=by omega
   rcases this with rfl|rfl|rfl|rfl
   ·simp only[oQ,if_pos,Bool.and_eq_true,decide_eq_true_eq] at hv
    simp only[jk,if_pos]
    exact fun r hr=>⟨Gd hv.1.1 hv.1.2,VK (by show (3:Nat)≠4;decide) hr,trivial⟩
   ·rw[aa3]
    split
    ·exact fD.key (by decide)
    ·exact fD.key (by decide)
   ·simp only[lS] at hnm
    rw[if_pos (by decide),Bool.and_eq_true] at hnm;rw[VP];exact fD.word (rC (lZ hnm.1)).2
   ·rw[aa4]
    exact fD.key (by decide)
  | one h =>
   obtain⟨a1,a2,a3⟩:=hk 0 (by omega);have ad1:=hrk _ (List.getElem_mem (show 0<ks.length by omega))
   rcases h with rfl|rfl
   ·simp only[jk]
    simp only[if_neg,if_pos,show ¬ (5:Int)=1 by decide,show ¬ (5:Int)=2 by decide,show ¬ (5:Int)=3 by decide,show ¬ (5:Int)=4 by decide,not_false_eq_true];rw[a1]
    exact fun r hr=>⟨qC [45] (by decide),NU (VQ ad1 a3 r),Ip (k:=(ks[0].op,ks[0].pR)) a2 r hr⟩
   ·simp only[jk]
    simp only[if_neg,if_pos,show ¬ (6:Int)=1 by decide,show ¬ (6:Int)=2 by decide,show ¬ (6:Int)=3 by decide,show ¬ (6:Int)=4 by decide,show ¬ (6:Int)=5 by decide,not_false_eq_true];rw[a1];exact(fD.key (t:=[110,111,116]) (by decide)).jX (Ip (k:=(ks[0].op,ks[0].pR)) a2) (AY a3)
  | two h1 h2 =>
   obtain⟨a1,a2,a3⟩:=hk 0 (by omega);obtain⟨b1,b2,b3⟩:=hk 1 (by omega)
   have e1:∀ k:Int,(k≤6∨21≤k)→¬ op=k:=fun k hk q=>by omega
   simp only[jk];rw[if_neg (e1 1 (by omega)),if_neg (e1 2 (by omega)),if_neg (e1 3 (by omega)),if_neg (e1 4 (by omega)),if_neg (e1 5 (by omega)),if_neg (e1 6 (by omega)),if_neg (e1 21 (by omega)),if_neg (e1 22 (by omega)),if_neg (e1 23 (by omega)),if_neg (e1 24 (by omega)),a1,b1];have hs:=(VR h1 h2).1;have hpb:=AY (least:=wV op) (k:=(ks[1].op,ks[1].pR)) b3;intro r hr;refine iA.2 ⟨Ip (k:=(ks[0].op,ks[0].pR)) a2 _ ?_,iA.2 ⟨zu.2 ⟨qC _ hs,?_,trivial⟩,zu.2 (Ip (k:=(ks[1].op,ks[1].pR)) b2 r hr)⟩⟩
   ·rw[bW,dQ (by simp)]
    exact Ends.cons (by decide)
   ·rw[bf,List.nil_append,dQ hpb]
    exact CY _ hs
  | iff =>
   obtain⟨a1,a2,a3⟩:=hk 0 (by omega);obtain⟨b1,b2,b3⟩:=hk 1 (by omega);obtain⟨c1,c2,c3⟩:=hk 2 (by omega);simp only[jk];simp only[if_neg,if_pos,show ¬ (21:Int)=1 by decide,show ¬ (21:Int)=2 by decide,show ¬ (21:Int)=3 by decide,show ¬ (21:Int)=4 by decide,show ¬ (21:Int)=5 by decide,show ¬ (21:Int)=6 by decide,not_false_eq_true];rw[a1,b1,c1]
   have:=((((fD.key (t:=[105,102]) (by decide)).jX a2 a3).jX (fD.key (t:=[116,104,101,110]) (by decide)) (by simp)).jX b2 b3).jX (fD.key (t:=[101,108,115,101]) (by decide)) (by simp) |>.jX c2 c3
   simpa using this
  | pG =>
   obtain⟨a1,a2,a3⟩:=hk 0 (by omega);obtain⟨b1,b2,b3⟩:=hk 1 (by omega);simp only[lS] at hnm;rw[if_pos (by decide),Bool.and_eq_true] at hnm;simp only[jk];simp only[if_neg,if_pos,show ¬ (22:Int)=1 by decide,show ¬ (22:Int)=2 by decide,show ¬ (22:Int)=3 by decide,show ¬ (22:Int)=4 by decide,show ¬ (22:Int)=5 by decide,show ¬ (22:Int)=6 by decide,show ¬ (22:Int)=21 by decide,not_false_eq_true];rw[a1,b1];have hq:=(fD.key (t:=[108,101,116]) (by decide)).jX (fD.word (rC (lZ hnm.1)).2) (by simp)
   have h1:fD ([dF [108,101,116]]++vT [dF e.name]++(vT [mY [61]]++vT ks[0].pR)):=fun r hr=>iA.2 ⟨hq _ (by
     rw[bW,dQ (by simp)]
     exact Ends.cons (by decide)),iA.2 ⟨zu.2 ⟨qC [61] (by decide),by rw[bf,List.nil_append,dQ a3];exact CY [61] (by decide),trivial⟩,zu.2 (a2 r hr)⟩⟩
   have:=(h1.jX (fD.key (t:=[105,110]) (by decide)) (by simp)).jX b2 b3
   simpa using this
  | pI =>
   obtain⟨a1,a2,a3⟩:=hk 0 (by omega);obtain⟨b1,b2,b3⟩:=hk 1 (by omega);simp only[jk];simp only[if_neg,if_pos,show ¬ (23:Int)=1 by decide,show ¬ (23:Int)=2 by decide,show ¬ (23:Int)=3 by decide,show ¬ (23:Int)=4 by decide,show ¬ (23:Int)=5 by decide,show ¬ (23:Int)=6 by decide,show ¬ (23:Int)=21 by decide,show ¬ (23:Int)=22 by decide,not_false_eq_true];rw[a1,b1];have:=(((fD.key (t:=[97,115,115,101,114,116]) (by decide)).jX a2 a3).jX (fD.key (t:=[105,110]) (by decide)) (by simp)).jX b2 b3
   simpa using this
  | call h =>
   simp only[lS] at hnm;rw[if_neg (by decide),if_pos trivial,Bool.and_eq_true,Bool.or_eq_true,decide_eq_true_eq] at hnm;simp only[jk];simp only[if_neg,if_pos,show ¬ (24:Int)=1 by decide,show ¬ (24:Int)=2 by decide,show ¬ (24:Int)=3 by decide,show ¬ (24:Int)=4 by decide,show ¬ (24:Int)=5 by decide,show ¬ (24:Int)=6 by decide,show ¬ (24:Int)=21 by decide,show ¬ (24:Int)=22 by decide,show ¬ (24:Int)=23 by decide,not_false_eq_true];rw[hm];intro r hr
   have h1:L9 ([dF e.name,mY [40]]++(nZ (ks.map PZ.pR)++[mY [41]])) r:=by
    refine iA.2 ⟨?_,hcm.close [41] (by decide) (by decide) r⟩;have:=(fD.word (rC (lZ hnm.1)).2).close [40] (by decide) (by decide);exact this _
   split
   ·exact h1
   ·rename_i hmd
    refine iA.2 ⟨?_,h1⟩;have:=(fD.word (rC (lZ (hnm.2.resolve_left hmd))).2).close [46] (by decide) (by decide);exact this _
end Go.Proofs.YtknicmmigbhpcaaGreatDoor

namespace Go.Proofs.YtknicmmigbhpcaaGreatDoor
open Go.RowKit Go
theorem VT {T:TypeId}(B b:Nat)(acc:List UInt8)(w:World)(h:jO B b acc w T)(h0:acc≠[]) :
  Calls Tryz.prog 77 #[.pointer (some ⟨b,0,none⟩)] w fun e w'=>e=.returned (.string ⟨acc.toArray⟩)∧Below B w w':=by
 obtain⟨p,hB,v,hbk,hown,hne⟩:=h.at
 have hl0:acc.length≠0:=by simpa using h0
 rw[Lib.byteCells_length] at hown
 obtain⟨g,cap,cur,fz,rfl,hbg,hg,hfz,hnc,hcm,hcs,htake⟩:∃ g cap cur fz,v=.slice (some ⟨g,0,none⟩) acc.length cap∧B≤g∧w.heap[g]?=some (.cells cur 5 fz)∧fz.2≤acc.length * 1∧acc.length≤cap∧cap≤maxLen∧cur.size=cap * 1∧cur.toList.take (acc.length * 1)=Lib.byteCells acc:=by
  rcases hown.2 with ⟨_,hz⟩|⟨g,cap,cur,fz,hv,r⟩
  ·exact absurd hz hl0
  ·exact⟨g,cap,cur,fz,hv,r⟩
 have c1:w.drew.cell? ⟨b,1,none⟩=some (.slice (some ⟨g,0,none⟩) acc.length cap):=by
  have:w.drew.heap[b]?=some (.cells #[p,.slice (some ⟨g,0,none⟩) acc.length cap] T (0,0)):=hbk;rw[Lib.cell_of_heap this];rfl
 have hSD:(Builtin.unsafeSliceData_ #[151] 219 #[.slice (some ⟨g,0,none⟩) acc.length cap]).run Tryz.prog w.drew=.ok (.pointer (some ⟨g,0,none⟩)) w.drew :=
  Lib.run_unsafeSliceData_row _ _ _ _ _ _ (by omega)
 have hUS:(Builtin.unsafeString_ #[219,3] 9 #[.pointer (some ⟨g,0,none⟩),.int .i64 acc.length]).run Tryz.prog w.drew=.ok (.string ⟨acc.toArray⟩) (w.drew.freeze ⟨g,0,none⟩ acc.length):=by
  refine Lib.run_unsafeString_row w.drew 219 3 9 5 (by kernel_rfl) (by kernel_rfl) g cur.size (by have hg':w.drew.heap[g]?=some (.cells cur 5 fz):=hg;simp[World.shape?,hg']) acc h0 (by omega) (by unfold maxLen at hcm;omega) ?_;intro j x hx;exact hown.cells (g:=g) rfl j (.int .u8 x.toNat) (by simp[Lib.byteCells,hx])
 clear h hne hown hbk htake hcs hcm hfz hg
 have mixed:Tryz.prog.follows .mixedOrders=true:=by kernel_rfl
 go_enter Tryz.func77,Tryz.ntmps77;go_wp2
 go_region_o
 all_goals (go_wp2;go_ret;exact⟨rfl,Lib.below_freeze (Below.drew (Below.refl B w)) (p:=⟨g,0,none⟩) hbg _⟩)
structure InZ (e:PZ) (B:Nat) (am:Option Addr) (wn cm:Nat) (ae:Option Addr) (ce:Nat) (w:World):Prop where
 at_:oI YA (fun k=>k<B) w (.slice am wn cm) (.slice ae e.kids.length ce) e
 hB:B≤w.heap.size
 fit:e.fit
theorem InZ.below {e:PZ}{B:Nat}{am:Option Addr}{wn cm:Nat}{ae:Option Addr}{ce:Nat}{w w':World}(h:InZ e B am wn cm ae ce w)(hb:Below w.heap.size w w'):InZ e B am wn cm ae ce w':=⟨h.at_.frame (aQ.of hb),Nat.le_trans h.hB hb.size,h.fit⟩
theorem Y6 {fm:Bool}{e:PZ}(h:e.right fm=true):e.text≠[]:=by
 obtain⟨h1,h2⟩:=PZ.bytes (SizeOf.sizeOf e+1) e (by omega) h;have hok:=PZ.aaj (SizeOf.sizeOf e+1) e (by omega) h [] (by intro c hc;cases hc)
 cases hp:e.pR with
 | nil=>exact absurd hp h2
 | cons p l =>
  rw[hp] at hok h1;have:=(Rz (r:=bf l++[]) hok.1 hok.2.1).2.2.1;rw[← h1,bf];intro q;have:=congrArg List.length q;simp only[bN,List.length_nil] at this;omega
end Go.Proofs.YtknicmmigbhpcaaGreatDoor
