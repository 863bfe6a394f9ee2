/- Walks and plain laws: ShowM, ShowLaws, PrintOk, ShowN0, TypedW. -/
import Derived.Test.YtknicmmigbhpcaaGreatDoorF22
set_option maxHeartbeats 16000000
set_option maxRecDepth 100000
set_option linter.unusedVariables false
set_option linter.unusedSimpArgs false
namespace Go.Proofs.YtknicmmigbhpcaaGreatDoor
open Go.RowKit Go
theorem Pq {e:PZ}{B B' b:Nat}{am:Option Addr}{wn cm:Nat}{ae:Option Addr}{ce:Nat}{acc:List UInt8}{w:World}(E:Az e B B' b am wn cm ae ce acc w)(hop:e.op=24)(hkn:e.kids.length≤8)(hnl:e.name.length≤65536)(hml:e.module.length≤65536) :
  Calls Tryz.prog 129 #[.pointer (some ⟨b,0,none⟩),.agg #[.int .i64 e.op,.string ⟨e.name.toArray⟩,.string ⟨e.module.toArray⟩,.bool (decide (e.num<0)),.slice am wn cm,.bool e.yes,.slice ae e.kids.length ce,.int .i64 e.at_]] w (bF B' b (acc++e.text) w):=by
 have hal:=aj w (.cells (aY e.op ⟨e.name.toArray⟩ ⟨e.module.toArray⟩ (decide (e.num<0)) (.slice am wn cm) e.yes (.slice ae e.kids.length ce) e.at_) 46);have hN:=heap_alloc_new w (.cells (aY e.op ⟨e.name.toArray⟩ ⟨e.module.toArray⟩ (decide (e.num<0)) (.slice am wn cm) e.yes (.slice ae e.kids.length ce) e.at_) 46);have hb1:=E.jZ.kK hal;have hB:=E.hB;have lu:=E.lu;have hln:=E.len;have HD:=ah E.does;have HK:=ah E.kids;have vL:=hal.mono hB;have Iz:=E.few;have htd:=e.nI
 have hgt:∀ i,(h:i<e.kids.length)→(gX e.kids).getD i (0,[])=(e.kids[i].op,e.kids[i].text):=fun i h=>kH h
 clear E
 have htx:e.text=(if (ByteArray.mk e.module.toArray).data.toList=[] then [] else (ByteArray.mk e.module.toArray).data.toList++[46])++(ByteArray.mk e.name.toArray).data.toList++[40]++bB (e.kids.map PZ.text)++[41]:=by
  rw[htd,hop,oP];simp only[mq,List.map_map]
  rfl
 have hC:=fun (W:World) (hW:Below B' w W) (hb:jE B' b acc W 155)=>WT e.op ⟨e.name.toArray⟩ ⟨e.module.toArray⟩ (decide (e.num<0)) am wn cm e.yes ae ce e.at_ e.kids HD.out B B' b acc W (by omega) (fun h0=>by
  obtain⟨kb,off,q1,q2,q3,q4⟩:=HK.out h0;have hb2:=hW.mono lu;refine⟨kb,off,q1,q2,Nat.lt_of_lt_of_le q3 hb2.size,fun i hi=>?_⟩;obtain⟨Jy,wn',Jz,IJ,IL,q5,q6⟩:=q4 i hi
  exact⟨Jy,wn',Jz,IJ,IL,q5.frame (aT.qw hb2 fun b hb=>hb),fun j u hu=>(hb2.cell (p:=⟨kb,off+i * 8+j,none⟩) q2).trans (q6 j u hu)⟩) lu hb (Nat.le_trans hB hW.size) e.text htx hln
 have HC:=ah hC;clear hC htx htd hgt HD HK hln;generalize e.text=out at *;generalize hop':e.op=op at *;subst hop;have HB1:=ah hb1;have HN:=ah hN;clear hb1 hN hop';go_enter Tryz.func129,Tryz.ntmps129
 go_upto_region 1 with fail
 change Code.wp _ _ _ _ (w.alloc (.cells (aY 24 ⟨e.name.toArray⟩ ⟨e.module.toArray⟩ (decide (e.num<0)) (.slice am wn cm) e.yes (.slice ae e.kids.length ce) e.at_) 46));generalize w.alloc _=w1 at hal HN HB1 vL ⊢;have hB1:=Nat.le_trans hB hal.size;obtain⟨y0,y1,y2,y3,y4,y5,y6,y7⟩:=aG HN.out;have EU:=ah (HC.out w1 vL HB1.out);go_wp2_with (go_at_call 208;refine EU.out.mono ?_;rintro r w3 h3;obtain rfl:=h3.eq)
 go_end0
 exact bF.from hal hB ((gU.start HB1.out).write h3)
theorem TB {e:PZ}{B B' b:Nat}{am:Option Addr}{wn cm:Nat}{ae:Option Addr}{ce:Nat}{acc:List UInt8}{w:World}(E:Az e B B' b am wn cm ae ce acc w)(h7:7≤e.op)(h20:e.op≤20)(hkn:e.kids.length=2) :
  Calls Tryz.prog 129 #[.pointer (some ⟨b,0,none⟩),.agg #[.int .i64 e.op,.string ⟨e.name.toArray⟩,.string ⟨e.module.toArray⟩,.bool (decide (e.num<0)),.slice am wn cm,.bool e.yes,.slice ae e.kids.length ce,.int .i64 e.at_]] w (bF B' b (acc++e.text) w):=by
 have hal:=aj w (.cells (aY e.op ⟨e.name.toArray⟩ ⟨e.module.toArray⟩ (decide (e.num<0)) (.slice am wn cm) e.yes (.slice ae e.kids.length ce) e.at_) 46);have hN:=heap_alloc_new w (.cells (aY e.op ⟨e.name.toArray⟩ ⟨e.module.toArray⟩ (decide (e.num<0)) (.slice am wn cm) e.yes (.slice ae e.kids.length ce) e.at_) 46);have hb1:=E.jZ.kK hal;have hB:=E.hB;have lu:=E.lu;have hln:=E.len;have HD:=ah E.does;have HK:=ah E.kids;have vL:=hal.mono hB;have Iz:=E.few;have htd:=e.nI
 have hgt:∀ i,(h:i<e.kids.length)→(gX e.kids).getD i (0,[])=(e.kids[i].op,e.kids[i].text):=fun i h=>kH h
 clear E;have h0:=hgt 0 (by omega);have h1:=hgt 1 (by omega);have HD0:=ah (HD.out _ (List.getElem_mem (by omega:0<e.kids.length)));have QY:=ah (fun W hW=>HK.out.at (W:=W) hW (by omega:0<e.kids.length));have HD1:=ah (HD.out _ (List.getElem_mem (by omega:1<e.kids.length)));have HK1:=ah (fun W hW=>HK.out.at (W:=W) hW (by omega:1<e.kids.length));rw[Tx h7 h20,h0,h1] at htd;obtain⟨t1,t2,t3,t4,t5,t6,t21,t22,t23,t24⟩:=ac3 h7 h20;have HT:=ah (fun W=>QW e.op h7 h20 W);have WU:=ah htd;clear hgt h0 h1 HD HK htd;generalize e.kids[0]=x at *;generalize e.kids[1]=z at *;generalize e.text=out at *
 have pQ:(0:Int)<(e.kids.length:Int):=by omega
 have ac2:0<e.kids.length:=by omega
 have afR:(1:Int)<(e.kids.length:Int):=by omega
 have afS:1<e.kids.length:=by omega
 generalize e.op=op at *;generalize e.kids.length=nk at *;generalize FQ op=fa at HT;generalize tY op=fb at HT WU;generalize xU op=fc at HT WU;obtain⟨SG,hSG,eS⟩:=iR (qP op);rw[eS] at HT;rw[← hSG] at WU
 have hl2:acc.length+(pO fb (x.op,x.text)).length+1+SG.size+1+(pO fc (z.op,z.text)).length≤1099511627776:=by
  have:=congrArg List.length WU.out;simp only[bC,dI,List.length_nil,aK] at this;omega
 have HB1:=ah hb1;have HN:=ah hN;clear hb1 hN hkn hSG eS hln h7 h20;go_enter Tryz.func129,Tryz.ntmps129
 go_upto_region 1 with fail
 change Code.wp _ _ _ _ (w.alloc (.cells (aY op ⟨e.name.toArray⟩ ⟨e.module.toArray⟩ (decide (e.num<0)) (.slice am wn cm) e.yes (.slice ae nk ce) e.at_) 46));generalize w.alloc _=w1 at hal HN HB1 vL ⊢;have hB1:=Nat.le_trans hB hal.size;obtain⟨y0,y1,y2,y3,y4,y5,y6,y7⟩:=aG HN.out
 go_upto_region 2 with fail
 go_upto_region 3 with (go_at_call 209;refine(HT.out _).mono ?_;rintro r w2 ⟨rfl,hb2⟩)
 change Code.wp _ _ _ _ (w2.alloc (.cells #[.int .i64 fa,.int .i64 fb,.int .i64 fc,.string SG] 275));have s2:=(gU.start HB1.out).below hb2 hB1;have hF:=heap_alloc_new w2 (.cells #[.int .i64 fa,.int .i64 fb,.int .i64 fc,.string SG] 275);have s3:=s2.below (aj w2 (.cells #[.int .i64 fa,.int .i64 fb,.int .i64 fc,.string SG] 275)) hB1;clear y0 y1 y2 y3 y4 y5 y6 y7;generalize w2.heap.size=fk at hF ⊢;generalize w2.alloc _=w3 at hF s3 ⊢;have hB3:=s3.jT.size;have s3d:=s3.drew;obtain⟨f0,f1,f2,f3⟩:=nW hF;obtain⟨-,-,-,-,-,-,y6,-⟩:=aG (s3.box HB1.out HN.out (by decide) (by decide));obtain⟨kb,off,JA,JB,JC,JD,ck1,rfl,hkB,hE,x0,x1,x2,x3,x4,x5,x6,x7⟩:=QY.out w3 ((vL.trans s3.jT).mono lu);simp only[Nat.zero_mul,Nat.add_zero] at x0 x1 x2 x3 x4 x5 x6 x7;have HC:=ah (HD0.out fb B B' b JA JB JC JD ck1 _ w3.drew (hE.frame (aT.of (Below.refl _ _).drew)) lu s3d.jZ (show B'≤w3.heap.size by omega) (by omega));have Fe:=ah s3;have HF:=ah hF;clear hE QY HD0 s3 s2 hF hb2 HT
 go_still_tail 7,(by kernel_rfl)
 change wpList _ _ _ _ _ w3.drew;clear y6 x0 x1 x2 x3 x4 x5 x6 x7 f0 f1 f2 f3
 go_upto_region 4 with (go_at_call 206;refine HC.out.mono ?_;rintro r w4 h4;obtain rfl:=h4.eq)
 have s4:=s3d.write h4;have hB4:=s4.jT.size;have F4:=s3d.jZ.block h4.2.2.2 HF.out (by decide) (by decide);obtain⟨f0,f1,f2,f3⟩:=nW F4;clear h4 s3d HC
 go_upto_region 5 with (go_at_call 128;refine(vC ⟨#[32]⟩ SG ⟨#[32]⟩ B' b _ w4 s4.jZ (by omega) (by show List.length _+1+SG.size+1≤_;rw[bC];omega)).mono ?_;rintro r w5 h5;obtain rfl:=h5.eq)
 have s5:=s4.write h5;have hB5:=s5.jT.size;have F5:=s4.jZ.block h5.2.2.2 F4 (by decide) (by decide);have s5d:=s5.drew;clear f0 f1 f2 f3 h5 s4 F4;obtain⟨f0,f1,f2,f3⟩:=nW F5;obtain⟨-,-,-,-,-,-,y6,-⟩:=aG (s5.box HB1.out HN.out (by decide) (by decide));obtain⟨kb1,off1,IV,Fg,IW,ak2,ck2,hkk,afT,hE,x0,x1,x2,x3,x4,x5,x6,x7⟩:=HK1.out w5 ((vL.trans s5.jT).mono lu);simp only[Option.some.injEq,Addr.mk.injEq,and_true] at hkk;obtain⟨rfl,rfl⟩:=hkk;simp only[Nat.one_mul] at x0 x1 x2 x3 x4 x5 x6 x7;have HC:=ah (HD1.out fc B B' b IV Fg IW ak2 ck2 _ w5.drew (hE.frame (aT.of (Below.refl _ _).drew)) lu s5d.jZ (show B'≤w5.heap.size by omega) (by show List.length (_++(([32]:List UInt8)++(SG.data.toList++[32])))+_≤_;simp only[bC,aK,dI,List.length_nil];omega));have Md:=ah s5d;clear hE HK1 HD1 s5 s5d F5;go_wp2
 go_still_tail 7,(by kernel_rfl)
 change wpList _ _ _ _ _ w5.drew;clear y6 x0 x1 x2 x3 x4 x5 x6 x7 f0 f1 f2 f3;go_wp2_with (go_at_call 206;refine HC.out.mono ?_;rintro r w6 h6;obtain rfl:=h6.eq)
 go_end0
 have:=bF.from hal hB (Md.out.write h6)
 rw[WU.out]
 simpa [List.append_assoc] using this
theorem vD {fm:Bool}:∀ (n:Nat) (e:PZ),SizeOf.sizeOf e<n→e.right fm=true→e.fit→Pm e
 | 0,_,h,_,_=>absurd h (by omega)
 | n+1,e,hs,hr,hf=>by
  have R:=PZ.IC hr;obtain⟨f1,f2,f3,f4,f5⟩:=PZ.sj hf
  have ih:∀ x∈e.kids,zJ x:=fun x hx=>ZQ x (vD n x (by have:=e.lg x hx;omega) (R.kids x hx) (f5 x hx))
  intro B B' b am wn cm ae ce acc w h lu hbd hB hn
  have E:Az e B B' b am wn cm ae ce acc w:=⟨h.aaF,ih,lu,hbd,hB,hn,h.form.1,f3,f4⟩
  have F:(1≤e.op∧e.op≤4)∨((e.op=5∨e.op=6)∧e.kids.length=1)∨(7≤e.op∧e.op≤20∧e.kids.length=2)∨(e.op=21∧e.kids.length=3)∨(e.op=22∧e.kids.length=2)∨(e.op=23∧e.kids.length=2)∨(e.op=24∧e.kids.length≤8):=by
   have F:=R.form;generalize e.op=op at F ⊢;generalize e.kids.length=c at F ⊢
   cases F<;>omega
  rcases F with ⟨h1,h2⟩|⟨h1,h2⟩|⟨h1,h2,h3⟩|⟨h1,h2⟩|⟨h1,h2⟩|⟨h1,h2⟩|⟨h1,h2⟩
  ·exact Pn E h1 h2
  ·exact Tz E h1 h2
  ·exact TB E h1 h2 h3
  ·exact TA E h1 h2
  ·exact Pp E h1 h2 f1
  ·exact Po E h1 h2
  ·exact Pq E h1 h2 f1 f2
end Go.Proofs.YtknicmmigbhpcaaGreatDoor

namespace Go.Proofs.YtknicmmigbhpcaaGreatDoor
theorem yD (n:Nat):0<(fZ n).length:=by
 unfold fZ
 split
 ·simp
 ·rw[bC];simp
theorem WW (n:Int):0<(jf n).length:=by
 rw[jf,bC];have:=yD n.natAbs;omega
def Ends (r:List UInt8):Prop:=∀ c,r.head?=some c→aL c=false
theorem Ends.cons {c:UInt8}{r:List UInt8}(h:aL c=false):Ends (c :: r):=by
 intro d hd;simp only[List.head?_cons,Option.some.injEq] at hd;rw[← hd];exact h
theorem IX {c:UInt8}(h:aL c=false):aJ c=false:=by
 simp only[aL,Bool.or_eq_false_iff] at h;exact h.1.2
theorem WX {k:Nat}(hk:k≠4){t r:List UInt8}(h:Ends r):zD k t r.head?=true:=by
 cases hr:r.head? with
 | none=>rfl
 | some c =>
  have:=h c hr;rw[zD,if_neg hk]
  split
  ·rw[IX this];rfl
  ·rw[this];rfl
def Gv (t:List UInt8):Bool:=t.all aL && (t.headD 0 |> bT) && decide (0<t.length) && decide (t.length≤40) && decide (t ∉ j5)
theorem mV {w:List UInt8}(h:aR w=true):Gv w=true:=by
 unfold aR at h
 cases hl:bH w with
 | error x=>rw[hl] at h;cases h
 | ok l =>
  rw[hl] at h
  match l,h with
  | [t,x],h =>
   simp only[Bool.and_eq_true,decide_eq_true_eq] at h;obtain⟨h1,h2⟩:=h;unfold bH at hl
   split at hl
   ·cases hl
   ·unfold nD at hl
    dsimp only at hl
    split at hl
    ·cases hl
    ·rename_i he
     split at hl
     ·injection hl with hl;cases hl
     ·split at hl
      ·cases hl
      ·injection hl with hl
       have ht:=(List.cons.inj hl).1
       have hk:(bG (w.drop (bf false w))).1=1:=by rw[← ht] at h1;exact h1
       have htx:(w.drop (bf false w)).take (bG (w.drop (bf false w))).2.1=w:=by rw[← ht] at h2;exact h2
       have hp:=tK (w.drop (bf false w)) (by simpa using he) (by rw[hk];decide);have hlen:=congrArg List.length htx;rw[List.length_take,List.length_drop] at hlen;have hle:=tJ (w.drop (bf false w));rw[List.length_drop] at hle
       have hk0:bf false w=0:=by omega
       rw[hk0,List.drop_zero] at hk htx he hle;rw[hk0] at hlen
       have hwl:(bG w).2.1=w.length:=by rw[List.drop_zero] at hlen;omega
       cases w with
       | nil=>simp[bG] at hk
       | cons c r =>
        rw[bG] at hk hwl
        by_cases hc:bT c=true
        ·rw[if_pos hc] at hk hwl
         unfold iP at hk hwl;simp only at hk hwl
         split at hk
         ·cases hk
         ·rename_i Nj
          rw[if_neg Nj] at hwl
          split at hk
          ·cases hk
          ·rename_i hkey
           rw[if_neg hkey] at hwl;simp only at hwl;have hall:(c :: r).takeWhile aL=c :: r:=(List.takeWhile_prefix aL).eq_of_length hwl;rw[hall] at Nj hkey
           have ha:(c :: r).all aL=true:=by rw[← hall];exact List.all_takeWhile
           simp only[Gv,Bool.and_eq_true,decide_eq_true_eq];exact⟨⟨⟨⟨ha,hc⟩,by simp⟩,by omega⟩,hkey⟩
        ·rw[if_neg hc] at hk
         split at hk
         ·unfold jc at hk
          simp only at hk
          split at hk<;>cases hk
         ·unfold vZ at hk
          split at hk<;>cases hk
  | [],h=>cases h
  | [_],h=>cases h
  | _ :: _ :: _ :: _,h=>cases h
theorem WY (t:List UInt8):mU (WB t)=(t.all aJ && decide (0<t.length) && decide (t.length≤60) && (decide (t.length=1) || !decide (t[0]?=some 48))):=rfl
theorem abw (t:List UInt8):mU ⟨[],1,t⟩=(t.all aL && bT (t.headD 0) && decide (0<t.length) && decide (t.length≤40) && decide (1=if t∈j5 then 2 else 1)):=rfl
theorem su {t:List UInt8}(h:Gv t=true):dQ t=⟨[],1,t⟩∧mU (dQ t)=true:=by
 simp only[Gv,Bool.and_eq_true,decide_eq_true_eq] at h
 have e:dQ t=⟨[],1,t⟩:=by rw[dQ,if_neg h.2]
 refine⟨e,?_⟩;rw[e,abw];simp only[Bool.and_eq_true,decide_eq_true_eq];exact⟨⟨⟨⟨h.1.1.1.1,h.1.1.1.2⟩,h.1.1.2⟩,h.1.2⟩,by rw[if_neg h.2]⟩
theorem TD:∀ t∈j5,mU (dQ t)=true:=by decide
theorem q8:∀ t∈iw,mU (nV t)=true:=by decide
theorem TF {n:Nat}:(fZ n).all aJ=true:=by
 induction n using Nat.strongRecOn with
 | ind n ih =>
  rw[fZ]
  split
  ·have:∀ k:Fin 10,aJ (UInt8.ofNat (48+k.val))=true:=by decide
   have:=this ⟨n,by omega⟩
   simpa using this
  ·rename_i h
   rw[List.all_append,ih (n / 10) (by omega),Bool.true_and]
   have:∀ k:Fin 10,aJ (UInt8.ofNat (48+k.val))=true:=by decide
   have:=this ⟨n % 10,by omega⟩
   simpa using this
theorem WZ {n:Nat}:(fZ n).length=1∨(fZ n)[0]?≠some 48:=by
 induction n using Nat.strongRecOn with
 | ind n ih =>
  rw[fZ]
  split
  ·left;simp
  ·rename_i h
   right
   have hp:=yD (n / 10);rw[List.getElem?_append_left hp]
   rcases ih (n / 10) (by omega) with q|q
   ·intro q2
    have:n / 10<10:=by
     apply Classical.byContradiction
     intro q3;rw[fZ,dif_neg (by omega)] at q;have:=yD (n / 10 / 10);simp only[bC,dI,List.length_nil] at q;omega
    rw[fZ,dif_pos this] at q2;simp only[dI,List.length_nil,Nat.zero_add,Nat.lt_add_one,List.getElem?_eq_getElem,List.getElem_cons_zero,Option.some.injEq] at q2;have h2:=congrArg UInt8.toNat q2;rw[UInt8.toNat_ofNat'] at h2;simp at h2;omega
   ·exact q
theorem Gw {n:Int}(h0:0≤n)(yU:(jf n).length≤60):mU (WB (jf n))=true:=by
 obtain⟨m,rfl⟩:=Int.eq_ofNat_of_zero_le h0;rw[xG] at yU ⊢;rw[WY];simp only[Bool.and_eq_true,decide_eq_true_eq,Bool.or_eq_true,Bool.not_eq_true',decide_eq_false_iff_not];exact⟨⟨⟨TF,yD m⟩,yU⟩,WZ⟩
theorem zN {l:List Pc}{r:List UInt8}:Nl (wT l) r↔Nl l r:=by
 cases l with
 | nil=>exact Iff.rfl
 | cons p l =>
  rw[wT,Nl,Nl]
  have:mU ⟨32 :: p.lead,p.kind,p.text⟩=mU p:=by simp[mU,dn]
  rw[this]
theorem Du {l:List Pc}(h:l≠[])(r:List UInt8):Ends (bD (wT l)++r):=by
 rw[eB h];exact Ends.cons (by decide)
theorem Gx (t:List UInt8)(h:t∈[[40],[41],[44],[46],[123],[125],[58],[59]])(c:Option UInt8):zD 4 t c=true:=by
 cases c with
 | none=>rfl
 | some c =>
  have:∀ t∈([[40],[41],[44],[46],[123],[125],[58],[59]]:List (List UInt8)),∀ n:Fin 256,zD 4 t (some (UInt8.ofNat n.val))=true:=by decide +kernel
  have h1:=this t h ⟨c.toNat,c.toNat_lt⟩;rw[UInt8.ofNat_toNat] at h1;exact h1
theorem Dv:∀ t∈iw,zD 4 t (some 32)=true:=by decide
theorem Pt {c:Option UInt8}(h:c≠some 45):zD 4 [45] c=true:=by
 cases c with
 | none=>rfl
 | some c =>
  have:∀ n:Fin 256,UInt8.ofNat n.val≠45→zD 4 [45] (some (UInt8.ofNat n.val))=true:=by decide +kernel
  have h1:=this ⟨c.toNat,c.toNat_lt⟩;rw[UInt8.ofNat_toNat] at h1
  exact h1 fun q=>h (by rw[q])
def fQ (l:List Pc):Prop:=∀ r,Ends r→Nl l r
theorem fQ.word {t:List UInt8}(h:mU (dQ t)=true):fQ [dQ t]:=fun r hr=>⟨h,by
 have:(dQ t).kind≠4:=by unfold dQ;simp only;split<;>decide
 exact WX this hr,trivial⟩
theorem fQ.key {t:List UInt8}(h:t∈j5):fQ [dQ t]:=fQ.word (TD t h)
theorem fQ.ku {a b:List Pc}(h:fQ a)(hb:fQ b)(hne:b≠[]):fQ (a++wT b):=fun r hr=>iJ.2 ⟨h _ (Du hne r),zN.2 (hb r hr)⟩
theorem fQ.close {a:List Pc}(h:fQ a)(t:List UInt8)(ht:t∈[[40],[41],[44],[46],[123],[125],[58],[59]])(hi:∀ x∈t,aL x=false):∀ r,Nl (a++[nV t]) r:=fun r=>by
 have hs:t∈iw:=by
  have:∀ t∈([[40],[41],[44],[46],[123],[125],[58],[59]]:List (List UInt8)),t∈iw:=by decide
  exact this t ht
 refine iJ.2 ⟨h _ ?_,q8 t hs,Gx t ht _,trivial⟩;intro c hc
 cases t with
 | nil=>exact absurd hs (by decide)
 | cons x t=>simp[bD,nV] at hc;rw[← hc];exact hi x (by simp)
theorem W9 {l:List Pc}{r:List UInt8}(t:List UInt8)(ht:t∈[[40],[41],[44],[46],[123],[125],[58],[59]])(h:Nl l r):Nl (nV t :: l) r:=by
 have hs:t∈iw:=by
  have:∀ t∈([[40],[41],[44],[46],[123],[125],[58],[59]]:List (List UInt8)),t∈iw:=by decide
  exact this t ht
 exact⟨q8 t hs,Gx t ht _,h⟩
theorem IY {least:Int}{k:Int × List Pc}(h:fQ k.2):fQ (Bb least k):=by
 intro r hr;unfold Bb
 split
 ·exact W9 [40] (by decide) (h.close [41] (by decide) (by decide) r)
 ·exact h r hr
theorem Me:∀ (es:List PZ),(∀ x∈es,fQ x.qC∧x.qC≠[])→fQ (oV (es.map PZ.qC))
 | [],_=>fun _ _=>trivial
 | [e],h=>(h e (by simp)).1
 | e :: f :: l,h=>by
  have ih:=Me (f :: l) fun x hx=>h x (List.mem_cons_of_mem _ hx)
  have he:=(h e (by simp)).1;intro r hr;simp only[List.map_cons] at ih ⊢;rw[oV,show e.qC++nV [44] :: wT (oV (f.qC :: l.map PZ.qC))=(e.qC++[nV [44]])++wT (oV (f.qC :: l.map PZ.qC)) by simp];exact iJ.2 ⟨he.close [44] (by decide) (by decide) _,zN.2 (ih r hr)⟩
theorem abx (nm md:List UInt8)(num:Int)(yes:Bool)(ks:List (Int × List Pc)):jw 2 nm md num yes ks=[dQ (if yes=true then [116,114,117,101] else [102,97,108,115,101])]:=rfl
theorem Xa (nm md:List UInt8)(num:Int)(yes:Bool)(ks:List (Int × List Pc)):jw 3 nm md num yes ks=[dQ nm]:=rfl
theorem aby (nm md:List UInt8)(num:Int)(yes:Bool)(ks:List (Int × List Pc)):jw 4 nm md num yes ks=[dQ [114,101,115]]:=rfl
theorem Xb {e:PZ}{fm:Bool}(h:Dr fm e)(hne:e.qC≠[])(r:List UInt8):(bD (Bb 9 (e.op,e.qC))++r).head?≠some 45:=by
 unfold Bb
 split
 ·simp[bD,nV]
 ·rename_i hl
  have F:=h.form;simp only at hl;rw[e.IB];have hnm:=h.names;have hv:=h.values;generalize hc:e.kids.length=c at F;generalize e.op=op at *
  cases F with
  | none h1 h2 =>
   have:op=1∨op=2∨op=3∨op=4:=by omega
   rcases this with rfl|rfl|rfl|rfl
   ·simp only[qd,if_pos,Bool.and_eq_true,decide_eq_true_eq] at hv
    have hp:=Gw hv.1.1 hv.1.2;rw[WY] at hp;simp only[Bool.and_eq_true] at hp;have hd:=hp.1.1.1;have hpos:=WW e.num;simp only[jw,if_pos,bD,WB]
    cases hi:jf e.num with
    | nil=>rw[hi] at hpos;simp at hpos
    | cons c r =>
     rw[hi,List.all_cons,Bool.and_eq_true] at hd;simp only[List.nil_append,List.cons_append,List.head?_cons,ne_eq,Option.some.injEq];exact(LX c hd.1).2.2
   ·simp[jw,bD,dQ];split<;>simp
   ·have hnm:aR e.name=true:=by
     simp only[mJ] at hnm;rw[if_pos (by decide),Bool.and_eq_true] at hnm;exact hnm.1
    have hn:=mV hnm;simp only[Gv,Bool.and_eq_true] at hn;rw[Xa]
    cases hi:e.name with
    | nil=>rw[hi] at hn;simp at hn
    | cons c r =>
     rw[hi] at hn;simp only[bD,dQ,List.nil_append,List.cons_append,List.head?_cons,ne_eq,Option.some.injEq];exact(zF c hn.1.1.1.2).2.2
   ·simp[jw,bD,dQ]
  | one h=>rcases h with rfl|rfl<;>exact absurd (by decide) hl
  | two h1 h2 =>
   exfalso
   apply hl
   unfold FQ;rw[if_neg (by omega),if_neg (by omega)]
   repeat (first|omega|(split;(first|omega|decide)))
  | iff=>exact absurd (by decide) hl
  | qH=>exact absurd (by decide) hl
  | qI=>exact absurd (by decide) hl
  | call h =>
   have hnm:aR e.name=true∧(e.module=[]∨aR e.module=true):=by
    simp only[mJ] at hnm;rw[if_neg (by decide),if_pos trivial,Bool.and_eq_true,Bool.or_eq_true,decide_eq_true_eq] at hnm;exact hnm
   simp only[jw];simp only[if_neg,if_pos,show ¬ (24:Int)=1 by decide,show ¬ (24:Int)=2 by decide,show ¬ (24:Int)=3 by decide,show ¬ (24:Int)=4 by decide,show ¬ (24:Int)=5 by decide,show ¬ (24:Int)=6 by decide,show ¬ (24:Int)=21 by decide,show ¬ (24:Int)=22 by decide,show ¬ (24:Int)=23 by decide,not_false_eq_true]
   have key:∀ w,aR w=true→∀ l,(w++l).head?≠some 45:=by
    intro w hw l;have hn:=mV hw;simp only[Gv,Bool.and_eq_true] at hn
    cases w with
    | nil=>simp at hn
    | cons c r =>
     simp only[List.cons_append,List.head?_cons,ne_eq,Option.some.injEq];exact(zF c hn.1.1.1.2).2.2
   split
   ·simp only[List.nil_append,bD,dQ,List.cons_append,List.append_assoc]
    exact key _ hnm.1 _
   ·rename_i hm
    have:=hnm.2.resolve_left hm;simp only[List.nil_append,bD,dQ,List.cons_append,List.append_assoc];exact key _ this _
theorem Xc {op:Int}(h1:7≤op)(h2:op≤20):qP op∈iw∧qP op∈oK:=by
 have:∀ k:Fin 14,qP ((k.val+7:Nat):Int)∈iw∧qP ((k.val+7:Nat):Int)∈oK:=by decide
 have h:=this ⟨(op - 7).toNat,by omega⟩;rw[show (((⟨(op - 7).toNat,by omega⟩:Fin 14).val+7:Nat):Int)=op by simp only;omega] at h;exact h
theorem PZ.aaG {fm:Bool}:∀ (n:Nat) (e:PZ),SizeOf.sizeOf e<n→e.right fm=true→fQ e.qC
 | 0,_,h,_=>absurd h (by omega)
 | n+1,e,hs,hr=>by
  have R:=PZ.IC hr
  have ih:∀ x∈e.kids,fQ x.qC∧x.qC≠[]:=fun x hx=>⟨PZ.aaG n x (by have:=e.lg x hx;omega) (R.kids x hx),(PZ.bytes n x (by have:=e.lg x hx;omega) (R.kids x hx)).2⟩
  have hrk:∀ x∈e.kids,Dr fm x:=fun x hx=>PZ.IC (R.kids x hx)
  have F:=R.form;rw[e.IB]
  have hk:∀ i,(h:i<e.kids.length)→(E8 e.kids).getD i (0,[])=(e.kids[i].op,e.kids[i].qC)∧fQ e.kids[i].qC∧e.kids[i].qC≠[]:=fun i h=>⟨LY h,ih _ (List.getElem_mem h)⟩
  have hm:(E8 e.kids).map Prod.snd=e.kids.map PZ.qC:=by rw[yB];simp
  have hcm:=Me e.kids ih;have hnm:=R.names;have hv:=R.values;generalize e.kids=ks at *;generalize hn:ks.length=c at F;generalize e.op=op at *
  cases F with
  | none h1 h2 =>
   have:op=1∨op=2∨op=3∨op=4:=by omega
   rcases this with rfl|rfl|rfl|rfl
   ·simp only[qd,if_pos,Bool.and_eq_true,decide_eq_true_eq] at hv
    simp only[jw,if_pos]
    exact fun r hr=>⟨Gw hv.1.1 hv.1.2,WX (by show (3:Nat)≠4;decide) hr,trivial⟩
   ·rw[abx]
    split
    ·exact fQ.key (by decide)
    ·exact fQ.key (by decide)
   ·simp only[mJ] at hnm
    rw[if_pos (by decide),Bool.and_eq_true] at hnm;rw[Xa];exact fQ.word (su (mV hnm.1)).2
   ·rw[aby]
    exact fQ.key (by decide)
  | one h =>
   obtain⟨a1,a2,a3⟩:=hk 0 (by omega);have aex:=hrk _ (List.getElem_mem (show 0<ks.length by omega))
   rcases h with rfl|rfl
   ·simp only[jw]
    simp only[if_neg,if_pos,show ¬ (5:Int)=1 by decide,show ¬ (5:Int)=2 by decide,show ¬ (5:Int)=3 by decide,show ¬ (5:Int)=4 by decide,not_false_eq_true];rw[a1]
    exact fun r hr=>⟨q8 [45] (by decide),Pt (Xb aex a3 r),IY (k:=(ks[0].op,ks[0].qC)) a2 r hr⟩
   ·simp only[jw]
    simp only[if_neg,if_pos,show ¬ (6:Int)=1 by decide,show ¬ (6:Int)=2 by decide,show ¬ (6:Int)=3 by decide,show ¬ (6:Int)=4 by decide,show ¬ (6:Int)=5 by decide,not_false_eq_true];rw[a1];exact(fQ.key (t:=[110,111,116]) (by decide)).ku (IY (k:=(ks[0].op,ks[0].qC)) a2) (Bu a3)
  | two h1 h2 =>
   obtain⟨a1,a2,a3⟩:=hk 0 (by omega);obtain⟨b1,b2,b3⟩:=hk 1 (by omega)
   have e1:∀ k:Int,(k≤6∨21≤k)→¬ op=k:=fun k hk q=>by omega
   simp only[jw];rw[if_neg (e1 1 (by omega)),if_neg (e1 2 (by omega)),if_neg (e1 3 (by omega)),if_neg (e1 4 (by omega)),if_neg (e1 5 (by omega)),if_neg (e1 6 (by omega)),if_neg (e1 21 (by omega)),if_neg (e1 22 (by omega)),if_neg (e1 23 (by omega)),if_neg (e1 24 (by omega)),a1,b1];have hs:=(Xc h1 h2).1;have hpb:=Bu (least:=xU op) (k:=(ks[1].op,ks[1].qC)) b3;intro r hr;refine iJ.2 ⟨IY (k:=(ks[0].op,ks[0].qC)) a2 _ ?_,iJ.2 ⟨zN.2 ⟨q8 _ hs,?_,trivial⟩,zN.2 (IY (k:=(ks[1].op,ks[1].qC)) b2 r hr)⟩⟩
   ·rw[cO,eB (by simp)]
    exact Ends.cons (by decide)
   ·rw[bD,List.nil_append,eB hpb]
    exact Dv _ hs
  | iff =>
   obtain⟨a1,a2,a3⟩:=hk 0 (by omega);obtain⟨b1,b2,b3⟩:=hk 1 (by omega);obtain⟨c1,c2,c3⟩:=hk 2 (by omega);simp only[jw];simp only[if_neg,if_pos,show ¬ (21:Int)=1 by decide,show ¬ (21:Int)=2 by decide,show ¬ (21:Int)=3 by decide,show ¬ (21:Int)=4 by decide,show ¬ (21:Int)=5 by decide,show ¬ (21:Int)=6 by decide,not_false_eq_true];rw[a1,b1,c1]
   have:=((((fQ.key (t:=[105,102]) (by decide)).ku a2 a3).ku (fQ.key (t:=[116,104,101,110]) (by decide)) (by simp)).ku b2 b3).ku (fQ.key (t:=[101,108,115,101]) (by decide)) (by simp) |>.ku c2 c3
   simpa using this
  | qH =>
   obtain⟨a1,a2,a3⟩:=hk 0 (by omega);obtain⟨b1,b2,b3⟩:=hk 1 (by omega);simp only[mJ] at hnm;rw[if_pos (by decide),Bool.and_eq_true] at hnm;simp only[jw];simp only[if_neg,if_pos,show ¬ (22:Int)=1 by decide,show ¬ (22:Int)=2 by decide,show ¬ (22:Int)=3 by decide,show ¬ (22:Int)=4 by decide,show ¬ (22:Int)=5 by decide,show ¬ (22:Int)=6 by decide,show ¬ (22:Int)=21 by decide,not_false_eq_true];rw[a1,b1];have hq:=(fQ.key (t:=[108,101,116]) (by decide)).ku (fQ.word (su (mV hnm.1)).2) (by simp)
   have h1:fQ ([dQ [108,101,116]]++wT [dQ e.name]++(wT [nV [61]]++wT ks[0].qC)):=fun r hr=>iJ.2 ⟨hq _ (by
     rw[cO,eB (by simp)]
     exact Ends.cons (by decide)),iJ.2 ⟨zN.2 ⟨q8 [61] (by decide),by rw[bD,List.nil_append,eB a3];exact Dv [61] (by decide),trivial⟩,zN.2 (a2 r hr)⟩⟩
   have:=(h1.ku (fQ.key (t:=[105,110]) (by decide)) (by simp)).ku b2 b3
   simpa using this
  | qI =>
   obtain⟨a1,a2,a3⟩:=hk 0 (by omega);obtain⟨b1,b2,b3⟩:=hk 1 (by omega);simp only[jw];simp only[if_neg,if_pos,show ¬ (23:Int)=1 by decide,show ¬ (23:Int)=2 by decide,show ¬ (23:Int)=3 by decide,show ¬ (23:Int)=4 by decide,show ¬ (23:Int)=5 by decide,show ¬ (23:Int)=6 by decide,show ¬ (23:Int)=21 by decide,show ¬ (23:Int)=22 by decide,not_false_eq_true];rw[a1,b1];have:=(((fQ.key (t:=[97,115,115,101,114,116]) (by decide)).ku a2 a3).ku (fQ.key (t:=[105,110]) (by decide)) (by simp)).ku b2 b3
   simpa using this
  | call h =>
   simp only[mJ] at hnm;rw[if_neg (by decide),if_pos trivial,Bool.and_eq_true,Bool.or_eq_true,decide_eq_true_eq] at hnm;simp only[jw];simp only[if_neg,if_pos,show ¬ (24:Int)=1 by decide,show ¬ (24:Int)=2 by decide,show ¬ (24:Int)=3 by decide,show ¬ (24:Int)=4 by decide,show ¬ (24:Int)=5 by decide,show ¬ (24:Int)=6 by decide,show ¬ (24:Int)=21 by decide,show ¬ (24:Int)=22 by decide,show ¬ (24:Int)=23 by decide,not_false_eq_true];rw[hm];intro r hr
   have h1:Nl ([dQ e.name,nV [40]]++(oV (ks.map PZ.qC)++[nV [41]])) r:=by
    refine iJ.2 ⟨?_,hcm.close [41] (by decide) (by decide) r⟩;have:=(fQ.word (su (mV hnm.1)).2).close [40] (by decide) (by decide);exact this _
   split
   ·exact h1
   ·rename_i hmd
    refine iJ.2 ⟨?_,h1⟩;have:=(fQ.word (su (mV (hnm.2.resolve_left hmd))).2).close [46] (by decide) (by decide);exact this _
end Go.Proofs.YtknicmmigbhpcaaGreatDoor

namespace Go.Proofs.YtknicmmigbhpcaaGreatDoor
open Go.RowKit Go
theorem Xd {T:TypeId}(B b:Nat)(acc:List UInt8)(w:World)(h:jE B b acc w T)(h0:acc≠[]) :
  Calls Tryz.prog 77 #[.pointer (some ⟨b,0,none⟩)] w fun e w'=>e=.returned (.string ⟨acc.toArray⟩)∧Below B w w':=by
 obtain⟨p,hB,v,hbk,hown,hne⟩:=h.at
 have hl0:acc.length≠0:=by simpa using h0
 rw[Lib.byteCells_length] at hown
 obtain⟨g,cap,cur,fz,rfl,hbg,hg,hfz,hnc,hcm,hcs,htake⟩:∃ g cap cur fz,v=.slice (some ⟨g,0,none⟩) acc.length cap∧B≤g∧w.heap[g]?=some (.cells cur 5 fz)∧fz.2≤acc.length * 1∧acc.length≤cap∧cap≤maxLen∧cur.size=cap * 1∧cur.toList.take (acc.length * 1)=Lib.byteCells acc:=by
  rcases hown.2 with ⟨_,hz⟩|⟨g,cap,cur,fz,hv,r⟩
  ·exact absurd hz hl0
  ·exact⟨g,cap,cur,fz,hv,r⟩
 have c1:w.drew.cell? ⟨b,1,none⟩=some (.slice (some ⟨g,0,none⟩) acc.length cap):=by
  have:w.drew.heap[b]?=some (.cells #[p,.slice (some ⟨g,0,none⟩) acc.length cap] T (0,0)):=hbk;rw[Lib.cell_of_heap this];rfl
 have hSD:(Builtin.unsafeSliceData_ #[151] 219 #[.slice (some ⟨g,0,none⟩) acc.length cap]).run Tryz.prog w.drew=.ok (.pointer (some ⟨g,0,none⟩)) w.drew :=
  Lib.run_unsafeSliceData_row _ _ _ _ _ _ (by omega)
 have hUS:(Builtin.unsafeString_ #[219,3] 9 #[.pointer (some ⟨g,0,none⟩),.int .i64 acc.length]).run Tryz.prog w.drew=.ok (.string ⟨acc.toArray⟩) (w.drew.freeze ⟨g,0,none⟩ acc.length):=by
  refine Lib.run_unsafeString_row w.drew 219 3 9 5 (by kernel_rfl) (by kernel_rfl) g cur.size (by have hg':w.drew.heap[g]?=some (.cells cur 5 fz):=hg;simp[World.shape?,hg']) acc h0 (by omega) (by unfold maxLen at hcm;omega) ?_;intro j x hx;exact hown.cells (g:=g) rfl j (.int .u8 x.toNat) (by simp[Lib.byteCells,hx])
 clear h hne hown hbk htake hcs hcm hfz hg
 have mixed:Tryz.prog.follows .mixedOrders=true:=by kernel_rfl
 go_enter Tryz.func77,Tryz.ntmps77;go_wp2
 go_region_o
 all_goals (go_wp2;go_ret;exact⟨rfl,Lib.below_freeze (Below.drew (Below.refl B w)) (p:=⟨g,0,none⟩) hbg _⟩)
structure InZ (e:PZ) (B:Nat) (am:Option Addr) (wn cm:Nat) (ae:Option Addr) (ce:Nat) (w:World):Prop where
 at_:nM YA (fun k=>k<B) w (.slice am wn cm) (.slice ae e.kids.length ce) e
 hB:B≤w.heap.size
 fit:e.fit
theorem InZ.below {e:PZ}{B:Nat}{am:Option Addr}{wn cm:Nat}{ae:Option Addr}{ce:Nat}{w w':World}(h:InZ e B am wn cm ae ce w)(hb:Below w.heap.size w w'):InZ e B am wn cm ae ce w':=⟨h.at_.frame (aT.of hb),Nat.le_trans h.hB hb.size,h.fit⟩
theorem QZ {fm:Bool}{e:PZ}(h:e.right fm=true):e.text≠[]:=by
 obtain⟨h1,h2⟩:=PZ.bytes (SizeOf.sizeOf e+1) e (by omega) h;have hok:=PZ.aaG (SizeOf.sizeOf e+1) e (by omega) h [] (by intro c hc;cases hc)
 cases hp:e.qC with
 | nil=>exact absurd hp h2
 | cons p l =>
  rw[hp] at hok h1;have:=(Tj (r:=bD l++[]) hok.1 hok.2.1).2.2.1;rw[← h1,bD];intro q;have:=congrArg List.length q;simp only[bC,List.length_nil] at this;omega
def eO (base:Int)(ks:List PZ):Bool:=(decide (base=1) || decide (base=2)) && (decide (ks.length≤1) && ny true ks)
def sP (base:Int):List UInt8:=if base=2 then [98,111,111,108] else [105,110,116]
def fT:List PZ→List UInt8
 | []=>[]
 | e :: l=>[32,123]++e.text++[125]++fT l
def jU (base:Int)(ks:List PZ):List UInt8:=sP base++fT ks
theorem o8:∀ a b:List PZ,fT (a++b)=fT a++fT b
 | [],b=>rfl
 | e :: a,b=>by rw[List.cons_append,fT,fT,o8 a b];simp
theorem IZ {ks:List PZ}{k:Nat}(h:k<ks.length):fT (ks.take (k+1))=fT (ks.take k)++([32,123]++ks[k].text++[125]):=by
 rw[List.take_succ_eq_append_getElem h,o8];simp[fT]
theorem Pv (ks:List PZ)(k:Nat):(fT (ks.take k)).length≤(fT ks).length:=by
 conv=>rhs;rw[← List.take_append_drop k ks,o8,bC]
 omega
theorem jS.below {B:Nat}{w W:World}{ae:Option Addr}{ks:List PZ}(h:jS B w ae ks)(hW:Below w.heap.size w W):jS B W ae ks:=fun h0=>by
 obtain⟨b,off,q1,q2,q3,q4⟩:=h h0;refine⟨b,off,q1,q2,Nat.lt_of_lt_of_le q3 hW.size,fun i hi=>?_⟩;obtain⟨Jy,wn',Jz,IJ,IL,q5,q6⟩:=q4 i hi;exact⟨Jy,wn',Jz,IJ,IL,q5.frame (aT.of hW),fun j u hu=>(hW.cell (p:=⟨b,off+i * 8+j,none⟩) q3).trans (q6 j u hu)⟩
theorem Gy {B:Nat}{w:World}{kv:Value}{zs:List PZ}(h:RowK (ZK YA) (fun b=>b<B) w kv zs):∃ ao cap,kv=.slice ao zs.length cap∧jS B w ao zs:=by
 obtain⟨ao,cap,hv,_,hf⟩:=h.form;refine⟨ao,cap,hv,fun h0=>?_⟩;obtain⟨b,off,h1,h2,h3,h4⟩:=hf h0;refine⟨b,off,h1,h2,h3,fun i hi=>?_⟩;obtain⟨x,h5,h6⟩:=h4 i hi;have h5':nM YA (fun b=>b<B) w x.1 x.2 zs[i]:=h5;obtain⟨am,wn,cm,ak,ck,e1,e2⟩:=h5'.ZE;refine⟨am,wn,cm,ak,ck,by rw[← e1,← e2];exact h5',fun j u hu=>h6 j u ?_⟩;show (YA.cells zs[i] x.1 x.2)[j]?=some u;rw[e1,e2];exact hu
theorem Mf (x:PZ)(hf:x.fit)(B:Nat)(w:World)(hB:B≤w.heap.size):ZI 126 #[] (fun x=>!x.right true) B w x:=by
 intro W am wn cm ak ck hW hE;have hs:=hW.size;have hz:=(PZ.sj hf).2.2.2.1;have hbx:=aj W (.cells (aY x.op ⟨x.name.toArray⟩ ⟨x.module.toArray⟩ (decide (x.num<0)) (.slice am wn cm) x.yes (.slice ak x.kids.length ck) x.at_) 46);have HX:=ah (wW true _ x (Nat.lt_succ_self _) hf B am wn cm ak ck (W.alloc (.cells (aY x.op ⟨x.name.toArray⟩ ⟨x.module.toArray⟩ (decide (x.num<0)) (.slice am wn cm) x.yes (.slice ak x.kids.length ck) x.at_) 46)) (hE.frame (aT.of hbx)) (by simp;omega) (by omega));have hN:=heap_alloc_new W (.cells (aY x.op ⟨x.name.toArray⟩ ⟨x.module.toArray⟩ (decide (x.num<0)) (.slice am wn cm) x.yes (.slice ak x.kids.length ck) x.at_) 46)
 show Calls _ _ #[_] _ fun r w'=>r=.returned (.bool (!x.right true))∧Below W.heap.size W w'
 generalize x.right true=rb at *;clear hE hz hf;go_enter Tryz.func126,Tryz.ntmps126
 go_upto_region 1 with fail
 change Code.wp _ _ _ _ (W.alloc (.cells (aY x.op ⟨x.name.toArray⟩ ⟨x.module.toArray⟩ (decide (x.num<0)) (.slice am wn cm) x.yes (.slice ak x.kids.length ck) x.at_) 46));generalize W.alloc _=w0 at hbx hN HX ⊢;obtain⟨y0,y1,y2,y3,y4,y5,y6,y7⟩:=aG hN;go_wp2_with (go_at_call 127;refine HX.out.mono ?_;rintro r w1 ⟨rfl,hb1⟩);go_ret;exact⟨rfl,hbx.trans (hb1.mono hbx.size)⟩
theorem AB (base:Int)(B:Nat)(ae:Option Addr)(ce:Nat)(ks:List PZ)(w:World)(hk:jS B w ae ks)(hB:B≤w.heap.size)(hn:ks.length≤1099511627776)(hf:∀ x∈ks,x.fit) :
  Calls Tryz.prog 75 #[.int .i64 base,.slice ae ks.length ce] w fun r w'=>r=.returned (.bool (eO base ks))∧Below w.heap.size w w':=by
 have HC:=ah (fun W (hW:Below w.heap.size w W)=>vS 126 #[] (fun x=>!x.right true) (enters_of Tryz.func126 (by kernel_rfl) rfl) B ae ce ks W (hk.below hW) (Nat.le_trans hB hW.size) hn fun x hx=>Mf x (hf x hx) B W (Nat.le_trans hB hW.size))
 have hdef:eO base ks=((decide (base=1) || decide (base=2)) && (decide (ks.length≤1) && !(ks.any fun x=>!x.right true))):=by rw[eO,wV]
 rw[hdef];clear hdef hk hf;generalize (ks.any fun x=>!x.right true)=an at *;generalize ks.length=n at *
 by_cases h1:n≤1
 ·have h1I:(n:Int)≤1:=by omega
  rw[decide_eq_true h1,Bool.true_and];clear h1
  by_cases hb1:base=1
  ·subst hb1
   rw[decide_eq_true rfl,Bool.true_or,Bool.true_and];go_enter Tryz.func75,Tryz.ntmps75;go_wp2_with (go_at_call 95;refine(HC.out _ (Below.refl _ _)).mono ?_;rintro r w5 ⟨rfl,hb5⟩);go_ret;exact⟨rfl,hb5⟩
  ·have ht1:(base == 1)=false:=beq_eq_false_iff_ne.2 hb1
   by_cases hb2:base=2
   ·subst hb2
    rw[decide_eq_false (by decide),decide_eq_true rfl,Bool.false_or,Bool.true_and];clear hb1;go_enter Tryz.func75,Tryz.ntmps75;go_wp2_with (go_at_call 95;refine(HC.out _ (Below.refl _ _)).mono ?_;rintro r w5 ⟨rfl,hb5⟩);go_ret;exact⟨rfl,hb5⟩
   ·have ht2:(base == 2)=false:=beq_eq_false_iff_ne.2 hb2
    rw[decide_eq_false hb1,decide_eq_false hb2,Bool.false_or,Bool.false_and];clear hb1 hb2 HC;go_enter Tryz.func75,Tryz.ntmps75;go_wp2;go_ret;exact⟨rfl,Below.refl _ _⟩
 ·have h1I:(1:Int)<(n:Int):=by omega
  rw[decide_eq_false h1,Bool.false_and,Bool.and_false];clear h1 HC
  by_cases hb1:base=1
  ·subst hb1
   go_enter Tryz.func75,Tryz.ntmps75;go_wp2;go_ret;exact⟨rfl,Below.refl _ _⟩
  ·have ht1:(base == 1)=false:=beq_eq_false_iff_ne.2 hb1
   by_cases hb2:base=2
   ·subst hb2
    clear hb1;go_enter Tryz.func75,Tryz.ntmps75;go_wp2;go_ret;exact⟨rfl,Below.refl _ _⟩
   ·have ht2:(base == 2)=false:=beq_eq_false_iff_ne.2 hb2
    clear hb1 hb2;go_enter Tryz.func75,Tryz.ntmps75;go_wp2;go_ret;exact⟨rfl,Below.refl _ _⟩
theorem Mg (w:World):(Instr.index 217 (.agg #[.string ⟨#[]⟩,.string ⟨#[105,110,116]⟩,.string ⟨#[98,111,111,108]⟩]) (.int .i64 1)).run Tryz.prog w=.ok (.string ⟨#[105,110,116]⟩) w:=by kernel_rfl
theorem Mh (w:World):(Instr.index 217 (.agg #[.string ⟨#[]⟩,.string ⟨#[105,110,116]⟩,.string ⟨#[98,111,111,108]⟩]) (.int .i64 2)).run Tryz.prog w=.ok (.string ⟨#[98,111,111,108]⟩) w:=by kernel_rfl
theorem Pw {base:Int}(h:base=1∨base=2):∀ w:World,(Instr.index 217 (.agg #[.string ⟨#[]⟩,.string ⟨#[105,110,116]⟩,.string ⟨#[98,111,111,108]⟩]) (.int .i64 base)).run Tryz.prog w=.ok (.string ⟨(sP base).toArray⟩) w:=by
 rcases h with rfl|rfl
 ·exact Mg
 ·exact Mh
theorem Dw (base:Int)(hbase:base=1∨base=2)(ks:List PZ)(B B' b:Nat)(ae:Option Addr)(ce:Nat)(acc:List UInt8)(w:World)(hk:∀ x∈ks,Pm x)(h:jS B w ae ks)(lu:B≤B')(hbd:jE B' b acc w 155)(hB:B'≤w.heap.size)(hn:acc.length+(jU base ks).length≤1099511627776)(hkl:ks.length≤1000000) :
  Calls Tryz.prog 76 #[.pointer (some ⟨b,0,none⟩),.int .i64 base,.slice ae ks.length ce] w (bF B' b (acc++jU base ks) w):=by
 have HH:=ah h;have HK:=ah hk;have hix:=Pw hbase;have hw1:=ah (dA ⟨(sP base).toArray⟩ B' b acc w hbd hB (by rw[jU,bC] at hn;show acc.length+(sP base).toArray.size≤_;simp only[List.size_toArray];omega))
 have hn2:(acc++sP base).length+(fT ks).length≤1099511627776:=by rw[jU,bC] at hn;rw[bC];omega
 have hfin:acc++jU base ks=(acc++sP base)++fT ks:=by rw[jU,List.append_assoc]
 rw[hfin];clear hfin hn h hk hbase;have hbs:(ByteArray.mk (sP base).toArray).data.toList=sP base:=rfl;rw[hbs] at hw1;clear hbs;have QX:=ah hbd;clear hbd;generalize ByteArray.mk (sP base).toArray=BS at hix hw1;generalize acc++sP base=TG at *;go_enter Tryz.func76,Tryz.ntmps76
 go_upto_region 1 with (go_at_call 128;refine hw1.out.mono ?_;rintro r w1 h1;obtain rfl:=h1.eq)
 have hs1:=(gU.start QX.out).write h1;have H1:=ah h1;have EG:=ah (gU.start hs1.jZ);have hz1:=hs1.jT.size;clear hs1 h1 hix hw1;go_wp2
 go_loopw [16] (fun q wr=>∃ k:Nat,k≤ks.length∧q=.int .i64 k∧gU w1 B' b (TG++fT (ks.take k)) wr) (fun q _=>ks.length - (intOf q).toNat)
 case atStart=>exact⟨0,Nat.zero_le _,rfl,by simpa [fT] using EG.out⟩
 case round =>
  obtain⟨k,hkk,rfl,st⟩:=hrel;have hz:=st.jT.size
  by_cases hlt:k<ks.length
  ·have hsn:=IZ hlt
   have hle:=Pv ks (k+1);rw[hsn] at hle;have HD:=ah (HK.out _ (List.getElem_mem hlt));obtain⟨kb,off,JA,JB,JC,JD,ck1,rfl,hkB,hE,x0,x1,x2,x3,x4,x5,x6,x7⟩:=HH.out.at ((H1.out.2.2.1.trans st.jT).mono lu) hlt;have qm:=ah hsn;have HST:=ah st;clear hsn st;generalize fT (ks.take k)=c at hle qm HST;generalize ks[k]=x at *
   have pQ:(k:Int)<(ks.length:Int):=by omega
   simp only[bC,dI,List.length_nil] at hle
   have hl1:(TG++c).length+2≤1099511627776:=by rw[bC];omega
   have hl2:(TG++c++[32,123]).length+x.text.length+1≤1099511627776:=by simp only[bC,dI,List.length_nil];omega
   have hal:=aj wr (.cells (aY x.op ⟨x.name.toArray⟩ ⟨x.module.toArray⟩ (decide (x.num<0)) (.slice JA JB JC) x.yes (.slice JD x.kids.length ck1) x.at_) 46);have hN:=heap_alloc_new wr (.cells (aY x.op ⟨x.name.toArray⟩ ⟨x.module.toArray⟩ (decide (x.num<0)) (.slice JA JB JC) x.yes (.slice JD x.kids.length ck1) x.at_) 46);have s1:=HST.out.below hal (by omega);have hE1:=hE.frame (aT.qw (hal.mono (by omega:B'≤wr.heap.size)) (fun b hb=>by omega:∀ b,b<B→b<B'));clear hle hE
   go_upto_region 4 with fail
   change Code.wp _ _ _ _ (wr.alloc (.cells (aY x.op ⟨x.name.toArray⟩ ⟨x.module.toArray⟩ (decide (x.num<0)) (.slice JA JB JC) x.yes (.slice JD x.kids.length ck1) x.at_) 46));clear x0 x1 x2 x3 x4 x5 x6 x7;generalize wr.alloc _=w2 at hal hN s1 hE1 ⊢;have hz2:=hal.size
   go_upto_region 5 with (go_at_call 128;refine(dA ⟨#[32,123]⟩ B' b (TG++c) w2 s1.jZ (by omega) hl1).mono ?_;rintro r w3 h3;obtain rfl:=h3.eq)
   have s3:=s1.write h3;have hz3:=s3.jT.size;have Yr:=s1.jZ.block h3.2.2.2 hN (by decide) (by decide);obtain⟨y0,y1,y2,y3,y4,y5,y6,y7⟩:=aG Yr;have hlx:=h3.2.2.1.size;have HX:=ah (HD.out B B' b JA JB JC JD ck1 (TG++c++[32,123]) w3 (hE1.frame (aT.qw h3.2.2.1 fun b hb=>by omega)) lu s3.jZ (by omega) (by omega));have Fe:=ah s3;clear HST HD hal hN Yr s1 hE1 s3 h3
   go_upto_region 6 with (go_at_call 129;refine HX.out.mono ?_;rintro r w4 h4;obtain rfl:=h4.eq)
   have s4:=Fe.out.write h4;have zn:=s4.jT.size;have Px:=ah s4;have HW4:=ah (dA ⟨#[125]⟩ B' b (TG++c++[32,123]++x.text) w4 s4.jZ (by omega) (by rw[bC];show _+1≤_;omega));clear HX Fe s4 h4 y0 y1 y2 y3 y4 y5 y6 y7;go_wp2_with (go_at_call 128;refine HW4.out.mono ?_;rintro r w5 h5;obtain rfl:=h5.eq);refine⟨⟨k+1,by omega,by go_num,?_⟩,by simp[intOf];omega⟩;have:=Px.out.write h5;rw[qm.out]
   simpa [List.append_assoc] using this
  ·obtain rfl:k=ks.length:=by omega
   have pQ:decide ((ks.length:Int)<(ks.length:Int))=false:=decide_eq_false (by omega);rw[List.take_length] at st;have HST:=ah st;clear st;go_wp2
   go_end0
   exact⟨rfl,HST.out.jZ,H1.out.2.2.1.trans HST.out.jT,H1.out.2.2.2.trans HST.out.kept⟩
end Go.Proofs.YtknicmmigbhpcaaGreatDoor
