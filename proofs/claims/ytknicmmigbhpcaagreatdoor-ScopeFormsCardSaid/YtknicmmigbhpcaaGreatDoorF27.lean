/- Walks and plain laws: ShowPD, ShowPE. -/
import Derived.Test.YtknicmmigbhpcaaGreatDoorF26
set_option maxHeartbeats 16000000
set_option maxRecDepth 100000
set_option linter.unusedVariables false
set_option linter.unusedSimpArgs false
namespace Go.Proofs.YtknicmmigbhpcaaGreatDoor
open Go.RowKit Go
theorem Xn (d:ZD)(hs:d.sound=true)(hf:d.fit)(B B' b:Nat)(ap:Option Addr)(cp:Nat)(ac:Option Addr)(cc:Nat)(am:Option Addr)(wn cm:Nat)(ae:Option Addr)(ce:Nat)(acc:List UInt8)(w:World)(h:Bd d B ap cp ac cc am wn cm ae ce w)(lu:B≤B')(hbd:jE B' b acc w 155)(hB:B'≤w.heap.size)(hn:acc.length+d.text.length≤1099511627776) :
  Calls Tryz.prog 136 #[.pointer (some ⟨b,0,none⟩),.agg #[.bool d.pub,.string ⟨d.res.name.toArray⟩,.slice ap d.params.length cp,.int .i64 d.res.base,.slice ac d.res.clause.length cc,.int .i64 d.body.op,.string ⟨d.body.name.toArray⟩,.string ⟨d.body.module.toArray⟩,.bool (decide (d.body.num<0)),.slice am wn cm,.bool d.body.yes,.slice ae d.body.kids.length ce,.int .i64 d.body.at_,.int .i64 d.res.at_,.int .i64 d.res.bare]] w (bF B' b (acc++d.text) w):=by
 obtain⟨f1,f2,f3,f4⟩:=hf;have hs':=hs;rw[ZD.sound] at hs';simp only[Bool.and_eq_true,decide_eq_true_eq,Bool.not_eq_true',List.any_eq_false] at hs';obtain⟨hs1,hs2,hs3,hs4,hs5⟩:=hs'
 have hpr:∀ x∈d.params,x.right=true:=fun x hx=>by have:=hs3 x hx;simpa using this
 obtain⟨oo,hk1,hkr⟩:=uJ hs4
 obtain⟨pb,hpb⟩:∃ l,l=if d.pub=true then [112,117,98,32] else ([]:List UInt8):=⟨_,rfl⟩
 have eNz:(ByteArray.mk d.res.name.toArray).size=d.res.name.length:=by show d.res.name.toArray.size=_;simp
 have hout:acc++d.text=acc++pb++([102,117,110,32]++(d.res.name++[40]))++bB (d.params.map ZF.text)++[41,58,32]++jU d.res.base d.res.clause++[32,61,32]++d.body.text++[59,10]:=by
  rw[ZD.text,← hpb];simp[List.append_assoc]
 have hal:=(aj w (.cells #[.pointer (some ⟨b,0,none⟩)] 149)).alloc (by simp) (.cells (iY d ap cp ac cc am wn cm ae ce) 48);have hT:=(Lib.alloc_old (w.alloc (.cells #[.pointer (some ⟨b,0,none⟩)] 149)) (.cells (iY d ap cp ac cc am wn cm ae ce) 48) w.heap.size (by simp)).trans (heap_alloc_new w (.cells #[.pointer (some ⟨b,0,none⟩)] 149));have hN:=heap_alloc_new (w.alloc (.cells #[.pointer (some ⟨b,0,none⟩)] 149)) (.cells (iY d ap cp ac cc am wn cm ae ce) 48);rw[World.size_alloc] at hN;have hb1:=hbd.kK hal;have vL:=hal.mono hB;have hB1:=Nat.le_trans hB hal.size;have h1:=h.below hal;have ent:=enters_of Tryz.func216 (by kernel_rfl) rfl
 have hL:=fun (a:List UInt8) (V:World) (w1:World) (hV:Below B' w1 V) (h1:Bd d B ap cp ac cc am wn cm ae ce w1) (hbv:jE B' b a V 155) (ht:V.heap[w.heap.size]?=some (.cells #[.pointer (some ⟨b,0,none⟩)] 149 (0,0))) (Rb:B'≤V.heap.size) (hl:a.length+(bB (d.params.map ZF.text)).length≤1099511627776)=>TR 216 #[.pointer (some ⟨w.heap.size,0,none⟩)] ent d.params B B' b ap cp a V (fun x hx=>Xm x (hpr x hx) (f2 x hx) B' b w.heap.size a V hbv ht Rb) (h1.qw (hV.mono lu)).kJ lu hbv Rb hl f1
 have hTY:=fun (a:List UInt8) (V:World) (w1:World) (hV:Below B' w1 V) (h1:Bd d B ap cp ac cc am wn cm ae ce w1) (hbv:jE B' b a V 155) (Rb:B'≤V.heap.size) (hl:a.length+(jU d.res.base d.res.clause).length≤1099511627776)=>Dw d.res.base oo d.res.clause B B' b ac cc a V (fun e he=>vD _ e (Nat.lt_succ_self _) (hkr e he) (f3.2.2 e he)) (h1.qw (hV.mono lu)).cl lu hbv Rb hl (by omega)
 have hXP:=fun (a:List UInt8) (V:World) (w1:World) (hV:Below B' w1 V) (h1:Bd d B ap cp ac cc am wn cm ae ce w1) (hbv:jE B' b a V 155) (Rb:B'≤V.heap.size) (hl:a.length+d.body.text.length≤1099511627776)=>vD _ d.body (Nat.lt_succ_self _) hs5 f4 B B' b am wn cm ae ce a V (h1.qw (hV.mono lu)).body lu hbv Rb hl
 have hlen:acc.length+d.text.length=acc.length+pb.length+(4+(d.res.name.length+1))+(bB (d.params.map ZF.text)).length+3+(jU d.res.base d.res.clause).length+3+d.body.text.length+2:=by
  have:=congrArg List.length hout;simp only[bC,dI,List.length_nil] at this;omega
 have afZ:pb.length≤4:=by rw[hpb];split<;>simp
 rw[hlen] at hn;have adj:=ah hout;clear hout hlen hs hs1 hs2 hs3 hs4 hs5 hpr hkr f1 f2 f3 f4 ent h;generalize bB (d.params.map ZF.text)=Np at *;generalize jU d.res.base d.res.clause=ty at *;generalize d.body.text=bt at *;go_enter Tryz.func136,Tryz.ntmps136
 go_upto_region 1 with fail
 change Code.wp _ _ _ _ ((w.alloc (.cells #[.pointer (some ⟨b,0,none⟩)] 149)).alloc (.cells (iY d ap cp ac cc am wn cm ae ce) 48));generalize (w.alloc _).alloc _=w1 at hal hT hN hb1 vL hB1 h1 ⊢;have HL:=ah (fun a V hV hbv ht Rb hl=>hL a V w1 hV h1 hbv ht Rb hl);have HTY:=ah (fun a V hV hbv Rb hl=>hTY a V w1 hV h1 hbv Rb hl);have HXP:=ah (fun a V hV hbv Rb hl=>hXP a V w1 hV h1 hbv Rb hl);have HB1:=ah hb1;have HN:=ah hN;have HT:=ah hT;have HPB:=ah hpb;have EG:=ah (gU.start hb1);clear hL hTY hXP hN hT hb1 h1 hpb
 have hrest:∀ (w2:World),gU w1 B' b (acc++pb) w2→True:=fun _ _=>trivial
 clear hrest;obtain⟨y0,y1,y2,y3,y4,y5,y6,y7,y8,y9,rA,rC,rD,-⟩:=aS HN.out
 have yt:w1.cell? ⟨w.heap.size,0,none⟩=some (.pointer (some ⟨b,0,none⟩)):=by rw[Lib.cell_of_heap HT.out];rfl
 cases hpu:d.pub with
 | true =>
  have Ja:Hid (pb=[112,117,98,32]):=ah (by rw[HPB.out,hpu];rfl);rw[hpu] at y0;have HW:=ah (dA ⟨#[112,117,98,32]⟩ B' b acc w1 EG.out.jZ hB1 (by show acc.length+4≤_;omega));clear hpu HPB
  go_upto_region 3 with (go_at_call 128;refine HW.out.mono ?_;rintro r w2 h2;obtain rfl:=h2.eq)
  have adk:=ah (EG.out.write h2);have HS2:Hid (gU w1 B' b (acc++pb) w2):=ah (by rw[Ja.out];exact adk.out);clear y0 y1 y2 y3 y4 y5 y6 y7 y8 y9 rA rC rD yt HW h2 adk Ja;obtain⟨y0,y1,y2,y3,y4,y5,y6,y7,y8,y9,rA,rC,rD,-⟩:=aS (HS2.out.box HB1.out HN.out (by decide) (by decide))
  have yt:w2.cell? ⟨w.heap.size,0,none⟩=some (.pointer (some ⟨b,0,none⟩)):=by rw[Lib.cell_of_heap (HS2.out.box HB1.out HT.out (by decide) (by decide))];rfl
  have hz2:=HS2.out.jT.size;have HW:=ah (show Calls _ _ _ _ (bF B' b (acc++pb++([102,117,110,32]++(d.res.name++[40]))) w2) from vC ⟨#[102,117,110,32]⟩ ⟨d.res.name.toArray⟩ ⟨#[40]⟩ B' b (acc++pb) w2 HS2.out.jZ (by omega) (by rw[eNz];show (acc++pb).length+4+d.res.name.length+1≤_;simp only[bC];omega))
  go_upto_region 4 with (go_at_call 128;refine HW.out.mono ?_;rintro r w3 h2;obtain rfl:=h2.eq)
  have Fe:=ah (HS2.out.write h2);clear y0 y1 y2 y3 y4 y5 y6 y7 y8 y9 rA rC rD yt HW h2 HS2;obtain⟨y0,y1,y2,y3,y4,y5,y6,y7,y8,y9,rA,rC,rD,-⟩:=aS (Fe.out.box HB1.out HN.out (by decide) (by decide))
  have yt:w3.cell? ⟨w.heap.size,0,none⟩=some (.pointer (some ⟨b,0,none⟩)):=by rw[Lib.cell_of_heap (Fe.out.box HB1.out HT.out (by decide) (by decide))];rfl
  have hz3:=Fe.out.jT.size;have HW:=ah (HL.out (acc++pb++([102,117,110,32]++(d.res.name++[40]))) w3 Fe.out.jT Fe.out.jZ (Fe.out.box HB1.out HT.out (by decide) (by decide)) (by omega) (by simp only[bC,dI,List.length_nil];omega))
  go_upto_region 5 with (go_at_call 215;refine HW.out.mono ?_;rintro r w4 h2;obtain rfl:=h2.eq)
  have Px:=ah (Fe.out.write h2);clear y0 y1 y2 y3 y4 y5 y6 y7 y8 y9 rA rC rD yt HW h2 Fe;obtain⟨y0,y1,y2,y3,y4,y5,y6,y7,y8,y9,rA,rC,rD,-⟩:=aS (Px.out.box HB1.out HN.out (by decide) (by decide))
  have yt:w4.cell? ⟨w.heap.size,0,none⟩=some (.pointer (some ⟨b,0,none⟩)):=by rw[Lib.cell_of_heap (Px.out.box HB1.out HT.out (by decide) (by decide))];rfl
  have zn:=Px.out.jT.size;have HW:=ah (dA ⟨#[41,58,32]⟩ B' b (acc++pb++([102,117,110,32]++(d.res.name++[40]))++Np) w4 Px.out.jZ (by omega) (by show (acc++pb++([102,117,110,32]++(d.res.name++[40]))++Np).length+3≤_;simp only[bC,dI,List.length_nil];omega))
  go_upto_region 6 with (go_at_call 128;refine HW.out.mono ?_;rintro r w5 h2;obtain rfl:=h2.eq)
  have Md:=ah (Px.out.write h2);clear y0 y1 y2 y3 y4 y5 y6 y7 y8 y9 rA rC rD yt HW h2 Px;obtain⟨y0,y1,y2,y3,y4,y5,y6,y7,y8,y9,rA,rC,rD,-⟩:=aS (Md.out.box HB1.out HN.out (by decide) (by decide))
  have yt:w5.cell? ⟨w.heap.size,0,none⟩=some (.pointer (some ⟨b,0,none⟩)):=by rw[Lib.cell_of_heap (Md.out.box HB1.out HT.out (by decide) (by decide))];rfl
  have Qz:=Md.out.jT.size;have HW:=ah (HTY.out (acc++pb++([102,117,110,32]++(d.res.name++[40]))++Np++[41,58,32]) w5 Md.out.jT Md.out.jZ (by omega) (by simp only[bC,dI,List.length_nil];omega))
  go_upto_region 7 with (go_at_call 76;refine HW.out.mono ?_;rintro r w6 h2;obtain rfl:=h2.eq)
  have TS:=ah (Md.out.write h2);clear y0 y1 y2 y3 y4 y5 y6 y7 y8 y9 rA rC rD yt HW h2 Md;obtain⟨y0,y1,y2,y3,y4,y5,y6,y7,y8,y9,rA,rC,rD,-⟩:=aS (TS.out.box HB1.out HN.out (by decide) (by decide))
  have yt:w6.cell? ⟨w.heap.size,0,none⟩=some (.pointer (some ⟨b,0,none⟩)):=by rw[Lib.cell_of_heap (TS.out.box HB1.out HT.out (by decide) (by decide))];rfl
  have hz6:=TS.out.jT.size;have HW:=ah (dA ⟨#[32,61,32]⟩ B' b (acc++pb++([102,117,110,32]++(d.res.name++[40]))++Np++[41,58,32]++ty) w6 TS.out.jZ (by omega) (by show (acc++pb++([102,117,110,32]++(d.res.name++[40]))++Np++[41,58,32]++ty).length+3≤_;simp only[bC,dI,List.length_nil];omega))
  go_upto_region 8 with (go_at_call 128;refine HW.out.mono ?_;rintro r w7 h2;obtain rfl:=h2.eq)
  have PN:=ah (TS.out.write h2);clear y0 y1 y2 y3 y4 y5 y6 y7 y8 y9 rA rC rD yt HW h2 TS;obtain⟨y0,y1,y2,y3,y4,y5,y6,y7,y8,y9,rA,rC,rD,-⟩:=aS (PN.out.box HB1.out HN.out (by decide) (by decide))
  have yt:w7.cell? ⟨w.heap.size,0,none⟩=some (.pointer (some ⟨b,0,none⟩)):=by rw[Lib.cell_of_heap (PN.out.box HB1.out HT.out (by decide) (by decide))];rfl
  have hz7:=PN.out.jT.size;have HW:=ah (HXP.out (acc++pb++([102,117,110,32]++(d.res.name++[40]))++Np++[41,58,32]++ty++[32,61,32]) w7 PN.out.jT PN.out.jZ (by omega) (by simp only[bC,dI,List.length_nil];omega))
  go_upto_region 9 with (go_at_call 129;refine HW.out.mono ?_;rintro r w8 h2;obtain rfl:=h2.eq)
  have Xo:=ah (PN.out.write h2);clear y0 y1 y2 y3 y4 y5 y6 y7 y8 y9 rA rC rD yt HW h2 PN;obtain⟨y0,y1,y2,y3,y4,y5,y6,y7,y8,y9,rA,rC,rD,-⟩:=aS (Xo.out.box HB1.out HN.out (by decide) (by decide))
  have yt:w8.cell? ⟨w.heap.size,0,none⟩=some (.pointer (some ⟨b,0,none⟩)):=by rw[Lib.cell_of_heap (Xo.out.box HB1.out HT.out (by decide) (by decide))];rfl
  have hz8:=Xo.out.jT.size;have HW:=ah (dA ⟨#[59,10]⟩ B' b (acc++pb++([102,117,110,32]++(d.res.name++[40]))++Np++[41,58,32]++ty++[32,61,32]++bt) w8 Xo.out.jZ (by omega) (by show (acc++pb++([102,117,110,32]++(d.res.name++[40]))++Np++[41,58,32]++ty++[32,61,32]++bt).length+2≤_;simp only[bC,dI,List.length_nil];omega));go_wp2_with (go_at_call 128;refine HW.out.mono ?_;rintro r w9 h2;obtain rfl:=h2.eq)
  go_end0
  have hfin:=bF.from hal hB (Xo.out.write h2)
  rw[adj.out];exact hfin
 | false =>
  have Ja:Hid (pb=[]):=ah (by rw[HPB.out,hpu];rfl);rw[hpu] at y0;clear hpu HPB
  go_upto_region 3 with fail
  obtain⟨w2,hw2⟩:∃ w2:World,w2=w1:=⟨_,rfl⟩
  have HS2:Hid (gU w1 B' b (acc++pb) w1):=ah (by rw[Ja.out,List.append_nil];exact EG.out);clear y0 y1 y2 y3 y4 y5 y6 y7 y8 y9 rA rC rD yt Ja hw2 w2;obtain⟨y0,y1,y2,y3,y4,y5,y6,y7,y8,y9,rA,rC,rD,-⟩:=aS (HS2.out.box HB1.out HN.out (by decide) (by decide))
  have yt:w1.cell? ⟨w.heap.size,0,none⟩=some (.pointer (some ⟨b,0,none⟩)):=by rw[Lib.cell_of_heap (HS2.out.box HB1.out HT.out (by decide) (by decide))];rfl
  have hz2:=HS2.out.jT.size;have HW:=ah (show Calls _ _ _ _ (bF B' b (acc++pb++([102,117,110,32]++(d.res.name++[40]))) w1) from vC ⟨#[102,117,110,32]⟩ ⟨d.res.name.toArray⟩ ⟨#[40]⟩ B' b (acc++pb) w1 HS2.out.jZ (by omega) (by rw[eNz];show (acc++pb).length+4+d.res.name.length+1≤_;simp only[bC];omega))
  go_upto_region 4 with (go_at_call 128;refine HW.out.mono ?_;rintro r w3 h2;obtain rfl:=h2.eq)
  have Fe:=ah (HS2.out.write h2);clear y0 y1 y2 y3 y4 y5 y6 y7 y8 y9 rA rC rD yt HW h2 HS2;obtain⟨y0,y1,y2,y3,y4,y5,y6,y7,y8,y9,rA,rC,rD,-⟩:=aS (Fe.out.box HB1.out HN.out (by decide) (by decide))
  have yt:w3.cell? ⟨w.heap.size,0,none⟩=some (.pointer (some ⟨b,0,none⟩)):=by rw[Lib.cell_of_heap (Fe.out.box HB1.out HT.out (by decide) (by decide))];rfl
  have hz3:=Fe.out.jT.size;have HW:=ah (HL.out (acc++pb++([102,117,110,32]++(d.res.name++[40]))) w3 Fe.out.jT Fe.out.jZ (Fe.out.box HB1.out HT.out (by decide) (by decide)) (by omega) (by simp only[bC,dI,List.length_nil];omega))
  go_upto_region 5 with (go_at_call 215;refine HW.out.mono ?_;rintro r w4 h2;obtain rfl:=h2.eq)
  have Px:=ah (Fe.out.write h2);clear y0 y1 y2 y3 y4 y5 y6 y7 y8 y9 rA rC rD yt HW h2 Fe;obtain⟨y0,y1,y2,y3,y4,y5,y6,y7,y8,y9,rA,rC,rD,-⟩:=aS (Px.out.box HB1.out HN.out (by decide) (by decide))
  have yt:w4.cell? ⟨w.heap.size,0,none⟩=some (.pointer (some ⟨b,0,none⟩)):=by rw[Lib.cell_of_heap (Px.out.box HB1.out HT.out (by decide) (by decide))];rfl
  have zn:=Px.out.jT.size;have HW:=ah (dA ⟨#[41,58,32]⟩ B' b (acc++pb++([102,117,110,32]++(d.res.name++[40]))++Np) w4 Px.out.jZ (by omega) (by show (acc++pb++([102,117,110,32]++(d.res.name++[40]))++Np).length+3≤_;simp only[bC,dI,List.length_nil];omega))
  go_upto_region 6 with (go_at_call 128;refine HW.out.mono ?_;rintro r w5 h2;obtain rfl:=h2.eq)
  have Md:=ah (Px.out.write h2);clear y0 y1 y2 y3 y4 y5 y6 y7 y8 y9 rA rC rD yt HW h2 Px;obtain⟨y0,y1,y2,y3,y4,y5,y6,y7,y8,y9,rA,rC,rD,-⟩:=aS (Md.out.box HB1.out HN.out (by decide) (by decide))
  have yt:w5.cell? ⟨w.heap.size,0,none⟩=some (.pointer (some ⟨b,0,none⟩)):=by rw[Lib.cell_of_heap (Md.out.box HB1.out HT.out (by decide) (by decide))];rfl
  have Qz:=Md.out.jT.size;have HW:=ah (HTY.out (acc++pb++([102,117,110,32]++(d.res.name++[40]))++Np++[41,58,32]) w5 Md.out.jT Md.out.jZ (by omega) (by simp only[bC,dI,List.length_nil];omega))
  go_upto_region 7 with (go_at_call 76;refine HW.out.mono ?_;rintro r w6 h2;obtain rfl:=h2.eq)
  have TS:=ah (Md.out.write h2);clear y0 y1 y2 y3 y4 y5 y6 y7 y8 y9 rA rC rD yt HW h2 Md;obtain⟨y0,y1,y2,y3,y4,y5,y6,y7,y8,y9,rA,rC,rD,-⟩:=aS (TS.out.box HB1.out HN.out (by decide) (by decide))
  have yt:w6.cell? ⟨w.heap.size,0,none⟩=some (.pointer (some ⟨b,0,none⟩)):=by rw[Lib.cell_of_heap (TS.out.box HB1.out HT.out (by decide) (by decide))];rfl
  have hz6:=TS.out.jT.size;have HW:=ah (dA ⟨#[32,61,32]⟩ B' b (acc++pb++([102,117,110,32]++(d.res.name++[40]))++Np++[41,58,32]++ty) w6 TS.out.jZ (by omega) (by show (acc++pb++([102,117,110,32]++(d.res.name++[40]))++Np++[41,58,32]++ty).length+3≤_;simp only[bC,dI,List.length_nil];omega))
  go_upto_region 8 with (go_at_call 128;refine HW.out.mono ?_;rintro r w7 h2;obtain rfl:=h2.eq)
  have PN:=ah (TS.out.write h2);clear y0 y1 y2 y3 y4 y5 y6 y7 y8 y9 rA rC rD yt HW h2 TS;obtain⟨y0,y1,y2,y3,y4,y5,y6,y7,y8,y9,rA,rC,rD,-⟩:=aS (PN.out.box HB1.out HN.out (by decide) (by decide))
  have yt:w7.cell? ⟨w.heap.size,0,none⟩=some (.pointer (some ⟨b,0,none⟩)):=by rw[Lib.cell_of_heap (PN.out.box HB1.out HT.out (by decide) (by decide))];rfl
  have hz7:=PN.out.jT.size;have HW:=ah (HXP.out (acc++pb++([102,117,110,32]++(d.res.name++[40]))++Np++[41,58,32]++ty++[32,61,32]) w7 PN.out.jT PN.out.jZ (by omega) (by simp only[bC,dI,List.length_nil];omega))
  go_upto_region 9 with (go_at_call 129;refine HW.out.mono ?_;rintro r w8 h2;obtain rfl:=h2.eq)
  have Xo:=ah (PN.out.write h2);clear y0 y1 y2 y3 y4 y5 y6 y7 y8 y9 rA rC rD yt HW h2 PN;obtain⟨y0,y1,y2,y3,y4,y5,y6,y7,y8,y9,rA,rC,rD,-⟩:=aS (Xo.out.box HB1.out HN.out (by decide) (by decide))
  have yt:w8.cell? ⟨w.heap.size,0,none⟩=some (.pointer (some ⟨b,0,none⟩)):=by rw[Lib.cell_of_heap (Xo.out.box HB1.out HT.out (by decide) (by decide))];rfl
  have hz8:=Xo.out.jT.size;have HW:=ah (dA ⟨#[59,10]⟩ B' b (acc++pb++([102,117,110,32]++(d.res.name++[40]))++Np++[41,58,32]++ty++[32,61,32]++bt) w8 Xo.out.jZ (by omega) (by show (acc++pb++([102,117,110,32]++(d.res.name++[40]))++Np++[41,58,32]++ty++[32,61,32]++bt).length+2≤_;simp only[bC,dI,List.length_nil];omega));go_wp2_with (go_at_call 128;refine HW.out.mono ?_;rintro r w9 h2;obtain rfl:=h2.eq)
  go_end0
  have hfin:=bF.from hal hB (Xo.out.write h2)
  rw[adj.out];exact hfin
def Rc (B:Nat)(w:World)(ai:Option Addr)(l:List (List UInt8 × Int)):Prop:=0<l.length→∃ b off,ai=some ⟨b,off,none⟩∧b<B∧b<w.heap.size∧∀ i,(hi:i<l.length)→w.cell? ⟨b,off+i * 2,none⟩=some (.string ⟨l[i].1.toArray⟩)∧w.cell? ⟨b,off+i * 2+1,none⟩=some (.int .i64 l[i].2)
def Mx (B:Nat)(w:World)(ad:Option Addr)(l:List ZD):Prop:=0<l.length→∃ b off,ad=some ⟨b,off,none⟩∧b<B∧b<w.heap.size∧∀ i,(hi:i<l.length)→∃ ap cp ac cc am wn cm ae ce,Bd l[i] B ap cp ac cc am wn cm ae ce w∧∀ j u,(iY l[i] ap cp ac cc am wn cm ae ce)[j]?=some u→w.cell? ⟨b,off+i * 15+j,none⟩=some u
theorem Rc.qw {B:Nat}{w W:World}{ai:Option Addr}{l:List (List UInt8 × Int)}(h:Rc B w ai l)(hW:Below B w W):Rc B W ai l:=fun h0=>by
 obtain⟨b,off,q1,q2,q3,q4⟩:=h h0;exact⟨b,off,q1,q2,Nat.lt_of_lt_of_le q3 hW.size,fun i hi=>⟨(hW.cell (p:=⟨b,off+i * 2,none⟩) q2).trans (q4 i hi).1,(hW.cell (p:=⟨b,off+i * 2+1,none⟩) q2).trans (q4 i hi).2⟩⟩
theorem Mx.qw {B:Nat}{w W:World}{ad:Option Addr}{l:List ZD}(h:Mx B w ad l)(hW:Below B w W):Mx B W ad l:=fun h0=>by
 obtain⟨b,off,q1,q2,q3,q4⟩:=h h0;refine⟨b,off,q1,q2,Nat.lt_of_lt_of_le q3 hW.size,fun i hi=>?_⟩;obtain⟨ap,cp,ac,cc,am,wn,cm,ae,ce,q5,q6⟩:=q4 i hi;exact⟨ap,cp,ac,cc,am,wn,cm,ae,ce,q5.qw hW,fun j u hu=>(hW.cell (p:=⟨b,off+i * 15+j,none⟩) q2).trans (q6 j u hu)⟩
theorem TT {B:Nat}{w:World}{kv:Value}{zs:List ZD}(hB:B≤w.heap.size)(h:RowK Q0 (fun b=>b<B) w kv zs):∃ ao cap,kv=.slice ao zs.length cap∧Mx B w ao zs:=by
 obtain⟨ao,cap,hv,_,hf⟩:=h.form;refine⟨ao,cap,hv,fun h0=>?_⟩;obtain⟨b,off,h1,h2,h3,h4⟩:=hf h0;refine⟨b,off,h1,h2,h3,fun i hi=>?_⟩;obtain⟨x,⟨h5,h7,h8⟩,h6⟩:=h4 i hi;obtain⟨ap,cp,e1,hp⟩:=TH h5;obtain⟨ac,cc,e2,hc⟩:=Gy h7;obtain⟨am,wn,cm,ae,ce,e3,e4⟩:=h8.ZE;rw[e3,e4] at h8;refine⟨ap,cp,ac,cc,am,wn,cm,ae,ce,⟨hp,hc,h8,hB⟩,fun j u hu=>h6 j u ?_⟩;show (Q0.cells zs[i] x)[j]?=some u;simp only[Q0,e1,e2,e3,e4];rw[iY] at hu
 simpa [dM] using hu
structure TU (p:ZP) (B:Nat) (ai ad:Option Addr) (w:World):Prop where
 imps:Rc B w ai p.imports
 defs:Mx B w ad p.defs
 hB:B≤w.heap.size
theorem TU.qw {p:ZP}{B:Nat}{ai ad:Option Addr}{w W:World}(h:TU p B ai ad w)(hW:Below B w W):TU p B ai ad W:=⟨h.imps.qw hW,h.defs.qw hW,Nat.le_trans h.hB hW.size⟩
theorem Jb (b:Nat)(w:World)(hbk:w.heap[b]?=some (.cells #[.pointer none,.slice none 0 0] 155 (0,0))) :
  Calls Tryz.prog 77 #[.pointer (some ⟨b,0,none⟩)] w fun e w'=>e=.returned (.string ⟨#[]⟩)∧Below w.heap.size w w':=by
 have c1:w.drew.cell? ⟨b,1,none⟩=some (.slice none 0 0):=by
  have:w.drew.heap[b]?=some (.cells #[.pointer none,.slice none 0 0] 155 (0,0)):=hbk;rw[Lib.cell_of_heap this];rfl
 have hSD:(Builtin.unsafeSliceData_ #[151] 219 #[.slice none 0 0]).run Tryz.prog w.drew=.ok (.pointer none) w.drew:=Lib.run_unsafeSliceData_nil _ _ _ _ _;have hUS:(Builtin.unsafeString_ #[219,3] 9 #[.pointer none,.int .i64 0]).run Tryz.prog w.drew=.ok (.string ⟨#[]⟩) w.drew:=Lib.run_unsafeString_none _ _ _ _ _
 have mixed:Tryz.prog.follows .mixedOrders=true:=by kernel_rfl
 clear hbk;go_enter Tryz.func77,Tryz.ntmps77;go_wp2
 go_region_o
 all_goals (go_wp2;go_ret;exact⟨rfl,(Below.refl _ w).drew⟩)
theorem GD {α:Type}{f:α→List UInt8}{l:List α}{k:Nat}(h:k<l.length):(l.take (k+1)).flatMap f=(l.take k).flatMap f++f l[k]:=by
 rw[List.take_succ_eq_append_getElem h,List.flatMap_append,List.flatMap_singleton]
theorem Rf {α:Type}(f:α→List UInt8)(l:List α)(k:Nat):((l.take k).flatMap f).length≤(l.flatMap f).length:=by
 conv=>rhs;rw[← List.take_append_drop k l,List.flatMap_append,bC]
 omega
theorem MB {α:Type}{p:α→Bool}{l:List α}{k:Nat}(h:k<l.length)(h1:(l.take k).all p=true)(h2:p l[k]=true):(l.take (k+1)).all p=true:=by
 rw[List.take_succ_eq_append_getElem h,List.all_append,h1];simpa using h2
theorem Rh {α:Type}{p:α→Bool}{l:List α}{k:Nat}(h:k<l.length)(h2:p l[k]=false):l.all p=false:=by
 rw[← Bool.not_eq_true,List.all_eq_true];intro q;have:=q _ (List.getElem_mem h);rw[h2] at this;cases this
theorem ZP.QZ {p:ZP}(h:0<p.imports.length∨0<p.defs.length):p.text≠[]:=by
 intro q;have hq:=congrArg List.length q;rw[ZP.text,bC,List.length_nil] at hq
 rcases h with h|h
 ·match hi:p.imports,h with
  | m :: l,_=>rw[hi] at hq;simp[qA] at hq
 ·match hi:p.defs,h with
  | d :: l,_=>rw[hi] at hq;simp[ZD.text] at hq
def kC (p:ZP)(w:World)(r:Ending)(w':World):Prop:=(r=.returned (.tuple #[.string ⟨(if p.right=true then p.text else []).toArray⟩,.int .i64 (if p.right=true then 0 else 10)]))∧Below w.heap.size w w'
theorem kC.no {p:ZP}{w w':World}(h:p.right=false)(hb:Below w.heap.size w w'):kC p w (.returned (.tuple #[.string ⟨#[]⟩,.int .i64 10])) w':=⟨by rw[h];rfl,hb⟩
theorem kC.yes {p:ZP}{w w':World}(h:p.right=true)(hb:Below w.heap.size w w'):kC p w (.returned (.tuple #[.string ⟨p.text.toArray⟩,.int .i64 0])) w':=⟨by rw[h];rfl,hb⟩
theorem dW {w:World}{b:Nat}{c0 c1:Value}(h:w.heap[b]?=some (.cells #[c0,c1] 38 (0,0))):w.cell? ⟨b,0,none⟩=some c0∧w.cell? ⟨b,1,none⟩=some c1:=by
 refine⟨?_,?_⟩<;>(rw[Lib.cell_of_heap h];rfl)
theorem yG {w:World}{b:Nat}{c0 c1:Value}(h:w.heap[b]?=some (.cells #[c0,c1] 101 (0,0))):w.cell? ⟨b,0,none⟩=some c0∧w.cell? ⟨b,1,none⟩=some c1:=by
 refine⟨?_,?_⟩<;>(rw[Lib.cell_of_heap h];rfl)
theorem Jc (p:ZP)(hf:p.fit)(B:Nat)(ai:Option Addr)(ci:Nat)(ad:Option Addr)(cd:Nat)(w:World)(h:TU p B ai ad w)(hn:p.text.length≤1099511627776) :
  Calls Tryz.prog 81 #[.agg #[.slice ai p.imports.length ci,.slice ad p.defs.length cd]] w (kC p w):=by
 obtain⟨f1,f2,f3,f4⟩:=hf;have hal:=aj w (.cells #[.slice ai p.imports.length ci,.slice ad p.defs.length cd] 38);have hN:=heap_alloc_new w (.cells #[.slice ai p.imports.length ci,.slice ad p.defs.length cd] 38)
 by_cases h16:p.imports.length≤16
 ·by_cases h64:p.defs.length≤64
  ·have hdef:p.right=(p.imports.all (fun m=>aR m.1) && p.defs.all ZD.sound):=by rw[ZP.right,decide_eq_true h16,decide_eq_true h64];rfl
   have zR:=ah hdef
   have adl:(p.imports.length:Int)≤16:=by omega
   have aeF:(p.defs.length:Int)≤64:=by omega
   have HF2:=ah f2;have HF4:=ah f4;have hB:=h.hB;have HH:=ah (h.qw (hal.mono hB));clear h hdef f1 f2 f3 f4 h16 h64;go_enter Tryz.func81,Tryz.ntmps81
   go_upto_region 1 with fail
   change Code.wp _ _ _ _ (w.alloc (.cells #[.slice ai p.imports.length ci,.slice ad p.defs.length cd] 38));generalize w.alloc (.cells #[.slice ai p.imports.length ci,.slice ad p.defs.length cd] 38)=w1 at hal hN HH ⊢;have hz1:=hal.size;have hl1:=(bQ hN).1;obtain⟨y0,y1⟩:=dW hN;have bO:=aj w1 (.cells #[.pointer none,.slice none 0 0] 155);have hbd:=jE.fresh (T:=155) w1;have hfresh:=heap_alloc_new w1 (.cells #[.pointer none,.slice none 0 0] 155);have Jw:=(bO.block w.heap.size hl1).trans hN;have hH2:=HH.out.qw (bO.mono HH.out.hB)
   go_upto_region 4 with fail
   change Code.wp _ _ _ _ (w1.alloc (.cells #[.pointer none,.slice none 0 0] 155));clear y0 y1 hN HH
   have hz2:w1.heap.size<(w1.alloc (.cells #[.pointer none,.slice none 0 0] 155)).heap.size:=by simp
   generalize w1.alloc (.cells #[.pointer none,.slice none 0 0] 155)=w2 at bO hbd hfresh Jw hH2 hz2 ⊢;have QX:=ah hbd;have HFR:=ah hfresh;have HN2:=ah Jw;have HH:=ah hH2;obtain⟨y0,y1⟩:=dW Jw;have hbw2:Below w.heap.size w w2:=hal.trans (bO.mono hz1);clear hbd hfresh Jw hH2 hal bO
   have hl2:∀ k,(p.imports.take k).flatMap qA++[]=(p.imports.take k).flatMap qA:=fun _=>List.append_nil _
   clear hl2;go_wp2
   go_loopw [24] (fun q wr=>∃ k:Nat,k≤p.imports.length∧q=.int .i64 k∧(p.imports.take k).all (fun m=>aR m.1)=true∧gU w2 w1.heap.size w1.heap.size ((p.imports.take k).flatMap qA) wr∧(k=0→wr=w2)) (fun q _=>p.imports.length - (intOf q).toNat)
   case atStart=>exact⟨0,Nat.zero_le _,rfl,rfl,by simpa using gU.start QX.out,fun _=>rfl⟩
   case round =>
    obtain⟨k,hkl,rfl,hall,st,hk0⟩:=hrel;have I6:=st.jT.size;have HST:=ah st;have Bf:=ah hall;have QY:=ah hk0;clear st hall hk0
    by_cases hlt:k<p.imports.length
    ·have hH:=HH.out.qw (HST.out.jT.mono (Nat.le_trans hB hz1))
     obtain⟨ib,io,rfl,hiB,hiw,hic⟩:=hH.imps (by omega);obtain⟨x0,x1⟩:=hic k hlt
     have pQ:(k:Int)<(p.imports.length:Int):=by omega
     have hsn:=GD (f:=qA) hlt;have hle:=Rf qA p.imports (k+1)
     have htl:(p.imports.flatMap qA).length≤p.text.length:=by rw[ZP.text,bC];omega
     rw[hsn] at hle;have hnm:=HF2.out _ (List.getElem_mem hlt);have HNO:=ah (fun (q:aR p.imports[k].1=false)=>(show p.right=false by rw[zR.out,Rh (p:=fun m=>aR m.1) hlt q];rfl));have PO:=ah (fun (q:aR p.imports[k].1=true)=>MB (p:=fun m=>aR m.1) hlt Bf.out q);have qm:=ah hsn;clear hic hH hsn Bf QY;generalize p.imports[k]=m at *;generalize (p.imports.take k).flatMap qA=c at *
     have hil:(qA m).length=7+m.1.length+2:=by simp[qA];omega
     have gI:=aj wr (.cells #[.string ⟨m.1.toArray⟩,.int .i64 m.2] 101);have hM:=heap_alloc_new wr (.cells #[.string ⟨m.1.toArray⟩,.int .i64 m.2] 101);have s1:=HST.out.below gI (by omega)
     go_upto_region 7 with fail
     change Code.wp _ _ _ _ (wr.alloc (.cells #[.string ⟨m.1.toArray⟩,.int .i64 m.2] 101));clear x0 x1;have hz3:=gI.size;generalize wr.alloc (.cells #[.string ⟨m.1.toArray⟩,.int .i64 m.2] 101)=w3 at gI hM s1 hz3 ⊢;obtain⟨v0,v1⟩:=yG hM
     have eNz:(ByteArray.mk m.1.toArray).size=m.1.length:=by show m.1.toArray.size=_;simp
     have HP:=ah (kI ⟨m.1.toArray⟩ w3 (by rw[eNz];omega));have eN:(ByteArray.mk m.1.toArray).data.toList=m.1:=rfl;rw[eN] at HP;clear eN;have hM3:=(bQ hM).1
     cases hpl:aR m.1 with
     | false =>
      rw[hpl] at HP;have hbw:=hbw2.trans (s1.jT.mono (by omega:w.heap.size≤w1.heap.size));have hres:=HNO.out hpl;have nX:=ah hres;clear HNO PO HST s1 hM gI hres hpl qm;go_wp2_with (go_at_call 48;refine HP.out.mono ?_;rintro r w4 ⟨rfl,hb4⟩);go_ret2;exact kC.no nX.out (hbw.trans (hb4.mono hbw.size))
     | true =>
      rw[hpl] at HP;have hyes:=PO.out hpl;have HY:=ah hyes;clear HNO PO hyes hpl
      go_upto_region 9 with (go_at_call 48;refine HP.out.mono ?_;rintro r w4 ⟨rfl,hb4⟩)
      have s2:=s1.below hb4 (by omega);obtain⟨v0',v1'⟩:=yG ((hb4.block wr.heap.size hM3).trans hM);have zn:=hb4.size
      have HW:=ah (show Calls _ _ _ _ (bF w1.heap.size w1.heap.size (c++qA m) w4) from (by
       have:=vC ⟨#[105,109,112,111,114,116,32]⟩ ⟨m.1.toArray⟩ ⟨#[59,10]⟩ w1.heap.size w1.heap.size c w4 s2.jZ (by omega) (by rw[eNz];show c.length+7+m.1.length+2≤_;rw[bC,hil] at hle;omega)
       have e:c++qA m=c++((ByteArray.mk #[105,109,112,111,114,116,32]).data.toList++((ByteArray.mk m.1.toArray).data.toList++(ByteArray.mk #[59,10]).data.toList)):=by show c++qA m=c++([105,109,112,111,114,116,32]++(m.1++[59,10]));rw[qA,List.append_assoc]
       rw[e]
       exact this))
      have HS2:=ah s2;clear HP v0 v1 s1 s2 hb4 hM gI HST;go_wp2_with (go_at_call 128;refine HW.out.mono ?_;rintro r w5 h5;obtain rfl:=h5.eq)
      go_roundw
      case rel=>exact⟨k+1,by omega,by go_num,HY.out,by rw[qm.out];exact HS2.out.write h5,fun q=>absurd q (by omega)⟩
      case measure=>simp[intOf];omega
    ·obtain rfl:k=p.imports.length:=by omega
     have pQ:decide ((p.imports.length:Int)<(p.imports.length:Int))=false:=decide_eq_false (by omega);rw[List.take_length] at Bf HST;obtain⟨z0,z1⟩:=dW (HST.out.box QX.out HN2.out (by decide) (by decide))
     have aaH:p.right=p.defs.all ZD.sound:=by rw[zR.out,Bf.out,Bool.true_and]
     have Ri:=ah aaH;clear Bf aaH y0 y1
     obtain⟨wo,rfl⟩:∃ wo:World,wo=wr:=⟨_,rfl⟩
     go_wp2
     go_loopw [41] (fun q wr=>∃ j:Nat,j≤p.defs.length∧q=.int .i64 j∧(p.defs.take j).all ZD.sound=true∧gU w2 w1.heap.size w1.heap.size (p.imports.flatMap qA++(p.defs.take j).flatMap ZD.text) wr∧(j=0→wr=wo)) (fun q _=>p.defs.length - (intOf q).toNat)
     case atStart=>exact⟨0,Nat.zero_le _,rfl,rfl,by simpa using HST.out,fun _=>rfl⟩
     case round =>
      obtain⟨j,hjl,rfl,hall,st,hj0⟩:=hrel;have hzd:=st.jT.size;have Z6:=ah st;have Bf:=ah hall;have HJ0:=ah hj0;clear st hall hj0
      by_cases hlt:j<p.defs.length
      ·have hH:=HH.out.qw (Z6.out.jT.mono (Nat.le_trans hB hz1))
       obtain⟨db,PS,rfl,hdB,hdw,hdc⟩:=hH.defs (by omega);obtain⟨ap,cp,ac,cc,am,wn,cm,ae,ce,hD,hcl⟩:=hdc j hlt
       have Ia:(j:Int)<(p.defs.length:Int):=by omega
       have hsn:=GD (f:=ZD.text) hlt;have hle:=Rf ZD.text p.defs (j+1)
       have htl:(p.imports.flatMap qA).length+(p.defs.flatMap ZD.text).length=p.text.length:=by rw[ZP.text,bC]
       rw[hsn] at hle;have hdf:=HF4.out _ (List.getElem_mem hlt);have HNO:=ah (fun (q:p.defs[j].sound=false)=>(show p.right=false by rw[Ri.out,Rh (p:=ZD.sound) hlt q]));have PO:=ah (fun (q:p.defs[j].sound=true)=>MB (p:=ZD.sound) hlt Bf.out q);have qm:=ah hsn;clear hdc hH hsn Bf HJ0 QY;generalize p.defs[j]=d at *;generalize (p.defs.take j).flatMap ZD.text=c at *;generalize p.imports.flatMap qA=ic at *;have x0:wr.cell? ⟨db,PS+j * 15,none⟩=some (.bool d.pub):=hcl 0 _ rfl;have x1:wr.cell? ⟨db,PS+j * 15+1,none⟩=some (.string ⟨d.res.name.toArray⟩):=hcl 1 _ rfl;have x2:wr.cell? ⟨db,PS+j * 15+2,none⟩=some (.slice ap d.params.length cp):=hcl 2 _ rfl;have x3:wr.cell? ⟨db,PS+j * 15+3,none⟩=some (.int .i64 d.res.base):=hcl 3 _ rfl;have x4:wr.cell? ⟨db,PS+j * 15+4,none⟩=some (.slice ac d.res.clause.length cc):=hcl 4 _ rfl;have x5:wr.cell? ⟨db,PS+j * 15+5,none⟩=some (.int .i64 d.body.op):=hcl 5 _ rfl;have x6:wr.cell? ⟨db,PS+j * 15+6,none⟩=some (.string ⟨d.body.name.toArray⟩):=hcl 6 _ rfl;have x7:wr.cell? ⟨db,PS+j * 15+7,none⟩=some (.string ⟨d.body.module.toArray⟩):=hcl 7 _ rfl;have x8:wr.cell? ⟨db,PS+j * 15+8,none⟩=some (.bool (decide (d.body.num<0))):=hcl 8 _ rfl;have x9:wr.cell? ⟨db,PS+j * 15+9,none⟩=some (.slice am wn cm):=hcl 9 _ rfl;have x10:wr.cell? ⟨db,PS+j * 15+10,none⟩=some (.bool d.body.yes):=hcl 10 _ rfl;have x11:wr.cell? ⟨db,PS+j * 15+11,none⟩=some (.slice ae d.body.kids.length ce):=hcl 11 _ rfl;have x12:wr.cell? ⟨db,PS+j * 15+12,none⟩=some (.int .i64 d.body.at_):=hcl 12 _ rfl;have x13:wr.cell? ⟨db,PS+j * 15+13,none⟩=some (.int .i64 d.res.at_):=hcl 13 _ rfl;have x14:wr.cell? ⟨db,PS+j * 15+14,none⟩=some (.int .i64 d.res.bare):=hcl 14 _ rfl;have gI:=aj wr (.cells (iY d ap cp ac cc am wn cm ae ce) 48);have hM:=heap_alloc_new wr (.cells (iY d ap cp ac cc am wn cm ae ce) 48);have s1:=Z6.out.below gI (by omega);have hD3:=hD.below gI;clear hcl hD
       go_upto_region 14 with fail
       change Code.wp _ _ _ _ (wr.alloc (.cells (iY d ap cp ac cc am wn cm ae ce) 48));clear x0 x1 x2 x3 x4 x5 x6 x7 x8 x9 x10 x11 x12 x13 x14;have hz3:=gI.size
       have adn:wr.heap.size<(wr.alloc (.cells (iY d ap cp ac cc am wn cm ae ce) 48)).heap.size:=by simp
       generalize wr.alloc (.cells (iY d ap cp ac cc am wn cm ae ce) 48)=w3 at gI hM s1 hz3 hD3 adn ⊢;obtain⟨v0,v1,v2,v3,v4,v5,v6,v7,v8,v9,v10,v11,v12,v13,v14⟩:=aS hM;have HSO:=ah (TP d hdf B ap cp ac cc am wn cm ae ce w3 hD3);have hM3:=adn
       cases hso:d.sound with
       | false =>
        rw[hso] at HSO;have hbw:=hbw2.trans (s1.jT.mono (by omega:w.heap.size≤w1.heap.size));have hres:=HNO.out hso;have nX:=ah hres;clear HNO PO HST Z6 s1 hM gI hres hso qm hD3;go_wp2_with (go_at_call 135;refine HSO.out.mono ?_;rintro r w4 ⟨rfl,hb4⟩);go_ret2;exact kC.no nX.out (hbw.trans (hb4.mono hbw.size))
       | true =>
        rw[hso] at HSO;have hyes:=PO.out hso;have HY:=ah hyes;clear HNO PO hyes
        go_upto_region 16 with (go_at_call 135;refine HSO.out.mono ?_;rintro r w4 ⟨rfl,hb4⟩)
        clear v0 v1 v2 v3 v4 v5 v6 v7 v8 v9 v10 v11 v12 v13 v14;have s2:=s1.below hb4 (by omega);obtain⟨v0,v1,v2,v3,v4,v5,v6,v7,v8,v9,v10,v11,v12,v13,v14⟩:=aS ((hb4.block wr.heap.size hM3).trans hM);have zn:=hb4.size;have HW:=ah (Xn d hso hdf B w1.heap.size w1.heap.size ap cp ac cc am wn cm ae ce (ic++c) w4 (hD3.below hb4) (by omega) s2.jZ (by omega) (by rw[bC] at hle ⊢;omega));have HS2:=ah s2;clear HSO s1 s2 hb4 hM gI HST Z6 hD3 hso;go_wp2_with (go_at_call 136;refine HW.out.mono ?_;rintro r w5 h5;obtain rfl:=h5.eq)
        go_roundw
        case rel=>exact⟨j+1,by omega,by go_num,HY.out,by rw[qm.out,← List.append_assoc];exact HS2.out.write h5,fun q=>absurd q (by omega)⟩
        case measure=>simp[intOf];omega
      ·obtain rfl:j=p.defs.length:=by omega
       have Ia:decide ((p.defs.length:Int)<(p.defs.length:Int))=false:=decide_eq_false (by omega);rw[List.take_length] at Bf Z6
       have hres:p.right=true:=by rw[Ri.out,Bf.out]
       have nX:=ah hres;have hbw:=hbw2.trans (Z6.out.jT.mono (by omega:w.heap.size≤w1.heap.size));have hbd:=Z6.out.jZ;have Kn:(⟨w1.heap.size,0,none⟩:Addr).block<wr.heap.size:=hbd.lt;have hpt:p.imports.flatMap qA++p.defs.flatMap ZD.text=p.text:=rfl;rw[hpt] at hbd
       by_cases he:0<p.imports.length∨0<p.defs.length
       ·have HS:=ah (Xd w1.heap.size w1.heap.size p.text wr hbd (ZP.QZ he))
        clear hbd Bf Z6 HST hres hpt he Ri zR QY HJ0;go_wp2_with (go_at_call 77;refine HS.out.mono ?_;rintro r w5 ⟨rfl,hb5⟩);go_ret2;exact kC.yes nX.out (hbw.trans (hb5.mono (by omega)))
       ·have hi0:p.imports.length=0:=by omega
        have hd0:p.defs.length=0:=by omega
        obtain rfl:=HJ0.out hd0;obtain rfl:=QY.out hi0
        have htx:p.text=[]:=by rw[ZP.text,List.eq_nil_of_length_eq_zero hi0,List.eq_nil_of_length_eq_zero hd0];rfl
        have Nk:=ah htx;have HS:=ah (Jb w1.heap.size _ HFR.out);clear hbd Bf Z6 HST hres hpt he Ri zR QY HJ0 hi0 hd0 htx;go_wp2_with (go_at_call 77;refine HS.out.mono ?_;rintro r w5 ⟨rfl,hb5⟩);go_ret2;have:=kC.yes (p:=p) nX.out (hbw.trans (hb5.mono hbw.size));rw[Nk.out] at this;exact this
  ·have hres:p.right=false:=by rw[ZP.right,decide_eq_false h64];simp
   have nX:=ah hres
   have adl:(p.imports.length:Int)≤16:=by omega
   have aeF:(64:Int)<(p.defs.length:Int):=by omega
   clear h hres f2 f4 h16 h64;go_enter Tryz.func81,Tryz.ntmps81
   go_upto_region 1 with fail
   change Code.wp _ _ _ _ (w.alloc (.cells #[.slice ai p.imports.length ci,.slice ad p.defs.length cd] 38));generalize w.alloc (.cells #[.slice ai p.imports.length ci,.slice ad p.defs.length cd] 38)=w1 at hal hN ⊢;obtain⟨y0,y1⟩:=dW hN;go_wp2;go_ret2;exact kC.no nX.out hal
 ·have hres:p.right=false:=by rw[ZP.right,decide_eq_false h16];rfl
  have nX:=ah hres
  have adl:(16:Int)<(p.imports.length:Int):=by omega
  clear h hres f2 f4 h16;go_enter Tryz.func81,Tryz.ntmps81
  go_upto_region 1 with fail
  change Code.wp _ _ _ _ (w.alloc (.cells #[.slice ai p.imports.length ci,.slice ad p.defs.length cd] 38));generalize w.alloc (.cells #[.slice ai p.imports.length ci,.slice ad p.defs.length cd] 38)=w1 at hal hN ⊢;obtain⟨y0,y1⟩:=dW hN;go_wp2;go_ret2;exact kC.no nX.out hal
end Go.Proofs.YtknicmmigbhpcaaGreatDoor
