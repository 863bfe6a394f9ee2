/- Walks and plain laws: RParamW, OwnQ, FofLaws, ProgLaws, RDefL, SetAt, RDefW. -/
import Derived.Test.YtmhdgeekclhbbaaGreatDoorR17
import Derived.IntWalk
set_option maxHeartbeats 16000000
set_option maxRecDepth 100000
set_option linter.unusedVariables false
set_option linter.unusedSimpArgs false
namespace Go.Proofs.YtmhdgeekclhbbaaGreatDoor
open Go.RowKit Go
def RU (f:FF)(w:World)(e:Ending)(w':World):Prop:=∃ ao cap,e=.returned (.agg #[.string ⟨f.name.toArray⟩,.int .i64 f.base,.slice ao f.aC.length cap,.int .i64 f.at_,.int .i64 f.bare])∧RowK (EK XA) (fun b=>w.heap.size≤b) w' (.slice ao f.aC.length cap) f.aC∧Below w.heap.size w w'
theorem BL {w:World}{b:Nat}{c0 c1 c2 c3 c4:Value}(h:w.heap[b]?=some (.cells #[c0,c1,c2,c3,c4] 68 (0,0))):w.cell? ⟨b,0,none⟩=some c0∧w.cell? ⟨b,1,none⟩=some c1∧w.cell? ⟨b,2,none⟩=some c2∧w.cell? ⟨b,3,none⟩=some c3∧w.cell? ⟨b,4,none⟩=some c4∧∀ j,w.frozen? ⟨b,j,none⟩=false:=by
 refine⟨?_,?_,?_,?_,?_,fun j=>by simp[World.frozen?,h]⟩<;>(rw[aV h];rfl)
theorem RV (B:Nat)(tv nv:Value)(ah:List Tok)(aj:List Nd)(i kd:Nat)(ks:List Int)(w:World)(h:aZ B w (.agg #[tv,nv]) ah aj)(hB:B≤w.heap.size)(hn:aj[i]?=some ⟨(kd:Nat),-1,ks⟩)
  (k0 u0:Nat) (hq0:ks[0]?=some (k0:Int)) (hl0:aj[k0]?=some ⟨19,(u0:Nat),[]⟩) (hu0:u0<ah.length) (a:Zl)
  (hA:∀ W:World,aZ B W (.agg #[tv,nv]) ah aj→B≤W.heap.size→Calls Tryz.prog 106 #[.agg #[tv,nv],.int .i64 i] W (KV a W)) :
  Calls Tryz.prog 107 #[.agg #[tv,nv],.int .i64 i] w (RU ⟨aN ah u0,a.base,a.aC,dS ah u0,a.bare⟩ w):=by
 have hK:=fun W hT hW=>kF B tv nv ah aj k0 u0 W hT hW hl0 hu0
 have htk:ah[u0]=dh ah u0:=by have:=jC hu0;rw[yV hu0] at this;exact kR this
 rw[htk] at hK;unfold pQ dJ at hK;unfold aN dS;generalize dh ah u0=t at hK ⊢;obtain⟨tk,tl,tt,tp⟩:=t;simp only at hK ⊢;have HK:=ay hK;have HA:=ay hA;obtain⟨hp0,Zx⟩:=pJ hq0;obtain⟨hi,hni⟩:=pJ hn;have HT:=ay h;obtain⟨a1,c1,_,_,e⟩:=h.slices;obtain⟨b,off,cap,kv,rfl,hb,x0,x1,x2,hkv⟩:=h.node hi
 obtain⟨rfl,-⟩:tv=.slice a1 ah.length c1∧_:=by simpa using e
 rw[hni] at hkv;simp only at hkv;obtain⟨ak,ck,rfl,_,xS⟩:=hkv.form;obtain⟨bk,ok,rfl,hbk,hkc⟩:=xS (by omega);have hz:=hkc 0 hp0;rw[Zx,Nat.add_zero] at hz;clear e hkv xS hkc hn hni x0 x1 hK htk hA hl0 Zx;have cB:=((bI w.heap.size w).alloc (bD _) (.cells #[.slice a1 ah.length c1,.slice (some ⟨b,off,none⟩) aj.length cap] 126)).alloc (by simp) (.cells #[.string ⟨#[]⟩,.int .i64 0,.slice none 0 0,.int .i64 0,.int .i64 0] 68);have X2:=iW cB x2;have Z2:=iW cB hz;have g0:=(gY _ (.cells #[.string ⟨#[]⟩,.int .i64 0,.slice none 0 0,.int .i64 0,.int .i64 0] 68) w.heap.size (by simp)).trans (aY w (.cells #[.slice a1 ah.length c1,.slice (some ⟨b,off,none⟩) aj.length cap] 126));have g1:=aY (w.alloc (.cells #[.slice a1 ah.length c1,.slice (some ⟨b,off,none⟩) aj.length cap] 126)) (.cells #[.string ⟨#[]⟩,.int .i64 0,.slice none 0 0,.int .i64 0,.int .i64 0] 68);rw[oP] at g1
 have hiI:(i:Int)<(aj.length:Int):=by omega
 have agv:(0:Int)<(ks.length:Int):=by omega
 clear h x2 hz;go_enter Tryz.func107,Tryz.ntmps107
 go_upto_region 1 with (fail)
 generalize (w.alloc _).alloc _=w2 at g0 g1 cB X2 Z2 ⊢;obtain⟨r0,r1⟩:=lH g0;have hz2:=cB.size;have Zq:=ay (fun W (hb:Below w2.heap.size w2 W)=>(HK.out W (HT.out.below ((cB.trans (hb.mono hz2)).mono hB)) (by have:=hb.size;omega)).mono (R':=fun e w'=>e=.returned (.agg #[.int .i64 tk,.string ⟨tl.toArray⟩,.string ⟨tt.toArray⟩,.int .i64 tp])∧Below w2.heap.size w2 w'∧Below W.heap.size W w') fun e w' h=>⟨h.1,hb.trans (h.2.mono hb.size),h.2⟩);have hlt2:w.heap.size+1<w2.heap.size:=(bS g1).1
 go_cut [5] (fun p wc=>∃ X:Nat,p=.pointer (some ⟨X,0,none⟩)∧wc.heap[X]?=some (.cells #[.int .i64 tk,.string ⟨tl.toArray⟩,.string ⟨tt.toArray⟩,.int .i64 tp] 131 (0,0))∧Below w2.heap.size w2 wc)
 case first =>
  go_region_held3 (fun w'=>w'.cell? ⟨w.heap.size,0,none⟩=some (.slice a1 ah.length c1)∧w'.cell? ⟨w.heap.size,1,none⟩=some (.slice (some ⟨b,off,none⟩) aj.length cap)∧w'.cell? ⟨b,off+i * 3+2,none⟩=some (.slice (some ⟨bk,ok,none⟩) ks.length ck)∧w'.cell? ⟨bk,ok,none⟩=some (.int .i64 k0))
   (first|go_keep|exact p3|exact⟨(bX w3 w2.heap.size _ _ _ _ (by omega)).trans p3.1,(bX w3 w2.heap.size _ _ _ _ (by omega)).trans p3.2.1,(bX w3 w2.heap.size _ _ _ _ (by omega)).trans p3.2.2.1,(bX w3 w2.heap.size _ _ _ _ (by omega)).trans p3.2.2.2⟩)
   (first|(go_at_call 61;refine(Zq.out _ ?_).mono ?_;(first|exact(bI _ _).drew|exact((bI _ _).alloc (bD _) _).drew);rintro e w3 ⟨rfl,hq3,hb3⟩;have p3:=And.intro (iW hq3 r0) (And.intro (iW hq3 r1) (And.intro (iW hq3 X2) (iW hq3 Z2)));try (have FT:=(hb3.block w2.heap.size (by simp)).trans (aY w2 (.cells #[.int .i64 0,.string ⟨#[]⟩,.string ⟨#[]⟩,.int .i64 0] 131));obtain⟨Zr,Zt,Zu,Zv,Zw⟩:=oI FT)))
  ·clear r0 r1 X2 Z2 p3
   go_wp2_with fail
   go_meet
   exact⟨w3.heap.size,rfl,aY _ _,hq3.alloc hq3.size _⟩
  ·obtain⟨S3,So,_⟩:=yH FT (.int .i64 tk) (.string ⟨tl.toArray⟩) (.string ⟨tt.toArray⟩) (.int .i64 tp)
   clear r0 r1 X2 Z2 p3 Zr Zt Zu Zv Zw;go_wp2_with fail
   go_meet
   exact⟨w2.heap.size,rfl,S3,(((hq3.setCell (bD _) _).setCell (bD _) _).setCell (bD _) _).setCell (bD _) _⟩
 case rest =>
  obtain⟨X,rfl,hX,hbc⟩:=hcut
  obtain⟨w4,rfl⟩:∃ w4:World,w4=wc:=⟨_,rfl⟩
  have G0:=(hbc.block w.heap.size (by omega)).trans g0;have G1:=(hbc.block (w.heap.size+1) hlt2).trans g1;have hb4:Below w.heap.size w w4:=cB.trans (hbc.mono hz2);have zF:=hbc.size;obtain⟨f2,f3⟩:=uN hX;clear g0 g1 cB X2 Z2 r0 r1 HK Zq hbc hX
  go_upto_region 3 with fail
  have OL:=aB w4 (.cells #[.string ⟨tt.toArray⟩,.int .i64 0,.slice none 0 0,.int .i64 tp,.int .i64 0] 68);have P5:=aY w4 (.cells #[.string ⟨tt.toArray⟩,.int .i64 0,.slice none 0 0,.int .i64 tp,.int .i64 0] 68);have H0:=(OL.block w.heap.size (by omega)).trans G0;have H1:=(OL.block (w.heap.size+1) (by omega)).trans G1;have hb5:=hb4.trans (OL.mono hb4.size);have SH:=OL.size;clear G0 G1 OL hb4 f2 f3;generalize hpb:w4.heap.size=pb at P5 zF SH ⊢;generalize w4.alloc _=w5 at P5 H0 H1 hb5 SH ⊢;obtain⟨r0,r1⟩:=lH H0;have HAW:=ay (HA.out w5 (HT.out.below (hb5.mono hB)) (jc hB hb5.size));go_wp2_with (go_at_call 106;refine HAW.out.mono ?_);rintro e w6 ⟨ao,cc,rfl,hrow,hb6⟩;have Q5:=(hb6.block pb (bS P5).1).trans P5;have Q1:=(hb6.block (w.heap.size+1) (bS H1).1).trans H1
  have hne:w.heap.size+1≠pb:=by omega
  have uG:=(bS P5).1;obtain⟨q0,q1,q2,q3,q4,qz⟩:=BL Q5;have V6:Below w.heap.size w w6:=hb5.trans (hb6.mono hb5.size);clear r0 r1 HAW P5 H0 H1
  go_upto_region 4 with fail
  have T1:=heap_setCell_same w6 pb 1 _ _ (.int .i64 a.base) Q5;have T2:=heap_setCell_same _ pb 2 _ _ (.slice ao a.aC.length cc) T1;have T3:=heap_setCell_same _ pb 4 _ _ (.int .i64 a.bare) T2
  have U3:(((w6.setCell ⟨pb,1,none⟩ (.int .i64 a.base)).setCell ⟨pb,2,none⟩ (.slice ao a.aC.length cc)).setCell ⟨pb,4,none⟩ (.int .i64 a.bare)).heap[w.heap.size+1]?=some (.cells #[.string ⟨#[]⟩,.int .i64 0,.slice none 0 0,.int .i64 0,.int .i64 0] 68 (0,0)):=by
   rw[heap_setCell_other _ _ _ _ hne,heap_setCell_other _ _ _ _ hne,heap_setCell_other _ _ _ _ hne];exact Q1
  have hle:w.heap.size≤pb:=by omega
  have KO:Below w.heap.size w (((w6.setCell ⟨pb,1,none⟩ (.int .i64 a.base)).setCell ⟨pb,2,none⟩ (.slice ao a.aC.length cc)).setCell ⟨pb,4,none⟩ (.int .i64 a.bare)):=((V6.setCell hle _).setCell hle _).setCell hle _
  have hs:∀ (W:World) (j:Nat) (u:Value),aW (fun b=>w5.heap.size≤b) W (W.setCell ⟨pb,j,none⟩ u):=fun W j u=>aW.set u fun b hb=>by show b≠pb;omega
  have acz:=hrow.frame (((hs w6 1 (.int .i64 a.base)).trans (hs _ 2 (.slice ao a.aC.length cc))).trans (hs _ 4 (.int .i64 a.bare)));have T4:(((w6.setCell ⟨pb,1,none⟩ (.int .i64 a.base)).setCell ⟨pb,2,none⟩ (.slice ao a.aC.length cc)).setCell ⟨pb,4,none⟩ (.int .i64 a.bare)).heap[pb]?=some (.cells #[.string ⟨tt.toArray⟩,.int .i64 a.base,.slice ao a.aC.length cc,.int .i64 tp,.int .i64 a.bare] 68 (0,0)):=T3;clear T1 T2 T3 Q5 Q1 q0 q1 q2 q3 q4 qz hrow V6 hb6 hs;generalize ((w6.setCell _ _).setCell _ _).setCell _ _=w7 at T4 U3 KO acz ⊢;obtain⟨q0,q1,q2,q3,q4,qz⟩:=BL T4;obtain⟨s0,s1,s2,s3,s4,sz⟩:=BL U3;go_wp2;refine bodyPost_ret (v:=.agg #[.string ⟨tt.toArray⟩,.int .i64 a.base,.slice ao a.aC.length cc,.int .i64 tp,.int .i64 a.bare]) (by simp[results,Tryz.results107,go_sem,s0,s1,s2,s3,s4]) rfl ⟨ao,cc,rfl,?_,?_⟩
  ·have hs2:∀ (W:World) (j:Nat) (u:Value),aW (fun b=>w5.heap.size≤b) W (W.setCell ⟨w.heap.size+1,j,none⟩ u):=fun W j u=>aW.set u fun b hb=>by show b≠w.heap.size+1;omega
   exact(acz.frame (((((hs2 _ _ _).trans (hs2 _ _ _)).trans (hs2 _ _ _)).trans (hs2 _ _ _)).trans (hs2 _ _ _))).imp fun b hb _=>by omega
  ·exact((((KO.setCell (by simp) _).setCell (by simp) _).setCell (by simp) _).setCell (by simp) _).setCell (by simp) _
def oJ {α β:Type}(K:RK α β)(Q:Nat→Prop)(C e:Nat)(w:World)(v:Value)(zs:List α):Prop :=
 ∃ l:List (α × β),l.map Prod.fst=zs∧w.ownsRow C e K.sz v zs.length (K.flat l)∧∀ p∈l,K.inn (fun b=>Q b∧some b≠v.ownBlock) w p.1 p.2
section
variable {α β:Type}
theorem oJ.nil (K:RK α β)(Q:Nat→Prop)(C e:Nat)(w:World):oJ K Q C e w (.slice none 0 0) []:=⟨[],rfl,World.ownsRow_nil _ _ _ _,fun p hp=>by cases hp⟩
theorem oJ.below {K:RK α β}{Q:Nat→Prop}{C e:Nat}{w w':World}{v:Value}{zs:List α}(h:oJ K Q C e w v zs)(hb:Below w.heap.size w w'):oJ K Q C e w' v zs:=by
 obtain⟨l,h1,h2,h3⟩:=h;exact⟨l,h1,own_below h2 hb,fun p hp=>K.frame (h3 p hp) (aW.of hb)⟩
theorem oJ.set {K:RK α β}{Q:Nat→Prop}{C e:Nat}{w:World}{v:Value}{zs:List α}(h:oJ K Q C e w v zs){a:Addr}(ha:a.block<C)(hq:¬ Q a.block)(u:Value):oJ K Q C e (w.setCell a u) v zs:=by
 obtain⟨l,h1,h2,h3⟩:=h;refine⟨l,h1,iP h2 (fun q=>?_) u,fun p hp=>K.frame (h3 p hp) (aW.set u fun b hb=>fun q=>hq (by rw[← q];exact hb.1))⟩;have:=(h2.lt a.block q.symm).1;omega
theorem oJ.row {K:RK α β}{Q R:Nat→Prop}{C e:Nat}{w:World}{v:Value}{zs:List α}(h:oJ K Q C e w v zs)(hR:∀ b,C≤b→R b)(hQ:∀ b,Q b→b<w.heap.size→R b):RowK K R w v zs:=by
 obtain⟨l,h1,h2,h3⟩:=h;exact⟨l,h1,nV.fZ h2 hR,fun p hp=>K.imp (h3 p hp) fun b hb hl=>hQ b hb.1 hl⟩
theorem oJ.slice {K:RK α β}{Q:Nat→Prop}{C e:Nat}{w:World}{v:Value}{zs:List α}(h:oJ K Q C e w v zs):∃ ao cap,v=.slice ao zs.length cap :=
 (h.row (R:=fun _=>True) (fun _ _=>trivial) (fun _ _ _=>trivial)).slice
theorem oJ.snoc {K:RK α β}{Q:Nat→Prop}{C e:Nat}{w w':World}{kv kv':Value}{zs:List α}{a:α}{x:β}{g H:Nat}{l:List (α × β)}(h1:l.map Prod.fst=zs)(h2:∀ p∈l,K.inn (fun b=>Q b∧some b≠kv.ownBlock) w p.1 p.2)(hx:K.inn (fun b=>Q b∧some b≠kv.ownBlock) w a x)
  (hown:w'.ownsRow C e K.sz kv' (zs.length+1) (K.flat l++K.cells a x)) (hgrow:w.grownBy w' kv.ownBlock) (hv:kv'.ownBlock=some g) (hor:kv.ownBlock=some g∨g=H) (hH:w.heap.size≤H):oJ K Q C e w' kv' (zs++[a]):=by
 have himp:∀ b,(Q b∧some b≠kv.ownBlock)→b<w.heap.size→((Q b∧some b≠kv'.ownBlock)∧some b≠kv.ownBlock):=fun b hb hlt=>by
  refine⟨⟨hb.1,fun q=>?_⟩,hb.2⟩;rw[hv] at q;simp only[Option.some.injEq] at q
  rcases hor with h|h
  ·exact hb.2 (by rw[h,q])
  ·omega
 have hall:∀ {a:α} {x:β},K.inn (fun b=>Q b∧some b≠kv.ownBlock) w a x→K.inn (fun b=>Q b∧some b≠kv'.ownBlock) w' a x:=fun h =>
  K.imp (K.frame (K.imp h himp) (aW.grown hgrow fun b hb=>hb.2)) fun b hb _=>hb.1
 refine⟨l++[(a,x)],by rw[List.map_append,h1];rfl,?_,fun p hp=>?_⟩
 ·rw[K.I8,bN,List.length_singleton];exact hown
 ·rcases List.mem_append.1 hp with hp|hp
  ·exact hall (h2 p hp)
  ·rw[List.mem_singleton] at hp
   subst hp;exact hall hx
theorem oJ.round {K:RK α β}{Q:Nat→Prop}{e be:Nat}{w1 wr W2 w5:World}{o:Obj}{kv UU:Value}{acc:List α}{a:α}{x:β}{l:List (α × β)}{gg:Nat}(fF:aW (fun b=>b<w1.heap.size∧b≠be) w1 wr)(hbe:be<w1.heap.size)(hQ:¬ Q be)
  (h1:l.map Prod.fst=acc) (hown:wr.ownsRow w1.heap.size e K.sz kv acc.length (K.flat l)) (hes:∀ p∈l,K.inn (fun b=>Q b∧some b≠kv.ownBlock) wr p.1 p.2) (hx:K.inn (fun b=>Q b∧some b≠kv.ownBlock) W2 a x) (hb2:Below wr.heap.size wr W2)
  (gq:w5.ownsRow w1.heap.size e K.sz UU (acc.length+1) (K.flat l++K.cells a x)) (hgrow:(W2.alloc o).grownBy w5 kv.ownBlock) (hv5:UU.ownBlock=some gg) (hat:kv.ownBlock=some gg∨gg=W2.heap.size+1) (off:Nat) (u:Value) :
  oJ K Q w1.heap.size e (w5.setCell ⟨be,off,none⟩ u) UU (acc++[a])∧aW (fun b=>b<w1.heap.size∧b≠be) w1 (w5.setCell ⟨be,off,none⟩ u)∧∀ (B:Nat) (w0:World),B≤be→Below B w0 wr→Below B w0 (w5.setCell ⟨be,off,none⟩ u):=by
 have hz1:=fF.1;have hz2:=hb2.size;have hb3:Below wr.heap.size wr (W2.alloc o):=hb2.alloc hz2 _
 have hlt:∀ b,some b=kv.ownBlock→w1.heap.size≤b∧b<wr.heap.size:=fun b q=>⟨(hown.lt b q.symm).1,(hown.lt b q.symm).2⟩
 have hx2:K.inn (fun b=>Q b∧some b≠kv.ownBlock) (W2.alloc o) a x:=K.frame hx ⟨by simp,fun b _ hb=>gY _ _ _ hb⟩;have hrow:=oJ.snoc (K:=K) (w:=W2.alloc o) h1 (fun p hp=>K.frame (hes p hp) (aW.of hb3)) hx2 gq hgrow hv5 hat (by simp);refine⟨hrow.set hbe hQ u,?_,fun B w0 hB hb0=>?_⟩
 ·refine((fF.trans (aW.ru hb3 fun b hb=>by omega)).trans (aW.grown hgrow fun b hb q=>?_)).trans (aW.set u fun b hb=>hb.2)
  have:=(hlt b q).1;omega
 ·have hsz:=hb0.size
  exact((hb0.trans (hb3.mono (by omega))).grown hgrow (by simp;omega) (fun b q=>by have:=(hlt b q.symm).1;omega)).setCell hB _
end
end Go.Proofs.YtmhdgeekclhbbaaGreatDoor

namespace Go.Proofs.YtmhdgeekclhbbaaGreatDoor
theorem FY {S:List UInt8}{ah:List Tok}(h:bO S=.ok ah)(u:Nat):(aN ah u).length≤S.length:=by
 have hL:=iL h;have hm:=wu hL.some u;obtain⟨i,hi,e⟩:=List.mem_iff_getElem.1 hm;have h1:=congrArg List.length (hL.text i hi);rw[qZ,List.length_drop] at h1;unfold aN;rw[← e];omega
structure ahf (S:List UInt8) (ah:List Tok) (aj:List Nd) (ce:CE):Prop where
 small:S.length≤65536
 TL:bO S=.ok ah
 FZ:aj=(Yf ce).em 0 0
 okk:ce.ok ah true 0
 lv:ce.pt.lv+1=ah.length
 good:Cw ah aj ((Yf ce).dump ah 0)
 whole:iy ah=S
 deep:aez S 200=.good ah aj
 fits:(ce.pe ah 0).fits 65536
 told:(ce.pe ah 0).told
 few:(ce.pe ah 0).j5≤200000
theorem OO {S:List UInt8}{ah:List Tok}{aj:List Nd}{t:PT}(hl:bO S=.ok ah)(he:aj=t.em 0 0)(hw:t.wf)(hlv:t.lv=ah.length)(hn:aj.length≤2 * ah.length+2):Cw ah aj (t.dump ah 0):=by
 have hs:S.length≤65536:=by
  unfold bO at hl
  split at hl
  ·cases hl
  ·omega
 have hL:=iL hl;have hc:=hL.count
 have hnd:aj.length=t.nd:=by rw[he,PT.uq]
 have hnp:=t.gZ
 have hM:∀ u,(aN ah u).length≤65536:=fun u=>jc (FY hl u) hs
 have hdl:=tF hM t 0 hw;refine⟨by omega,by omega,fun n hm=>?_,by omega,?_,?_,?_,?_,fun n hm=>?_,fun n hm h19=>?_⟩
 ·rw[he] at hm
  have:=J9 _ _ _ n hm;omega
 ·rw[he];exact Xf _ hw _ hlv
 ·rw[hnd,he,Uj _ hw (by omega),hlv]
 ·rw[hnd,he];exact aaY ah _ hw (by omega)
 ·have:t.nd * (65536+16)≤200000 * (65536+16):=Nat.mul_le_mul_right _ (by omega)
  omega
 ·rw[he] at hm
  exact(EM _ _ _ hw n hm).1
 ·rw[he] at hm
  have:=(EM _ _ _ hw n hm).2 h19;omega
structure nY (S:List UInt8) (ah:List Tok) (aj:List Nd) (p:kW):Prop where
 small:S.length≤65536
 TL:bO S=.ok ah
 FZ:aj=p.pt.em 0 0
 okk:p.ok ah
 lv:p.pt.lv=ah.length
 count:ah.length≤S.length+1
 nd:p.pt.nd≤2 * ah.length
 good:Cw ah aj (p.pt.dump ah 0)
 whole:iy ah=S
 deep:je S 200=.good ah aj
 fits:(p.pp ah).all (PE.fits (S.length+1))
 told:(p.pp ah).all PE.told
 few:(p.pp ah).all fun e=>e.j5≤p.pt.nd
 Zz:(p.pp ah).small (S.length+1)
theorem F3 {S:List UInt8}{d:Nat}{ah:List Tok}{aj:List Nd}(hd:d≤200)(h:je S d=.good ah aj):∃ p,nY S ah aj p∧p.marks ah:=by
 obtain⟨hl,p,he,hok,hlv,hn,hmk⟩:=QS h
 have hs:S.length≤65536:=by
  unfold bO at hl
  split at hl
  ·cases hl
  ·omega
 have hL:=iL hl
 have hM:∀ u,(aN ah u).length≤S.length+1:=fun u=>Nat.le_succ_of_le (FY hl u)
 have hN:=rZ hl
 have hnd:aj.length=p.pt.nd:=by rw[he,PT.uq]
 refine⟨p,⟨hs,hl,he,hok,hlv,hL.count,by omega,OO hl he p.wf hlv (by omega),hL.MQ,zQ hd h,kW.Bf (fun cl e u ho _=>CE.fits hL.some hN hM (by omega) e u ho) hok,kW.Bf (fun cl e u ho _=>CE.told (xL hl) e u ho) hok,kW.Bf (fun cl e u ho hn=>jc (CE.iC ah e u) hn) hok,kW.NP hM hok⟩,hmk⟩
theorem V7 {S:List UInt8}{d:Nat}{ah:List Tok}{aj:List Nd}(hd:d≤200)(h:je S d=.good ah aj):∃ p,nY S ah aj p:=(F3 hd h).imp fun _ q=>q.1
theorem PP.TM {P Q R T:PE→Prop}{p:PP}(h1:p.all P)(h2:p.all Q)(h3:p.all R)(h:∀ e,P e→Q e→R e→T e):p.all T:=fun d hd =>
 ⟨fun f hf e he=>h e ((h1 d hd).1 f hf e he) ((h2 d hd).1 f hf e he) ((h3 d hd).1 f hf e he),fun e he=>h e ((h1 d hd).2.1 e he) ((h2 d hd).2.1 e he) ((h3 d hd).2.1 e he),h _ (h1 d hd).2.2 (h2 d hd).2.2 (h3 d hd).2.2⟩
theorem nY.dumps {S:List UInt8}{ah:List Tok}{aj:List Nd}{p:kW}(h:nY S ah aj p)(hs:S.length≤1500):(p.pp ah).all (EY 20000000):=by
 refine PP.TM h.fits h.told h.few fun e h1 h2 h3=>?_
 have h4:=I6 e h1;rw[PE.jU h2] at h4;have h5:=h.nd;have h6:=h.count;have h7:e.j5 * (3 * (S.length+1)+30)≤3002 * (3 * (S.length+1)+30):=Nat.mul_le_mul_right _ (by omega);unfold EY;omega
theorem nY.zT {S:List UInt8}{ah:List Tok}{aj:List Nd}{p:kW}(h:nY S ah aj p)(hs:S.length≤1500):(p.pp ah).dump.length≤20000000000:=by
 obtain⟨K,hK⟩:∃ K,K=20000000:=⟨_,rfl⟩
 have hd:=h.dumps hs;rw[← hK] at hd;have:=PP.zT h.Zz hd;clear hd;generalize (p.pp ah).dump.length=n at this ⊢;generalize S.length=m at *;subst hK;exact jc this (by omega)
end Go.Proofs.YtmhdgeekclhbbaaGreatDoor

namespace Go.Proofs.YtmhdgeekclhbbaaGreatDoor
open Go.RowKit Go
theorem kP:∀ (a b:List It) (u:Nat),dV u (a++b)=dV u a++dV (u+bU (a.map It.pt)) b
 | [],b,u=>by simp[dV,bU]
 | i :: a,b,u=>by rw[jN,dV,kP a b,dV,List.map_cons,bU,Nat.add_assoc,jN]
theorem Aj:∀ (l:List It) (u:Nat) (p:It × Nat),p∈dV u l→p.1∈l
 | [],u,p,h=>by cases h
 | i :: l,u,p,h=>by
  rw[dV,List.mem_cons] at h
  rcases h with rfl|h
  ·exact vB
  ·exact wM _ (Aj l _ p h)
def It.Jr (ah:List Tok)(v:Nat):It→List FF
 | .par t=>[t.wB ah v]
 | _=>[]
theorem F6 (ah:List Tok)(u:Nat)(i:It):fU ah u [i]=i.Jr ah u:=by
 cases i with
 | par t=>rw[fU,fU];rfl
 | leaf=>rw[fU,fU];rfl;simp
 | base=>rw[fU,fU];rfl;simp
 | expr e=>rw[fU,fU];rfl;simp
 | cl e=>rw[fU,fU];rfl;simp
theorem F7 (ah:List Tok):∀ (l:List It) (u:Nat) (j:Nat) (h:j<(dV u l).length),fU ah u (l.take (j+1))=fU ah u (l.take j)++(dV u l)[j].1.Jr ah (dV u l)[j].2
 | [],u,j,h=>absurd h (by simp[dV])
 | i :: l,u,0,h=>by
  rw[List.take_zero,List.take_succ_cons,List.take_zero,F6];simp[fU,dV]
 | i :: l,u,j+1,h=>by
  have:=F7 ah l (u+i.pt.lv) j (by simpa [dV] using h)
  have h1:∀ k:List It,fU ah u (i :: k)=i.Jr ah u++fU ah (u+i.pt.lv) k:=fun k=>by
   have:=gV ah [i] k u;rw[F6] at this
   simpa [bU] using this
  rw[List.take_succ_cons,List.take_succ_cons,h1,h1,this,nQ];simp only[dV,List.getElem_cons_succ]
theorem F8 (ah:List Tok):∀ (l:List It) (u:Nat),(fU ah u l).length≤l.length
 | [],u=>by rw[fU];exact bD _
 | i :: l,u=>by
  have h1:=F8 ah l (u+i.pt.lv);have h2:=gV ah [i] l u
  have h3:(i.Jr ah u).length≤1:=by cases i<;>simp[It.Jr]
  rw[F6] at h2;rw[show i :: l=[i]++l from rfl,h2,bN,bN];simp only[List.map_cons,List.map_nil,bU,Nat.add_zero,dR,gX] at h1 ⊢;omega
theorem dU.KW (d:dU):bU (d.fV.map It.pt)=bU d.lead:=by unfold dU.fV dU.lead;split<;>rfl
theorem dU.ZA (d:dU)(u:Nat):∃ pre,d.its=pre++[.expr d.body,.leaf]∧u+bU (pre.map It.pt)=d.at3 u:=by
 refine⟨d.fV++([.leaf,.leaf,.leaf]++(gy d.lg++([.leaf]++(d.ty.its++[.leaf])))),by simp[dU.its],?_⟩;simp only[List.map_append,iY,d.KW,tX,d.ty.FN,List.map_cons,List.map_nil,It.pt,bU,PT.lv,dU.at3,dU.at2,dU.EL];omega
theorem dU.adE (d:dU)(u:Nat):∃ pre post,d.its=pre++(d.ty.its++post)∧u+bU (pre.map It.pt)=d.at2 u∧(∀ i∈pre++post,(i matches .leaf)∨(i matches .par _)∨(i matches .expr _)):=by
 refine⟨d.fV++([.leaf,.leaf,.leaf]++(gy d.lg++[.leaf])),[.leaf,.expr d.body,.leaf],by simp[dU.its],?_,?_⟩
 ·simp only[List.map_append,iY,d.KW,tX,List.map_cons,List.map_nil,It.pt,bU,PT.lv,dU.at2,dU.EL]
  omega
 ·intro i hi
  simp only[List.mem_append,List.mem_cons,List.not_mem_nil,or_false] at hi
  rcases hi with (hi|(hi|hi|hi)|hi|hi)|hi|hi|hi
  ·unfold dU.fV at hi
   split at hi
   ·rw[List.mem_singleton] at hi;subst hi;exact .inl rfl
   ·cases hi
  ·subst hi;exact .inl rfl
  ·subst hi;exact .inl rfl
  ·subst hi;exact .inl rfl
  ·exact FP _ _ hi
  ·subst hi;exact .inl rfl
  ·subst hi;exact .inl rfl
  ·subst hi;exact .inr (.inr rfl)
  ·subst hi;exact .inl rfl
theorem dU.ZB (d:dU)(u:Nat)(p:It × Nat)(h:p∈dV u d.its)(hp:p.1.plain=false):p∈dV (d.at2 u) d.ty.its:=by
 obtain⟨pre,post,e,hl,hn⟩:=d.adE u
 have hno:∀ q:It × Nat,q.1∈pre++post→q.1.plain=true:=fun q hq=>by
  rcases hn _ hq with h|h|h<;>(generalize q.1=x at h ⊢;cases x<;>simp_all [It.plain])
 rw[e,kP,kP,hl,List.mem_append,List.mem_append] at h
 rcases h with h|h|h
 ·have:=hno p (List.mem_append_left _ (Aj _ _ _ h));rw[hp] at this;cases this
 ·exact h
 ·have:=hno p (List.mem_append_right _ (Aj _ _ _ h));rw[hp] at this;cases this
theorem gB.OP {ah:List Tok}{t:gB}{u:Nat}(h:t.ok ah u)(v:Nat)(hv:(It.base,v)∈dV u t.its):aN ah v∈[QH,zO]:=by
 unfold gB.its at hv;have h1:=h.1
 cases hc:t.cl with
 | none =>
  rw[hc] at hv;simp only[List.append_nil,dV,It.pt,PT.lv,List.mem_cons,Prod.mk.injEq,reduceCtorEq,false_and,true_and,List.not_mem_nil,or_false,false_or] at hv;subst hv;exact h1
 | some e =>
  rw[hc] at hv;simp only[jN,qc,dV,It.pt,PT.lv,List.mem_cons,Prod.mk.injEq,reduceCtorEq,false_and,true_and,List.not_mem_nil,or_false,false_or] at hv;subst hv;exact h1
theorem gB.ZC {ah:List Tok}{t:gB}{u:Nat}(h:t.ok ah u)(e:CE)(v:Nat)(hv:(It.cl e,v)∈dV u t.its):e.ok ah true (v+1):=by
 unfold gB.its at hv;have h1:=h.2
 cases hc:t.cl with
 | none =>
  rw[hc] at hv;simp[dV,It.pt,PT.lv] at hv
 | some e' =>
  rw[hc] at hv h1;simp only[jN,qc,dV,It.pt,PT.lv,bU,List.mem_cons,Prod.mk.injEq,reduceCtorEq,false_and,It.cl.injEq,List.not_mem_nil,or_false,false_or] at hv;obtain⟨rfl,rfl⟩:=hv;exact h1
theorem TN {ah:List Tok}:∀ (l:List gB) (u:Nat) (t:gB) (v:Nat),yK ah u l→(It.par t,v)∈dV u (gy l)→t.NA ah v
 | [],u,t,v,_,h=>by rw[gy,dV] at h;cases h
 | [s],u,t,v,ho,h=>by
  rw[gy,dV,dV,List.mem_singleton] at h;simp only[Prod.mk.injEq,It.par.injEq] at h;obtain⟨rfl,rfl⟩:=h;exact ho.1
 | s :: s' :: l,u,t,v,ho,h=>by
  rw[show gy (s :: s' :: l)=.par s :: .leaf :: gy (s' :: l) from by rw[gy],dV,dV,List.mem_cons,List.mem_cons] at h
  rcases h with h|h|h
  ·simp only[Prod.mk.injEq,It.par.injEq] at h
   obtain⟨rfl,rfl⟩:=h;exact ho.1
  ·simp at h
  ·exact TN (s' :: l) _ t v ho.2 h
theorem adF {ah:List Tok}{d:dU}{u:Nat}(ho:d.ok ah u){t:gB}{v:Nat}(h:(It.par t,v)∈dV u d.its):t.NA ah v:=by
 have hno:∀ l:List It,(∀ i∈l,¬ (i matches .par _))→∀ x,(It.par t,v) ∉ dV x l:=fun l hl x hx=>by
  have:=hl _ (Aj _ _ _ hx);simp at this
 rw[dU.its,kP,kP,kP,List.mem_append,List.mem_append,List.mem_append] at h
 rcases h with h|h|h|h
 ·refine absurd h (hno _ (fun i hi=>?_) _)
  unfold dU.fV at hi
  split at hi
  ·rw[List.mem_singleton] at hi;subst hi;simp
  ·cases hi
 ·refine absurd h (hno _ (fun i hi=>?_) _)
  simp only[List.mem_cons,List.not_mem_nil,or_false,or_self] at hi;subst hi;simp
 ·refine TN d.lg _ t v ho.2.2.2.2.1 ?_
  have e:u+bU (d.fV.map It.pt)+bU ([It.leaf,.leaf,.leaf].map It.pt)=d.EL u+3:=by
   rw[d.KW];simp only[List.map_cons,List.map_nil,It.pt,bU,PT.lv,dU.EL]
  rw[e] at h;exact h
 ·refine absurd h (hno _ (fun i hi=>?_) _)
  unfold gB.its at hi
  cases hc:d.ty.cl with
  | none =>
   rw[hc] at hi;simp only[List.mem_append,List.mem_cons,List.not_mem_nil,or_false] at hi
   rcases hi with rfl|(rfl|rfl)|rfl|rfl|rfl<;>simp
  | some e =>
   rw[hc] at hi;simp only[List.mem_append,List.mem_cons,List.not_mem_nil,or_false] at hi
   rcases hi with rfl|((rfl|rfl)|rfl)|rfl|rfl|rfl<;>simp
theorem It.RX (i:It)(h:∀ t,i≠.par t):i.pt.kd≠4:=by
 cases i with
 | leaf=>exact(by decide:(19:Int)≠4)
 | par t=>exact absurd rfl (h t)
 | base=>exact show ((5:Nat):Int)≠4 by decide
 | cl e=>exact show ((6:Nat):Int)≠4 by decide
 | expr e =>
  obtain⟨c,la,ea,c1,c2⟩:=e.node;simp only[It.pt,ea,PT.kd];omega
theorem It.V8 (i:It)(ah:List Tok)(v:Nat)(h:∀ t,i≠.par t):i.Jr ah v=[]:=by
 cases i with
 | par t=>exact absurd rfl (h t)
 | _=>rfl
structure RdE (B:Nat) (tv nv:Value) (ah:List Tok) (aj:List Nd):Prop where
 pl:∀ v,dS ah v+(aN ah v).length≤1099511627776
 few:∀ n∈aj,n.aA.length≤1000000
 exprs:∀ (cl:Bool) (e:CE) (u:Nat),e.ok ah cl u→u+e.pt.lv≤ah.length→∀ (k:Nat) (W:World),oo aj k u e.pt→aZ B W (.agg #[tv,nv]) ah aj→B≤W.heap.size→Calls Tryz.prog 108 #[.agg #[tv,nv],.int .i64 k] W (EPost XA (e.pe ah u) W)
theorem RY {B:Nat}{tv nv:Value}{ah:List Tok}{aj:List Nd}(E:RdE B tv nv ah aj)(t:gB)(v:Nat)(ho:t.NA ah v)(hl:v+t.par.lv≤ah.length)(i:Nat)(w:World)(hr:oo aj i v t.par)(h:aZ B w (.agg #[tv,nv]) ah aj)(hB:B≤w.heap.size) :
  Calls Tryz.prog 107 #[.agg #[tv,nv],.int .i64 i] w (RU (t.wB ah v) w):=by
 rw[t.VY] at hr hl;obtain⟨ks,hn,hk⟩:=fu hr
 have hlv:v+bU (t.qV.map It.pt)≤ah.length:=by rw[PT.lv] at hl;exact hl
 have hks:=E.few _ (List.mem_of_getElem? hn);have hk2:=hk;rw[gB.qV,List.map_cons] at hk2;obtain⟨k0,ks',hke,hl0,_⟩:=bY (show fJ aj ks v (.leaf :: _) from hk2)
 have hvt:v<ah.length:=by
  rw[gB.qV,List.map_cons,bU] at hlv;simp only[It.pt,PT.lv] at hlv;omega
 have:=RV B tv nv ah aj i 4 ks w h hB hn k0 v (by rw[hke];rfl) hl0 hvt (nN ah v t.qV ⟨0,[],-1⟩) (fun W hT hW =>
  FX B tv nv ah aj i 4 ks v t.qV W hT hW hn hk hlv hks E.pl (fun x hx=>?_) (fun e x hx k W' hrk hT' hW'=>?_))
 ·rw[gB.abW] at this
  exact this
 ·rw[gB.qV,dV,List.mem_cons] at hx
  rcases hx with hx|hx
  ·cases hx
  ·exact gB.OP ho.2 x hx
 ·have hend:=tZ _ _ _ hx
  simp only[It.pt,PT.lv,bU] at hend;rw[gB.qV,dV,List.mem_cons] at hx
  rcases hx with hx|hx
  ·cases hx
  ·exact E.exprs true e (x+1) (gB.ZC ho.2 e x hx) (by omega) k W' hrk hT' hW'
theorem abZ {B:Nat}{tv nv:Value}{ah:List Tok}{aj:List Nd}(E:RdE B tv nv ah aj)(d:dU)(u:Nat)(ho:d.ok ah u)(ks:List Int)(hlv:u+bU (d.its.map It.pt)≤ah.length)(i:Nat)(hn:aj[i]?=some ⟨(3:Nat),-1,ks⟩)(hk:fJ aj ks u (d.its.map It.pt))(w:World)(h:aZ B w (.agg #[tv,nv]) ah aj)(hB:B≤w.heap.size) :
  Calls Tryz.prog 106 #[.agg #[tv,nv],.int .i64 i] w (KV ⟨(d.dd ah u).res.base,(d.dd ah u).res.aC,(d.dd ah u).res.bare⟩ w):=by
 have hks:=E.few _ (List.mem_of_getElem? hn);have hty:=ho.2.2.2.2.2.1
 have:=FX B tv nv ah aj i 3 ks u d.its w h hB hn hk hlv hks E.pl (fun x hx=>gB.OP hty x (d.ZB u _ hx rfl)) (fun e x hx k W' hrk hT' hW'=>by
  have hend:=tZ _ _ _ hx;simp only[It.pt,PT.lv,bU] at hend
  exact E.exprs true e (x+1) (gB.ZC hty e x (d.ZB u _ hx rfl)) (by omega) k W' hrk hT' hW')
 rw[d.typ] at this;exact this
structure ab0 (ah:List Tok) (aj:List Nd) (d:dU) (u:Nat) (ks:List Int):Prop where
 len:ks.length=d.its.length
 many:3≤ks.length
 first:∃ k:Nat,ks[0]?=some (k:Int)∧aj[k]?=some ⟨19,(u:Nat),[]⟩∧u<ah.length
 name:∃ k:Nat,ks[if d.pub=true then 2 else 1]?=some (k:Int)∧aj[k]?=some ⟨19,((d.EL u+1:Nat):Int),[]⟩∧d.EL u+1<ah.length
 body:∃ k:Nat,ks[ks.length - 2]?=some (k:Int)∧oo aj k (d.at3 u) d.body.pt∧d.at3 u+d.body.pt.lv≤ah.length
 pub:(aN ah u=Ba)↔d.pub=true
theorem ZE {ah:List Tok}{aj:List Nd}{d:dU}{u:Nat}{ks:List Int}(ho:d.ok ah u)(hlv:u+bU (d.its.map It.pt)≤ah.length)(hk:fJ aj ks u (d.its.map It.pt)):ab0 ah aj d u ks:=by
 obtain⟨hlen,hat⟩:=Ai _ _ _ hk
 have hat':∀ (j:Nat) (p:It × Nat),(dV u d.its)[j]?=some p→∃ k:Nat,ks[j]?=some (k:Int)∧oo aj k p.2 p.1.pt∧p.2+p.1.pt.lv≤ah.length:=fun j p hp=>by
  obtain⟨h2,e⟩:=pJ hp
  have h1:j<ks.length:=by rw[tY] at h2;omega
  have hr:=hat j h1 h2;have hend:=tZ _ _ _ (List.mem_of_getElem? hp);rw[e] at hr;have hok:=BI hr;refine⟨ks[j].toNat,?_,?_,by omega⟩
  ·rw[yV h1];congr 1;omega
  ·have:((ks[j].toNat:Nat):Int)=ks[j]:=by omega
   rw[this];exact hr
 have Cv:∀ (j v:Nat),(dV u d.its)[j]?=some (.leaf,v)→∃ k:Nat,ks[j]?=some (k:Int)∧aj[k]?=some ⟨19,(v:Nat),[]⟩∧v<ah.length:=fun j v hp=>by
  obtain⟨k,h1,h2,h3⟩:=hat' j _ hp;obtain⟨i,hi,hn⟩:=oo.Qp h2
  obtain rfl:k=i:=by omega
  exact⟨k,h1,hn,by simp only[It.pt,PT.lv] at h3;omega⟩
 obtain⟨pre,e,hp3⟩:=d.ZA u
 have hne:Ka≠Ba:=by decide
 refine⟨hlen,?_,Cv 0 u ?_,Cv _ _ ?_,?_,?_⟩
 ·rw[hlen,dU.its];simp;omega
 ·rw[dU.its]
  unfold dU.fV
  cases d.pub<;>simp[dV]
 ·rw[dU.its]
  unfold dU.fV dU.EL dU.lead
  cases d.pub<;>simp[dV,It.pt,PT.lv,bU]
 ·have hl:ks.length - 2=(dV u pre).length:=by rw[hlen,e,tY];simp
  rw[hl];obtain⟨k,h1,h2,h3⟩:=hat' (dV u pre).length (.expr d.body,d.at3 u) (by rw[e,kP,hp3];simp[dV]);exact⟨k,h1,h2,h3⟩
 ·constructor
  ·intro h
   cases hd:d.pub with
   | true=>rfl
   | false =>
    have h1:=ho.2.1;unfold dU.EL dU.lead at h1;rw[hd] at h1;simp only[Bool.false_eq_true,if_false,bU,Nat.add_zero] at h1;rw[h1] at h;exact absurd h hne
  ·exact ho.1
def setAt (b:Nat):Nat→List Value→World→World
 | _,[],w=>w
 | j,v :: l,w=>setAt b (j+1) l (w.setCell ⟨b,j,none⟩ v)
theorem wI {b k:Nat}(hk:k≠b):∀ (l:List Value) (j:Nat) (w:World),(setAt b j l w).heap[k]?=w.heap[k]?
 | [],_,_=>rfl
 | _v :: l,j,_w=>(wI hk l (j+1) _).trans (heap_setCell_other _ _ _ _ hk)
theorem Ga {b:Nat}:∀ (l:List Value) (j:Nat) (w:World),(setAt b j l w).heap.size=w.heap.size
 | [],_,_=>rfl
 | v :: l,j,w=>(Ga l (j+1) _).trans (by simp)
theorem wJ {B b:Nat}{w0:World}(hb:B≤b):∀ (l:List Value) (j:Nat) {w:World},Below B w0 w→Below B w0 (setAt b j l w)
 | [],_,_,h=>h
 | v :: l,j,_,h=>wJ hb l (j+1) (h.setCell hb v)
theorem Js {P:Nat→Prop}{b:Nat}(hP:∀ k,P k→k≠b)(l:List Value)(j:Nat)(w:World):aW P w (setAt b j l w):=⟨Nat.le_of_eq (Ga l j w).symm,fun k hk _=>wI (hP k hk) l j w⟩
theorem Gc {b k i:Nat}(hk:k≠b)(l:List Value)(j:Nat)(w:World):(setAt b j l w).cell? ⟨k,i,none⟩=w.cell? ⟨k,i,none⟩:=World.cell?_of_block (a:=⟨k,i,none⟩) (wI hk l j w)
theorem gL {w:World}{b:Nat}{c0 c1 c2 c3 c4 c5 c6 c7 c8 c9 c10 c11 c12 c13 c14:Value}(h:w.heap[b]?=some (.cells #[c0,c1,c2,c3,c4,c5,c6,c7,c8,c9,c10,c11,c12,c13,c14] 66 (0,0))):(w.cell? ⟨b,0,none⟩=some c0∧w.cell? ⟨b,1,none⟩=some c1∧w.cell? ⟨b,2,none⟩=some c2∧w.cell? ⟨b,3,none⟩=some c3∧w.cell? ⟨b,4,none⟩=some c4)∧(w.cell? ⟨b,5,none⟩=some c5∧w.cell? ⟨b,6,none⟩=some c6∧w.cell? ⟨b,7,none⟩=some c7∧w.cell? ⟨b,8,none⟩=some c8∧w.cell? ⟨b,9,none⟩=some c9)∧(w.cell? ⟨b,10,none⟩=some c10∧w.cell? ⟨b,11,none⟩=some c11∧w.cell? ⟨b,12,none⟩=some c12∧w.cell? ⟨b,13,none⟩=some c13∧w.cell? ⟨b,14,none⟩=some c14)∧∀ j,w.frozen? ⟨b,j,none⟩=false:=by
 refine⟨⟨?_,?_,?_,?_,?_⟩,⟨?_,?_,?_,?_,?_⟩,⟨?_,?_,?_,?_,?_⟩,fun j=>by simp[World.frozen?,h]⟩<;>(rw[aV h];rfl)
theorem oK (w:World)(b:Nat)(v0 v1 v2 v3 v4 v5 v6 v7 v8 v9 v10 v11 v12 v13 v14:Value){k j:Nat}(h:k≠b):(((((((((((((((w.setCell ⟨b,0,none⟩ v0).setCell ⟨b,1,none⟩ v1).setCell ⟨b,2,none⟩ v2).setCell ⟨b,3,none⟩ v3).setCell ⟨b,4,none⟩ v4).setCell ⟨b,5,none⟩ v5).setCell ⟨b,6,none⟩ v6).setCell ⟨b,7,none⟩ v7).setCell ⟨b,8,none⟩ v8).setCell ⟨b,9,none⟩ v9).setCell ⟨b,10,none⟩ v10).setCell ⟨b,11,none⟩ v11).setCell ⟨b,12,none⟩ v12).setCell ⟨b,13,none⟩ v13).setCell ⟨b,14,none⟩ v14).cell? ⟨k,j,none⟩=w.cell? ⟨k,j,none⟩ :=
 Gc h [v0,v1,v2,v3,v4,v5,v6,v7,v8,v9,v10,v11,v12,v13,v14] 0 w
theorem Gd {w:World}{b:Nat}{T:TypeId}{c0 c1 c2 c3 c4 c5 c6 c7 c8 c9 c10 c11 c12 c13 c14:Value}(h:w.heap[b]?=some (.cells #[c0,c1,c2,c3,c4,c5,c6,c7,c8,c9,c10,c11,c12,c13,c14] T (0,0)))(v0 v1 v2 v3 v4 v5 v6 v7 v8 v9 v10 v11 v12 v13 v14:Value):(((((((((((((((w.setCell ⟨b,0,none⟩ v0).setCell ⟨b,1,none⟩ v1).setCell ⟨b,2,none⟩ v2).setCell ⟨b,3,none⟩ v3).setCell ⟨b,4,none⟩ v4).setCell ⟨b,5,none⟩ v5).setCell ⟨b,6,none⟩ v6).setCell ⟨b,7,none⟩ v7).setCell ⟨b,8,none⟩ v8).setCell ⟨b,9,none⟩ v9).setCell ⟨b,10,none⟩ v10).setCell ⟨b,11,none⟩ v11).setCell ⟨b,12,none⟩ v12).setCell ⟨b,13,none⟩ v13).setCell ⟨b,14,none⟩ v14).heap[b]?=some (.cells #[v0,v1,v2,v3,v4,v5,v6,v7,v8,v9,v10,v11,v12,v13,v14] T (0,0)):=by
 have h1:(w.setCell ⟨b,0,none⟩ v0).heap[b]?=some (.cells #[v0,c1,c2,c3,c4,c5,c6,c7,c8,c9,c10,c11,c12,c13,c14] T (0,0)):=heap_setCell_same _ b 0 _ _ v0 h;generalize w.setCell ⟨b,0,none⟩ v0=x1 at h1 ⊢;have h2:(x1.setCell ⟨b,1,none⟩ v1).heap[b]?=some (.cells #[v0,v1,c2,c3,c4,c5,c6,c7,c8,c9,c10,c11,c12,c13,c14] T (0,0)):=heap_setCell_same _ b 1 _ _ v1 h1;generalize x1.setCell ⟨b,1,none⟩ v1=x2 at h2 ⊢;have h3:(x2.setCell ⟨b,2,none⟩ v2).heap[b]?=some (.cells #[v0,v1,v2,c3,c4,c5,c6,c7,c8,c9,c10,c11,c12,c13,c14] T (0,0)):=heap_setCell_same _ b 2 _ _ v2 h2;generalize x2.setCell ⟨b,2,none⟩ v2=x3 at h3 ⊢;have h4:(x3.setCell ⟨b,3,none⟩ v3).heap[b]?=some (.cells #[v0,v1,v2,v3,c4,c5,c6,c7,c8,c9,c10,c11,c12,c13,c14] T (0,0)):=heap_setCell_same _ b 3 _ _ v3 h3;generalize x3.setCell ⟨b,3,none⟩ v3=x4 at h4 ⊢;have h5:(x4.setCell ⟨b,4,none⟩ v4).heap[b]?=some (.cells #[v0,v1,v2,v3,v4,c5,c6,c7,c8,c9,c10,c11,c12,c13,c14] T (0,0)):=heap_setCell_same _ b 4 _ _ v4 h4;generalize x4.setCell ⟨b,4,none⟩ v4=x5 at h5 ⊢;have h6:(x5.setCell ⟨b,5,none⟩ v5).heap[b]?=some (.cells #[v0,v1,v2,v3,v4,v5,c6,c7,c8,c9,c10,c11,c12,c13,c14] T (0,0)):=heap_setCell_same _ b 5 _ _ v5 h5;generalize x5.setCell ⟨b,5,none⟩ v5=x6 at h6 ⊢;have h7:(x6.setCell ⟨b,6,none⟩ v6).heap[b]?=some (.cells #[v0,v1,v2,v3,v4,v5,v6,c7,c8,c9,c10,c11,c12,c13,c14] T (0,0)):=heap_setCell_same _ b 6 _ _ v6 h6;generalize x6.setCell ⟨b,6,none⟩ v6=x7 at h7 ⊢;have h8:(x7.setCell ⟨b,7,none⟩ v7).heap[b]?=some (.cells #[v0,v1,v2,v3,v4,v5,v6,v7,c8,c9,c10,c11,c12,c13,c14] T (0,0)):=heap_setCell_same _ b 7 _ _ v7 h7;generalize x7.setCell ⟨b,7,none⟩ v7=x8 at h8 ⊢;have h9:(x8.setCell ⟨b,8,none⟩ v8).heap[b]?=some (.cells #[v0,v1,v2,v3,v4,v5,v6,v7,v8,c9,c10,c11,c12,c13,c14] T (0,0)):=heap_setCell_same _ b 8 _ _ v8 h8;generalize x8.setCell ⟨b,8,none⟩ v8=x9 at h9 ⊢;have h10:(x9.setCell ⟨b,9,none⟩ v9).heap[b]?=some (.cells #[v0,v1,v2,v3,v4,v5,v6,v7,v8,v9,c10,c11,c12,c13,c14] T (0,0)):=heap_setCell_same _ b 9 _ _ v9 h9
 generalize x9.setCell ⟨b,9,none⟩ v9=x10 at h10 ⊢;have h11:(x10.setCell ⟨b,10,none⟩ v10).heap[b]?=some (.cells #[v0,v1,v2,v3,v4,v5,v6,v7,v8,v9,v10,c11,c12,c13,c14] T (0,0)):=heap_setCell_same _ b 10 _ _ v10 h10;generalize x10.setCell ⟨b,10,none⟩ v10=x11 at h11 ⊢;have h12:(x11.setCell ⟨b,11,none⟩ v11).heap[b]?=some (.cells #[v0,v1,v2,v3,v4,v5,v6,v7,v8,v9,v10,v11,c12,c13,c14] T (0,0)):=heap_setCell_same _ b 11 _ _ v11 h11;generalize x11.setCell ⟨b,11,none⟩ v11=x12 at h12 ⊢;have h13:(x12.setCell ⟨b,12,none⟩ v12).heap[b]?=some (.cells #[v0,v1,v2,v3,v4,v5,v6,v7,v8,v9,v10,v11,v12,c13,c14] T (0,0)):=heap_setCell_same _ b 12 _ _ v12 h12;generalize x12.setCell ⟨b,12,none⟩ v12=x13 at h13 ⊢;have h14:(x13.setCell ⟨b,13,none⟩ v13).heap[b]?=some (.cells #[v0,v1,v2,v3,v4,v5,v6,v7,v8,v9,v10,v11,v12,v13,c14] T (0,0)):=heap_setCell_same _ b 13 _ _ v13 h13;generalize x13.setCell ⟨b,13,none⟩ v13=x14 at h14 ⊢;have h15:(x14.setCell ⟨b,14,none⟩ v14).heap[b]?=some (.cells #[v0,v1,v2,v3,v4,v5,v6,v7,v8,v9,v10,v11,v12,v13,v14] T (0,0)):=heap_setCell_same _ b 14 _ _ v14 h14;exact h15
theorem wK {B b:Nat}{w0 w:World}(h:Below B w0 w)(hb:B≤b)(v0 v1 v2 v3 v4 v5 v6 v7 v8 v9 v10 v11 v12 v13 v14:Value):Below B w0 (((((((((((((((w.setCell ⟨b,0,none⟩ v0).setCell ⟨b,1,none⟩ v1).setCell ⟨b,2,none⟩ v2).setCell ⟨b,3,none⟩ v3).setCell ⟨b,4,none⟩ v4).setCell ⟨b,5,none⟩ v5).setCell ⟨b,6,none⟩ v6).setCell ⟨b,7,none⟩ v7).setCell ⟨b,8,none⟩ v8).setCell ⟨b,9,none⟩ v9).setCell ⟨b,10,none⟩ v10).setCell ⟨b,11,none⟩ v11).setCell ⟨b,12,none⟩ v12).setCell ⟨b,13,none⟩ v13).setCell ⟨b,14,none⟩ v14) :=
 wJ hb [v0,v1,v2,v3,v4,v5,v6,v7,v8,v9,v10,v11,v12,v13,v14] 0 h
theorem yT (w:World)(b:Nat)(v0 v1 v2 v3 v4 v5 v6 v7:Value){k j:Nat}(h:k≠b):((((((((w.setCell ⟨b,5,none⟩ v0).setCell ⟨b,6,none⟩ v1).setCell ⟨b,7,none⟩ v2).setCell ⟨b,8,none⟩ v3).setCell ⟨b,9,none⟩ v4).setCell ⟨b,10,none⟩ v5).setCell ⟨b,11,none⟩ v6).setCell ⟨b,12,none⟩ v7).cell? ⟨k,j,none⟩=w.cell? ⟨k,j,none⟩ :=
 Gc h [v0,v1,v2,v3,v4,v5,v6,v7] 5 w
theorem Gf {w:World}{b:Nat}{T:TypeId}{c0 c1 c2 c3 c4 c5 c6 c7 c8 c9 c10 c11 c12 c13 c14:Value}(h:w.heap[b]?=some (.cells #[c0,c1,c2,c3,c4,c5,c6,c7,c8,c9,c10,c11,c12,c13,c14] T (0,0)))(v0 v1 v2 v3 v4 v5 v6 v7:Value):((((((((w.setCell ⟨b,5,none⟩ v0).setCell ⟨b,6,none⟩ v1).setCell ⟨b,7,none⟩ v2).setCell ⟨b,8,none⟩ v3).setCell ⟨b,9,none⟩ v4).setCell ⟨b,10,none⟩ v5).setCell ⟨b,11,none⟩ v6).setCell ⟨b,12,none⟩ v7).heap[b]?=some (.cells #[c0,c1,c2,c3,c4,v0,v1,v2,v3,v4,v5,v6,v7,c13,c14] T (0,0)):=by
 have h1:(w.setCell ⟨b,5,none⟩ v0).heap[b]?=some (.cells #[c0,c1,c2,c3,c4,v0,c6,c7,c8,c9,c10,c11,c12,c13,c14] T (0,0)):=heap_setCell_same _ b 5 _ _ v0 h;generalize w.setCell ⟨b,5,none⟩ v0=x1 at h1 ⊢;have h2:(x1.setCell ⟨b,6,none⟩ v1).heap[b]?=some (.cells #[c0,c1,c2,c3,c4,v0,v1,c7,c8,c9,c10,c11,c12,c13,c14] T (0,0)):=heap_setCell_same _ b 6 _ _ v1 h1;generalize x1.setCell ⟨b,6,none⟩ v1=x2 at h2 ⊢;have h3:(x2.setCell ⟨b,7,none⟩ v2).heap[b]?=some (.cells #[c0,c1,c2,c3,c4,v0,v1,v2,c8,c9,c10,c11,c12,c13,c14] T (0,0)):=heap_setCell_same _ b 7 _ _ v2 h2;generalize x2.setCell ⟨b,7,none⟩ v2=x3 at h3 ⊢;have h4:(x3.setCell ⟨b,8,none⟩ v3).heap[b]?=some (.cells #[c0,c1,c2,c3,c4,v0,v1,v2,v3,c9,c10,c11,c12,c13,c14] T (0,0)):=heap_setCell_same _ b 8 _ _ v3 h3;generalize x3.setCell ⟨b,8,none⟩ v3=x4 at h4 ⊢;have h5:(x4.setCell ⟨b,9,none⟩ v4).heap[b]?=some (.cells #[c0,c1,c2,c3,c4,v0,v1,v2,v3,v4,c10,c11,c12,c13,c14] T (0,0)):=heap_setCell_same _ b 9 _ _ v4 h4;generalize x4.setCell ⟨b,9,none⟩ v4=x5 at h5 ⊢;have h6:(x5.setCell ⟨b,10,none⟩ v5).heap[b]?=some (.cells #[c0,c1,c2,c3,c4,v0,v1,v2,v3,v4,v5,c11,c12,c13,c14] T (0,0)):=heap_setCell_same _ b 10 _ _ v5 h5;generalize x5.setCell ⟨b,10,none⟩ v5=x6 at h6 ⊢;have h7:(x6.setCell ⟨b,11,none⟩ v6).heap[b]?=some (.cells #[c0,c1,c2,c3,c4,v0,v1,v2,v3,v4,v5,v6,c12,c13,c14] T (0,0)):=heap_setCell_same _ b 11 _ _ v6 h6;generalize x6.setCell ⟨b,11,none⟩ v6=x7 at h7 ⊢;have h8:(x7.setCell ⟨b,12,none⟩ v7).heap[b]?=some (.cells #[c0,c1,c2,c3,c4,v0,v1,v2,v3,v4,v5,v6,v7,c13,c14] T (0,0)):=heap_setCell_same _ b 12 _ _ v7 h7;exact h8
theorem wL {B b:Nat}{w0 w:World}(h:Below B w0 w)(hb:B≤b)(v0 v1 v2 v3 v4 v5 v6 v7:Value):Below B w0 ((((((((w.setCell ⟨b,5,none⟩ v0).setCell ⟨b,6,none⟩ v1).setCell ⟨b,7,none⟩ v2).setCell ⟨b,8,none⟩ v3).setCell ⟨b,9,none⟩ v4).setCell ⟨b,10,none⟩ v5).setCell ⟨b,11,none⟩ v6).setCell ⟨b,12,none⟩ v7) :=
 wJ hb [v0,v1,v2,v3,v4,v5,v6,v7] 5 h
theorem BM (P:Nat→Prop)(w:World)(b:Nat)(v0 v1 v2 v3 v4 v5 v6 v7:Value)(hP:∀ k,P k→k≠b):aW P w ((((((((w.setCell ⟨b,5,none⟩ v0).setCell ⟨b,6,none⟩ v1).setCell ⟨b,7,none⟩ v2).setCell ⟨b,8,none⟩ v3).setCell ⟨b,9,none⟩ v4).setCell ⟨b,10,none⟩ v5).setCell ⟨b,11,none⟩ v6).setCell ⟨b,12,none⟩ v7) :=
 Js hP [v0,v1,v2,v3,v4,v5,v6,v7] 5 w
theorem BN (P:Nat→Prop)(w:World)(b:Nat)(v0 v1 v2 v3 v4 v5 v6 v7 v8 v9 v10 v11 v12 v13 v14:Value)(hP:∀ k,P k→k≠b):aW P w (((((((((((((((w.setCell ⟨b,0,none⟩ v0).setCell ⟨b,1,none⟩ v1).setCell ⟨b,2,none⟩ v2).setCell ⟨b,3,none⟩ v3).setCell ⟨b,4,none⟩ v4).setCell ⟨b,5,none⟩ v5).setCell ⟨b,6,none⟩ v6).setCell ⟨b,7,none⟩ v7).setCell ⟨b,8,none⟩ v8).setCell ⟨b,9,none⟩ v9).setCell ⟨b,10,none⟩ v10).setCell ⟨b,11,none⟩ v11).setCell ⟨b,12,none⟩ v12).setCell ⟨b,13,none⟩ v13).setCell ⟨b,14,none⟩ v14) :=
 Js hP [v0,v1,v2,v3,v4,v5,v6,v7,v8,v9,v10,v11,v12,v13,v14] 0 w
theorem Tryz.V9:(Tryz.prog.info? 68).map (fun i=>(i.zero,i.size,i.bytes))=some (some (.agg #[.string ⟨#[]⟩,.int .i64 0,.slice none 0 0,.int .i64 0,.int .i64 0]),5,64):=by kernel_rfl
theorem Tryz.OQ:∀ args w,(callFunc 107 args).run Tryz.prog w=.ok (.enter 107 args) w:=Go.Proofs.enters_of Tryz.func107 (by kernel_rfl) rfl
def ZG (d:DD)(w:World)(e:Ending)(w':World):Prop :=
 ∃ ap cp ac cc am wn cm ae ce,e=.returned (.agg #[.bool d.pub,.string ⟨d.res.name.toArray⟩,.slice ap d.params.length cp,.int .i64 d.res.base,.slice ac d.res.aC.length cc,.int .i64 d.body.op,.string ⟨d.body.name.toArray⟩,.string ⟨d.body.module.toArray⟩,.bool (decide (d.body.num<0)),.slice am wn cm,.bool d.body.yes,.slice ae d.body.aA.length ce,.int .i64 d.body.at_,.int .i64 d.res.at_,.int .i64 d.res.bare]) ∧
  DA.inn (fun b=>w.heap.size≤b) w' d ⟨.slice ap d.params.length cp,.slice ac d.res.aC.length cc,.slice am wn cm,.slice ae d.body.aA.length ce⟩∧Below w.heap.size w w'
def Gg (pb:Bool)(nm:List UInt8)(pv:Value)(base:Nat)(cv:Value)(at_:Nat)(bare:Int):Array Value :=
 #[.bool pb,.string ⟨nm.toArray⟩,pv,.int .i64 base,cv,.int .i64 0,.string ⟨#[]⟩,.string ⟨#[]⟩,.bool false,.slice none 0 0,.bool false,.slice none 0 0,.int .i64 0,.int .i64 at_,.int .i64 bare]
theorem ZH {B:Nat}{tv nv:Value}{ah:List Tok}{aj:List Nd}(E:RdE B tv nv ah aj)(d:dU)(u:Nat)(ho:d.ok ah u)(hl:u+d.pt.lv≤ah.length)(i:Nat)(w:World)(hr:oo aj i u d.pt)(h:aZ B w (.agg #[tv,nv]) ah aj)(hB:B≤w.heap.size) :
  Calls Tryz.prog 62 #[.agg #[tv,nv],.int .i64 i] w (ZG (d.dd ah u) w):=by
 obtain⟨ip,agy,agz,agA,agB⟩:=info_parts Tryz.V9;have ent:=Tryz.OQ;rw[d.FN] at hr hl;obtain⟨ks,hn,hk⟩:=fu hr
 have hlv:u+bU (d.its.map It.pt)≤ah.length:=by rw[PT.lv] at hl;exact hl
 have K:=ZE ho hlv hk
 obtain⟨k0,hq0,hl0,hu0⟩:=K.first
 obtain⟨k1,hq1,hl1,hu1⟩:=K.name;obtain⟨k2,hq2,hr2,hu2⟩:=K.body;have ahg:=K.many;have adG:=K.pub;have hks:=E.few _ (List.mem_of_getElem? hn)
 obtain⟨a,ha1,ha2,ha3,HTY⟩:∃ a:Zl,(d.dd ah u).res.base=a.base∧(d.dd ah u).res.aC=a.aC∧(d.dd ah u).res.bare=a.bare∧Hid (∀ W,aZ B W (.agg #[tv,nv]) ah aj→B≤W.heap.size→Calls Tryz.prog 106 #[.agg #[tv,nv],.int .i64 i] W (KV a W)):=⟨⟨_,_,_⟩,rfl,rfl,rfl,ay (fun W hT hW=>abZ E d u ho ks hlv i hn hk W hT hW)⟩
 have hdd:d.dd ah u=⟨d.pub,fU ah u d.its,⟨(dh ah (d.EL u+1)).text,a.base,a.aC,(dh ah (d.EL u+1)).place,a.bare⟩,d.body.pe ah (d.at3 u)⟩:=by
  rw[← ha1,← ha2,← ha3,d.Zm];rfl
 rw[hdd];clear hdd ha1 ha2 ha3
 obtain⟨lg,ZI⟩:∃ lg,lg=fU ah u d.its:=⟨_,rfl⟩
 rw[← ZI];have HPS:=ay ZI;clear ZI;have Lv:Hid (∀ W,aZ B W (.agg #[tv,nv]) ah aj→B≤W.heap.size→Calls Tryz.prog 108 #[.agg #[tv,nv],.int .i64 k2] W (Ya (d.body.pe ah (d.at3 u)) W)):=ay (fun W hT hW=>(E.exprs false d.body (d.at3 u) ho.2.2.2.2.2.2 hu2 k2 W hr2 hT hW).mono fun _ _ h=>h.s)
 have afm:Hid (∀ (t:gB) (v:Nat),(It.par t,v)∈dV u d.its→∀ (m:Nat) (W:World),oo aj m v t.par→aZ B W (.agg #[tv,nv]) ah aj→B≤W.heap.size→Calls Tryz.prog 107 #[.agg #[tv,nv],.int .i64 m] W (RU (t.wB ah v) W)):=ay (fun t v hm m W hrm hT hW=>by
  have hend:=tZ _ _ _ hm
  exact RY E t v (adF ho hm) (by simp only[It.pt] at hend;omega) m W hrm hT hW)
 have Wh:Hid (∀ W,aZ B W (.agg #[tv,nv]) ah aj→B≤W.heap.size→Calls Tryz.prog 61 #[.agg #[tv,nv],.int .i64 k1] W fun e w'=>e=.returned (pQ (dh ah (d.EL u+1)))∧Below W.heap.size W w'):=ay (fun W hT hW=>by
  have:=kF B tv nv ah aj k1 (d.EL u+1) W hT hW hl1 hu1;have e:=jC hu1;rw[yV hu1] at e;rw[kR e] at this
  exact this)
 have Px:Hid (∀ W,aZ B W (.agg #[tv,nv]) ah aj→B≤W.heap.size→Calls Tryz.prog 105 #[.agg #[tv,nv],.int .i64 k0] W fun e w'=>e=.returned (.string (if d.pub=true then ⟨#[112,117,98]⟩ else ⟨#[102,117,110]⟩))∧Below W.heap.size W w'):=ay (fun W hT hW=>by
  have:=wS B tv nv ah aj k0 u W hT hW hl0 hu0;have e:=jC hu0;rw[yV hu0] at e;rw[kR e] at this
  have e2:(dh ah u).text=if d.pub=true then Ba else Ka:=by
   cases hd:d.pub with
   | true=>exact ho.1 hd
   | false =>
    have h1:=ho.2.1;unfold dU.EL dU.lead at h1;rw[hd] at h1;simp only[Bool.false_eq_true,if_false,bU,Nat.add_zero] at h1;exact h1
  rw[e2] at this;unfold dJ at this
  cases hd:d.pub<;>(rw[hd] at this;exact this))
 obtain⟨hlk,hrp⟩:=Ai _ _ _ hk;have HRP:=ay hrp;have HLK:Hid (ks.length=(dV u d.its).length):=ay (by rw[tY];exact hlk);have HRD:=ay (F7 ah d.its u)
 have hpl:(fU ah u d.its).length≤1000000:=by
  have:=F8 ah d.its u;simp only at hks;omega
 have HIT:=ay (show d.its.length=ks.length from hlk.symm);generalize d.body.pe ah (d.at3 u)=x at Lv ⊢;generalize hpb:d.pub=pb at hq1 Px ⊢;generalize hqq:(if pb=true then 2 else 1)=q at hq1;have HQ:=ay hqq;unfold pQ dJ at Wh;generalize dh ah (d.EL u+1)=t at Wh ⊢;obtain⟨tk,tl,tt,tp⟩:=t;simp only at Wh ⊢;have HT:=ay h;obtain⟨hi,hni⟩:=pJ hn;obtain⟨a1,c1,_,_,e⟩:=h.slices;obtain⟨b,off,cap,kv,rfl,hb,y0,y1,y2,hkv⟩:=h.node hi
 obtain⟨rfl,-⟩:tv=.slice a1 ah.length c1∧_:=by simpa using e
 rw[hni] at hkv;simp only at hkv;obtain⟨ak,ck,rfl,_,xS⟩:=hkv.form;obtain⟨bk,ok,rfl,hbk,hkc⟩:=xS (by omega);obtain⟨agC,acA⟩:=pJ hq0;obtain⟨agD,acB⟩:=pJ hq1;obtain⟨agE,acC⟩:=pJ hq2;have z0:=hkc 0 agC;have z1:=hkc q agD;have z2:=hkc (ks.length - 2) agE;rw[acA,Nat.add_zero] at z0;rw[acB] at z1;rw[acC] at z2;have WW:=ay hkc;have cB:=((bI w.heap.size w).alloc (bD _) (.cells #[.slice a1 ah.length c1,.slice (some ⟨b,off,none⟩) aj.length cap] 126)).alloc (by simp) (.cells #[.bool false,.string ⟨#[]⟩,.slice none 0 0,.int .i64 0,.slice none 0 0,.int .i64 0,.string ⟨#[]⟩,.string ⟨#[]⟩,.bool false,.slice none 0 0,.bool false,.slice none 0 0,.int .i64 0,.int .i64 0,.int .i64 0] 66);have g0:=(gY _ (.cells #[.bool false,.string ⟨#[]⟩,.slice none 0 0,.int .i64 0,.slice none 0 0,.int .i64 0,.string ⟨#[]⟩,.string ⟨#[]⟩,.bool false,.slice none 0 0,.bool false,.slice none 0 0,.int .i64 0,.int .i64 0,.int .i64 0] 66) w.heap.size (by simp)).trans (aY w (.cells #[.slice a1 ah.length c1,.slice (some ⟨b,off,none⟩) aj.length cap] 126));have g1:=aY (w.alloc (.cells #[.slice a1 ah.length c1,.slice (some ⟨b,off,none⟩) aj.length cap] 126)) (.cells #[.bool false,.string ⟨#[]⟩,.slice none 0 0,.int .i64 0,.slice none 0 0,.int .i64 0,.string ⟨#[]⟩,.string ⟨#[]⟩,.bool false,.slice none 0 0,.bool false,.slice none 0 0,.int .i64 0,.int .i64 0,.int .i64 0] 66);rw[oP] at g1;have Y2:=iW cB y2;have Z0:=iW cB z0;have Z1:=iW cB z1;have Z2:=iW cB z2
 have hiI:(i:Int)<(aj.length:Int):=by omega
 have ahN:(0:Int)<(ks.length:Int):=by omega
 have ahO:(q:Int)<(ks.length:Int):=by omega
 clear h e y0 y1 y2 z0 z1 z2 hkv xS hkc hn hni hlk hrp hk hr hlv hl ho hq0 hq1 hq2 acA acB acC hl0 hl1 hr2 hu0 hu1 hu2 adG K E hpb hqq;go_enter Tryz.func62,Tryz.ntmps62;obtain⟨r0,r1⟩:=lH g0
 go_upto_region 2 with (fail)
 generalize (w.alloc _).alloc _=w2 at g0 g1 cB Y2 Z0 Z1 Z2 r0 r1 ⊢;have hz2:=cB.size;have hlt2:w.heap.size+1<w2.heap.size:=(bS g1).1
 have hne0:w.heap.size≠w2.heap.size:=by omega
 have hne1:bk≠w2.heap.size:=by omega
 have WZ:=ay (fun W (hb:Below w2.heap.size w2 W)=>(Px.out W (HT.out.below ((cB.trans (hb.mono hz2)).mono hB)) (by have:=hb.size;omega)).mono (R':=fun e w'=>e=.returned (.string (if pb=true then ⟨#[112,117,98]⟩ else ⟨#[102,117,110]⟩))∧Below w2.heap.size w2 w'∧Below W.heap.size W w') fun e w' h=>⟨h.1,hb.trans (h.2.mono hb.size),h.2⟩)
 go_cut [6] (fun p wc=>∃ X:Nat,p=.pointer (some ⟨X,0,none⟩)∧wc.heap[X]?=some (.cells (Gg pb [] (.slice none 0 0) 0 (.slice none 0 0) 0 0) 66 (0,0))∧Below w2.heap.size w2 wc∧w2.heap.size≤X)
 case first =>
  cases pb with
  | true =>
   simp only[if_true] at WZ
   go_region_held3 (fun w'=>w'.cell? ⟨w.heap.size,0,none⟩=some (.slice a1 ah.length c1)∧w'.cell? ⟨w.heap.size,1,none⟩=some (.slice (some ⟨b,off,none⟩) aj.length cap)∧w'.cell? ⟨bk,ok,none⟩=some (.int .i64 k0))
    (first|(with_reducible exact p3)|((try dsimp only);with_reducible exact And.intro ((oK w3 w2.heap.size _ _ _ _ _ _ _ _ _ _ _ _ _ _ _ hne0).trans p3.1) (And.intro ((oK w3 w2.heap.size _ _ _ _ _ _ _ _ _ _ _ _ _ _ _ hne0).trans p3.2.1) ((oK w3 w2.heap.size _ _ _ _ _ _ _ _ _ _ _ _ _ _ _ hne1).trans p3.2.2)))|(go_keep;done))
    (first|(go_at_call 105;refine(WZ.out _ ?_).mono ?_;(first|exact(bI _ _).drew|exact((bI _ _).alloc (bD _) _).drew);rintro e w3 ⟨rfl,hq3,hb3⟩;have p3:=And.intro (iW hq3 r0) (And.intro (iW hq3 r1) (iW hq3 Z0));try (have FT:=(hb3.block w2.heap.size (by simp)).trans (aY w2 (.cells #[.bool false,.string ⟨#[]⟩,.slice none 0 0,.int .i64 0,.slice none 0 0,.int .i64 0,.string ⟨#[]⟩,.string ⟨#[]⟩,.bool false,.slice none 0 0,.bool false,.slice none 0 0,.int .i64 0,.int .i64 0,.int .i64 0] 66));obtain⟨⟨e0,e1,e2,e3,e4⟩,⟨e5,e6,e7,e8,e9⟩,⟨e10,e11,e12,e13,e14⟩,ez⟩:=gL FT)))
   ·clear r0 r1 Z0 p3
    go_wp2_with fail
    go_meet
    exact⟨w3.heap.size,rfl,aY _ _,hq3.alloc hq3.size _,hq3.size⟩
   ·clear r0 r1 Z0 p3
    go_wp2_with fail
    go_meet
    exact⟨w2.heap.size,rfl,Gd FT _ _ _ _ _ _ _ _ _ _ _ _ _ _ _,wK hq3 (bD _) _ _ _ _ _ _ _ _ _ _ _ _ _ _ _,bD _⟩
  | false =>
   simp only[Bool.false_eq_true,if_false] at WZ
   go_region_held3 (fun w'=>w'.cell? ⟨w.heap.size,0,none⟩=some (.slice a1 ah.length c1)∧w'.cell? ⟨w.heap.size,1,none⟩=some (.slice (some ⟨b,off,none⟩) aj.length cap)∧w'.cell? ⟨bk,ok,none⟩=some (.int .i64 k0))
    (first|(with_reducible exact p3)|((try dsimp only);with_reducible exact And.intro ((oK w3 w2.heap.size _ _ _ _ _ _ _ _ _ _ _ _ _ _ _ hne0).trans p3.1) (And.intro ((oK w3 w2.heap.size _ _ _ _ _ _ _ _ _ _ _ _ _ _ _ hne0).trans p3.2.1) ((oK w3 w2.heap.size _ _ _ _ _ _ _ _ _ _ _ _ _ _ _ hne1).trans p3.2.2)))|(go_keep;done))
    (first|(go_at_call 105;refine(WZ.out _ ?_).mono ?_;(first|exact(bI _ _).drew|exact((bI _ _).alloc (bD _) _).drew);rintro e w3 ⟨rfl,hq3,hb3⟩;have p3:=And.intro (iW hq3 r0) (And.intro (iW hq3 r1) (iW hq3 Z0));try (have FT:=(hb3.block w2.heap.size (by simp)).trans (aY w2 (.cells #[.bool false,.string ⟨#[]⟩,.slice none 0 0,.int .i64 0,.slice none 0 0,.int .i64 0,.string ⟨#[]⟩,.string ⟨#[]⟩,.bool false,.slice none 0 0,.bool false,.slice none 0 0,.int .i64 0,.int .i64 0,.int .i64 0] 66));obtain⟨⟨e0,e1,e2,e3,e4⟩,⟨e5,e6,e7,e8,e9⟩,⟨e10,e11,e12,e13,e14⟩,ez⟩:=gL FT)))
   ·clear r0 r1 Z0 p3
    go_wp2_with fail
    go_meet
    exact⟨w3.heap.size,rfl,aY _ _,hq3.alloc hq3.size _,hq3.size⟩
   ·clear r0 r1 Z0 p3
    go_wp2_with fail
    go_meet
    exact⟨w2.heap.size,rfl,Gd FT _ _ _ _ _ _ _ _ _ _ _ _ _ _ _,wK hq3 (bD _) _ _ _ _ _ _ _ _ _ _ _ _ _ _ _,bD _⟩
 case rest =>
  obtain⟨X,rfl,hX,hbc,hXl⟩:=hcut
  obtain⟨w4,rfl⟩:∃ w4:World,w4=wc:=⟨_,rfl⟩
  have hX4:=(bS hX).1;have G0:=(hbc.block w.heap.size (by omega)).trans g0;have G1:=(hbc.block (w.heap.size+1) hlt2).trans g1;have hb4:Below w.heap.size w w4:=cB.trans (hbc.mono hz2);have zF:=hbc.size;have Z1':=iW hbc Z1;obtain⟨⟨d0,d1,d2,d3,d4⟩,⟨d5,d6,d7,d8,d9⟩,⟨d10,d11,d12,d13,d14⟩,dz⟩:=gL hX;clear Z0 Z1 r0 r1 WZ
  go_upto_if 26 with fail
  go_cut [7] (fun v wc=>v=.int .i64 q∧wc=w4)
  case first =>
   cases pb
   all_goals
    have hq:=HQ.out;simp only[if_true,Bool.false_eq_true,if_false] at hq;subst hq;go_wp2
    go_meet
    exact⟨rfl,rfl⟩
  case rest =>
   obtain⟨rfl,rfl⟩:=hcut
   obtain⟨w4,rfl⟩:∃ w4:World,w4=wc:=⟨_,rfl⟩
   obtain⟨r0,r1⟩:=lH G0;have Zq:=ay (fun W (hb:Below w4.heap.size w4 W)=>(Wh.out W (HT.out.below ((hb4.trans (hb.mono hb4.size)).mono hB)) (by have:=hb4.size;have:=hb.size;omega)).mono (R':=fun e w'=>e=.returned (.agg #[.int .i64 tk,.string ⟨tl.toArray⟩,.string ⟨tt.toArray⟩,.int .i64 tp])∧Below w4.heap.size w4 w'∧Below W.heap.size W w') fun e w' h=>⟨h.1,hb.trans (h.2.mono hb.size),h.2⟩);clear d0 d1 d2 d3 d4 d5 d6 d7 d8 d9 d10 d11 d12 d13 d14 dz
   go_upto_region 6 with fail
   go_cut [8] (fun p wc=>∃ Y:Nat,p=.pointer (some ⟨Y,0,none⟩)∧wc.heap[Y]?=some (.cells #[.int .i64 tk,.string ⟨tl.toArray⟩,.string ⟨tt.toArray⟩,.int .i64 tp] 131 (0,0))∧Below w4.heap.size w4 wc)
   case first =>
    go_region_held3 (fun w'=>w'.cell? ⟨w.heap.size,0,none⟩=some (.slice a1 ah.length c1)∧w'.cell? ⟨w.heap.size,1,none⟩=some (.slice (some ⟨b,off,none⟩) aj.length cap)∧w'.cell? ⟨bk,ok+q,none⟩=some (.int .i64 k1))
     (first|go_keep|exact p3|exact⟨(bX w3 w4.heap.size _ _ _ _ (by omega)).trans p3.1,(bX w3 w4.heap.size _ _ _ _ (by omega)).trans p3.2.1,(bX w3 w4.heap.size _ _ _ _ (by omega)).trans p3.2.2⟩)
     (first|(go_at_call 61;refine(Zq.out _ ?_).mono ?_;(first|exact(bI _ _).drew|exact((bI _ _).alloc (bD _) _).drew);rintro e w3 ⟨rfl,hq3,hb3⟩;have p3:=And.intro (iW hq3 r0) (And.intro (iW hq3 r1) (iW hq3 Z1'));try (have FT:=(hb3.block w4.heap.size (by simp)).trans (aY w4 (.cells #[.int .i64 0,.string ⟨#[]⟩,.string ⟨#[]⟩,.int .i64 0] 131));obtain⟨Zr,Zt,Zu,Zv,Zw⟩:=oI FT)))
    ·clear r0 r1 Z1' p3
     go_wp2_with fail
     go_meet
     exact⟨w3.heap.size,rfl,aY _ _,hq3.alloc hq3.size _⟩
    ·obtain⟨S3,So,_⟩:=yH FT (.int .i64 tk) (.string ⟨tl.toArray⟩) (.string ⟨tt.toArray⟩) (.int .i64 tp)
     clear r0 r1 Z1' p3 Zr Zt Zu Zv Zw;go_wp2_with fail
     go_meet
     exact⟨w4.heap.size,rfl,S3,(((hq3.setCell (bD _) _).setCell (bD _) _).setCell (bD _) _).setCell (bD _) _⟩
   case rest =>
    obtain⟨Y,rfl,hY,ab1⟩:=hcut
    obtain⟨w5,rfl⟩:∃ w5:World,w5=wc:=⟨_,rfl⟩
    have hX5:=(ab1.block X hX4).trans hX;have hb5:Below w2.heap.size w2 w5:=hbc.trans (ab1.mono zF);have ahP:X<w5.heap.size:=Nat.lt_of_lt_of_le hX4 ab1.size;obtain⟨f2,f3⟩:=uN hY;obtain⟨⟨d0,d1,d2,d3,d4⟩,⟨d5,d6,d7,d8,d9⟩,⟨d10,d11,d12,d13,d14⟩,dz⟩:=gL hX5;clear hX hbc ab1 Z1' r0 r1 Zq hb4 G0 G1 hY
    go_upto_region 7 with fail
    go_cut [] (fun wc=>wc.heap[X]?=some (.cells (Gg pb tt (.slice none 0 0) 0 (.slice none 0 0) tp 0) 66 (0,0))∧Below w2.heap.size w2 wc)
    case first =>
     go_region
     all_goals
      go_wp2_with fail
      go_meet
      have T1:=heap_setCell_same w5 X 1 _ _ (.string ⟨tt.toArray⟩) hX5;have T2:=heap_setCell_same _ X 13 _ _ (.int .i64 tp) T1;exact⟨T2,((hb5.setCell hXl _).setCell hXl _).drew⟩
    case rest =>
     obtain⟨hX6,hb6⟩:=hcut
     obtain⟨w6,rfl⟩:∃ w6:World,w6=wc:=⟨_,rfl⟩
     have hz6:=hb6.size;have agF:=(bS hX6).1;have V6:Below w.heap.size w w6:=cB.trans (hb6.mono hz2);have G0:=(hb6.block w.heap.size (by omega)).trans g0;obtain⟨r0,r1⟩:=lH G0;have HAW:=ay (HTY.out w6 (HT.out.below (V6.mono hB)) (jc hB V6.size));clear d0 d1 d2 d3 d4 d5 d6 d7 d8 d9 d10 d11 d12 d13 d14 dz f2 f3 hX5 hb5 HTY;go_wp2_with (go_at_call 106;refine HAW.out.mono ?_);rintro e w7 ⟨ao,cc,rfl,hrow,wR⟩;have hX7:=(wR.block X agF).trans hX6;obtain⟨⟨d0,d1,d2,d3,d4⟩,⟨d5,d6,d7,d8,d9⟩,⟨d10,d11,d12,d13,d14⟩,dz⟩:=gL hX7;clear r0 r1 HAW
     go_upto_region 9 with fail
     have T1:=heap_setCell_same w7 X 3 _ _ (.int .i64 a.base) hX7;have T2:=heap_setCell_same _ X 4 _ _ (.slice ao a.aC.length cc) T1;have T3:=heap_setCell_same _ X 14 _ _ (.int .i64 a.bare) T2;have hX8:(((w7.setCell ⟨X,3,none⟩ (.int .i64 a.base)).setCell ⟨X,4,none⟩ (.slice ao a.aC.length cc)).setCell ⟨X,14,none⟩ (.int .i64 a.bare)).heap[X]?=some (.cells (Gg pb tt (.slice none 0 0) a.base (.slice ao a.aC.length cc) tp a.bare) 66 (0,0)):=T3;have afn:Below w2.heap.size w2 w7:=hb6.trans (wR.mono hz6);have mU:Below w2.heap.size w2 (((w7.setCell ⟨X,3,none⟩ (.int .i64 a.base)).setCell ⟨X,4,none⟩ (.slice ao a.aC.length cc)).setCell ⟨X,14,none⟩ (.int .i64 a.bare)):=((afn.setCell hXl _).setCell hXl _).setCell hXl _
     have hs:∀ (W:World) (j:Nat) (v:Value),aW (fun b=>w6.heap.size≤b) W (W.setCell ⟨X,j,none⟩ v):=fun W j v=>aW.set v fun b hb=>by show b≠X;omega
     have ZJ:=hrow.frame (((hs w7 3 (.int .i64 a.base)).trans (hs _ 4 (.slice ao a.aC.length cc))).trans (hs _ 14 (.int .i64 a.bare)))
     have hz8:w6.heap.size≤(((w7.setCell ⟨X,3,none⟩ (.int .i64 a.base)).setCell ⟨X,4,none⟩ (.slice ao a.aC.length cc)).setCell ⟨X,14,none⟩ (.int .i64 a.bare)).heap.size:=by simpa using wR.size
     clear T1 T2 T3 hX7 hX6 hb6 wR afn hs hrow d0 d1 d2 d3 d4 d5 d6 d7 d8 d9 d10 d11 d12 d13 d14 dz G0 V6;generalize ((w7.setCell _ _).setCell _ _).setCell _ _=wl at hX8 mU ZJ hz8 ⊢
     have agG:X<wl.heap.size:=by omega
     have hzl:=mU.size;have G0:=(mU.block w.heap.size (by omega)).trans g0;have G1:=(mU.block (w.heap.size+1) hlt2).trans g1;go_wp2
     go_loopw [51] (fun q' wr=>∃ (j n:Nat) (ap:Option Addr) (cp:Nat),j≤ks.length∧n=(fU ah u (d.its.take j)).length∧q'=.int .i64 j∧aW (fun b=>b<wl.heap.size∧b≠X) wl wr∧wr.heap[X]?=some (.cells (Gg pb tt (.slice ap n cp) a.base (.slice ao a.aC.length cc) tp a.bare) 66 (0,0))∧gF (FK XA) wl.heap.size 68 wr (.slice ap n cp) (fU ah u (d.its.take j))∧Below w2.heap.size w2 wr) (fun q' _=>ks.length - (intOf q').toNat)
     case atStart=>exact⟨0,0,none,0,lI _,by rw[List.take_zero,fU];rfl,rfl,aW.refl _ _,hX8,by rw[List.take_zero,fU];exact gF.nil _ _ _ _,mU⟩
     case round =>
      obtain⟨j,n,ap,cp,hj,hn,rfl,fF,hXr,hrow,hbl⟩:=hrel;have afo:=fF.1;have hr0:=(fF.2 w.heap.size ⟨by omega,by omega⟩ (by omega)).trans G0;have KX:Below w.heap.size w wr:=cB.trans (hbl.mono hz2);have agH:=F8 ah (d.its.take j) u;rw[← hn,qZ] at agH
      by_cases hjl:j<ks.length
      ·
       have hx:=(KX.cell (p:=⟨bk,ok+j,none⟩) (by show bk<_;omega)).trans (WW.out j hjl)
       have hjp:j<(dV u d.its).length:=by have:=HLK.out;omega
       have hrep:=HRP.out j hjl hjp;have hst:=HRD.out j hjp;have hmem:=mX hjp;generalize (dV u d.its)[j]=it at hrep hst hmem;obtain⟨it,v⟩:=it;simp only at hrep hst;generalize ks[j]=qk at hx hrep;obtain⟨m,xn,rfl,hnx,hkx⟩:=OM hrep;obtain⟨hm,V5⟩:=pJ hnx;obtain⟨b',off',jE,kv',e',_,y0,_,_,_⟩:=HT.out.node hm
       obtain⟨⟨rfl,rfl⟩,rfl⟩:(b=b'∧off=off')∧cap=jE:=by simpa using e'
       rw[V5] at y0;have y0':=(KX.cell (p:=⟨b,off+m * 3,none⟩) (by show b<_;omega)).trans y0
       have hmI:(m:Int)<(aj.length:Int):=by omega
       have JZ:(j:Int)<(ks.length:Int):=by omega
       obtain⟨r0',r1'⟩:=lH hr0;generalize fU ah u (d.its.take j)=acc at hn hrow hst;have HN:=ay hn;have HST:=ay hst;clear hn hst y0 e' hnx V5 hX8 mU G0 G1 g0 g1 Y2 cB
       by_cases hpar:∃ t,it=.par t
       ·obtain⟨tS,rfl⟩:=hpar
        have hk4:xn.kind=4:=hkx;rw[hk4] at y0';have HC:=ay (afm.out tS v hmem m wr.drew hrep (HT.out.below (KX.mono hB).drew) (jc hB KX.size));have hst':fU ah u (d.its.take (j+1))=acc++[tS.wB ah v]:=HST.out;generalize tS.wB ah v=f at HC hst';have HS2:=ay hst';obtain⟨KY,h1,hown,hes⟩:=hrow;rw[← HN.out] at hown;have adH:=(bS hXr).1;obtain⟨⟨d0,d1,d2,d3,d4⟩,⟨d5,d6,d7,d8,d9⟩,⟨d10,d11,d12,d13,d14⟩,dz⟩:=gL hXr
        have hlts:∀ b,some b=(Value.slice ap n cp).ownBlock→wl.heap.size≤b∧b<wr.heap.size:=fun b q=>hown.lt b q.symm
        have ZL:some X≠(Value.slice ap n cp).ownBlock:=fun q=>by have:=(hlts X q).1;omega
        clear hst' HST hk4 hkx hrep hmem d0 d1 d3 d4 d5 d6 d7 d8 d9 d10 d11 d12 d13 d14;have HL:=ay hlts;clear hlts;go_wp2
        go_region_law ((first
         | (refine step_append_lies _ (by rfl) _ _ _ (by rfl) wl.heap.size 68 ip _ 5 64 Tryz.underlying59 agy agz agA agB rfl (by omega) (.slice ap n cp) n _ (by rfl) ((own_below (nZ hown) hb2).alloc _) ⟨W2.heap.size,0,none⟩ 1 1 [.string ⟨f.name.toArray⟩,.int .i64 f.base,.slice ao2 f.aC.length cc2,.int .i64 f.at_,.int .i64 f.bare] (by rfl) (by rfl) (vv (cs:=#[.string ⟨f.name.toArray⟩,.int .i64 f.base,.slice ao2 f.aC.length cc2,.int .i64 f.at_,.int .i64 f.bare]) (t:=68) (fr:=(0,0)) (aY W2 _)) (by simp[Value.oneCell']) (by omega) (by unfold maxLen;omega) (by omega) (by have:=hb2.size;simp at this ⊢;omega) (W2.heap.size+1) (by simp) ?_;intro gg kE w5' gq gK vL JK;have qJ:=(gK.block X (by have:=hb2.size;simp at this ⊢;omega) ZL).trans ((gY W2 _ X (by have:=hb2.size;simp at this;omega)).trans yG);have r65:=(gL qJ).1.2.2.1;have z65:=(gL qJ).2.2.2 2)
         | (refine tq rfl 107 _ _ rfl HC.out (by rfl) (ent _ _) ?_;rintro e W2 ⟨ao2,cc2,rfl,hxe,hb2⟩;refine⟨_,rfl,?_⟩;have yG:=(hb2.block X adH).trans hXr;have X9:=(gL yG).1.2.2.1;have r63:=fun o=>Lib.cell?_alloc_some o X9)))
        all_goals
         obtain⟨q1,q2,q3⟩:=oJ.round (K:=FK XA) (Q:=fun b=>wl.heap.size≤b) (wr:=wr.drew) (kv:=.slice ap n cp) (UU:=.slice (some ⟨gg,0,none⟩) (n+1) kE) (acc:=acc) (a:=f) (x:=.slice ao2 f.aC.length cc2) (l:=KY) (show aW _ wl wr.drew from fF) agG (by omega) h1 (by rw[← HN.out];exact hown) (fun p hp=>(FK XA).frame (hes p hp) (aW.drew _ wr)) ((FK XA).imp (P:=fun b=>wr.drew.heap.size≤b) hxe fun b hb _=>⟨jc afo hb,fun q=>by have:=(HL.out b q).2;have:wr.drew.heap.size=wr.heap.size:=rfl;omega⟩) hb2 (by rw[← HN.out];exact gq) gK rfl vL 2 (.slice (some ⟨gg,0,none⟩) (n+1) kE);have zJ:(w5'.setCell ⟨X,2,none⟩ (.slice (some ⟨gg,0,none⟩) (n+1) kE)).heap[X]?=some (.cells (Gg pb tt (.slice (some ⟨gg,0,none⟩) (n+1) kE) a.base (.slice ao a.aC.length cc) tp a.bare) 66 (0,0)):=heap_setCell_same w5' X 2 _ _ _ qJ;have zK:=q3 w2.heap.size w2 hXl hbl.drew;clear gK gq vL qJ r65 z65 yG X9 r63 hxe hb2 HC hes hown fF hXr d2 dz hx y0' r0' r1' hr0 KX hbl h1;generalize w5'.setCell _ _=w6' at q1 q2 zJ zK ⊢;go_wp2
         go_roundw
         case rel =>
          refine⟨j+1,n+1,some ⟨gg,0,none⟩,kE,by omega,?_⟩;rw[HS2.out];exact⟨by rw[bN,← HN.out];rfl,by go_num,q2,zJ,q1,zK⟩
         case measure=>simp[intOf];omega
       ·have hne:=it.RX (fun t e=>hpar ⟨t,e⟩)
        have HPO:=ay (it.V8 ah v (fun t e=>hpar ⟨t,e⟩));rw[← hkx] at hne;generalize xn.kind=kx at y0' hne
        have t4:(kx == 4)=false:=by rw[← Bool.not_eq_true,beq_iff_eq];exact hne
        clear hne hpar hkx hrep hmem;go_wp2
        go_roundw
        case rel =>
         have e1:=HST.out;rw[HPO.out,List.append_nil] at e1;refine⟨j+1,n,ap,cp,by omega,?_⟩;rw[e1];exact⟨HN.out,by go_num,fF,hXr,hrow,hbl⟩
        case measure=>simp[intOf];omega
      ·obtain rfl:j=ks.length:=by omega
       have hti:d.its.take ks.length=d.its:=Au (by have:=HIT.out;omega);rw[hti,← HPS.out] at hn hrow;have JZ:decide ((ks.length:Int)<(ks.length:Int))=false:=dA (by omega);have HN:=ay hn;have adH:=(bS hXr).1;have G1r:=(fF.2 (w.heap.size+1) ⟨by omega,by omega⟩ (by omega)).trans G1
       have afp:RowK (EK XA) (fun b=>w6.heap.size≤b∧b<wl.heap.size) wr (.slice ao a.aC.length cc) a.aC:=(ZJ.imp (Q:=fun b=>(w6.heap.size≤b∧b<wl.heap.size)∧b<wl.heap.size∧b≠X) fun b hb hl=>⟨⟨hb,hl⟩,hl,by omega⟩).frame ⟨fF.1,fun b hb hl=>fF.2 b hb.2 hl⟩ |>.imp fun b hb _=>hb.1
       have hpr:=hrow.row
       have hz0:wr.cell? ⟨bk,ok+(ks.length - 2),none⟩=some (.int .i64 k2):=(iW hbl Z2)
       have HC:=ay (Lv.out wr.drew (HT.out.below (KX.mono hB).drew) (jc hB KX.size));obtain⟨r0',r1'⟩:=lH hr0;clear hn hti ZJ hX8 mU hrow fF G0 G1 g0 g1 Y2 Lv afm HRD HRP WW Z2
       have afq:w.heap.size≠X:=by omega
       have agI:bk≠X:=by omega
       have hwr2:IntKind.i64.wrap ((ks.length:Int) - 2)=(ks.length:Int) - 2:=IntWalk.i64_in _ (by omega)
       have hw0:(0:Int)≤(ks.length:Int) - 2:=by omega
       have hw2:(2:Int)≤(ks.length:Int):=by omega
       have hw3:(ks.length:Int) - 2<(ks.length:Int):=by omega
       have hw4:((ks.length:Int) - 2).toNat=ks.length - 2:=by omega
       go_wp2
       go_region_held3 (fun w'=>w'.cell? ⟨w.heap.size,0,none⟩=some (.slice a1 ah.length c1)∧w'.cell? ⟨w.heap.size,1,none⟩=some (.slice (some ⟨b,off,none⟩) aj.length cap)∧w'.cell? ⟨bk,ok+(ks.length - 2),none⟩=some (.int .i64 k2))
        (first|(with_reducible exact p3)|((try dsimp only);with_reducible exact And.intro ((yT w9 X _ _ _ _ _ _ _ _ afq).trans p3.1) (And.intro ((yT w9 X _ _ _ _ _ _ _ _ afq).trans p3.2.1) ((yT w9 X _ _ _ _ _ _ _ _ agI).trans p3.2.2)))|(go_keep;done))
        ((go_at_call 108;refine HC.out.mono ?_;rintro e w9 ⟨am,wn,cm,ae,ce,rfl,WY,C8⟩;have WV:Below wr.heap.size wr w9:=(bI wr.heap.size wr).drew.trans C8;have p3:=And.intro (iW WV r0') (And.intro (iW WV r1') (iW WV hz0));have hX9:=(WV.block X adH).trans hXr;obtain⟨⟨d0,d1,d2,d3,d4⟩,⟨d5,d6,d7,d8,d9⟩,⟨d10,d11,d12,d13,d14⟩,dz⟩:=gL hX9))
       obtain rfl:=HN.out
       have hle:w.heap.size≤X:=by omega
       have hR1:=(bS G1r).1;have afr:=Gf (show w9.heap[X]?=some (.cells #[.bool pb,.string ⟨tt.toArray⟩,.slice ap lg.length cp,.int .i64 a.base,.slice ao a.aC.length cc,.int .i64 0,.string ⟨#[]⟩,.string ⟨#[]⟩,.bool false,.slice none 0 0,.bool false,.slice none 0 0,.int .i64 0,.int .i64 tp,.int .i64 a.bare] 66 (0,0)) from hX9) (.int .i64 x.op) (.string ⟨x.name.toArray⟩) (.string ⟨x.module.toArray⟩) (.bool (decide (x.num<0))) (.slice am wn cm) (.bool x.yes) (.slice ae x.aA.length ce) (.int .i64 x.at_);have BH:=wL (KX.trans (WV.mono KX.size)) hle (.int .i64 x.op) (.string ⟨x.name.toArray⟩) (.string ⟨x.module.toArray⟩) (.bool (decide (x.num<0))) (.slice am wn cm) (.bool x.yes) (.slice ae x.aA.length ce) (.int .i64 x.at_)
       have hA:=fun P hP=>BM P w9 X (.int .i64 x.op) (.string ⟨x.name.toArray⟩) (.string ⟨x.module.toArray⟩) (.bool (decide (x.num<0))) (.slice am wn cm) (.bool x.yes) (.slice ae x.aA.length ce) (.int .i64 x.at_) hP
       have G10:=((hA (fun k=>k≠X) (fun k hk=>hk)).2 (w.heap.size+1) (by omega) (Nat.lt_of_lt_of_le hR1 WV.size)).trans ((WV.block _ hR1).trans G1r);have abt:=(hpr.frame (aW.of WV)).frame (hA (fun b=>wl.heap.size≤b) fun k hk=>by omega);have afs:=(afp.frame (aW.of WV)).frame (hA (fun b=>w6.heap.size≤b∧b<wl.heap.size) fun k hk=>by omega);have KS:=WY.frame (hA (fun b=>wr.drew.heap.size≤b) fun k hk=>by have:wr.drew.heap.size=wr.heap.size:=rfl;omega);clear p3 d0 d1 d2 d3 d4 d5 d6 d7 d8 d9 d10 d11 d12 d13 d14 dz hA hX9 WY WV C8 hwr2 hw0 hw2 hw3 hw4 r0' r1' hz0 HC hXr hr0 G1r hpr afp HN;generalize (World.setCell (World.setCell (World.setCell (World.setCell (World.setCell (World.setCell (World.setCell (World.setCell _ _ _) _ _) _ _) _ _) _ _) _ _) _ _) _ _)=mH at afr BH G10 abt afs KS ⊢;obtain⟨⟨d0,d1,d2,d3,d4⟩,⟨d5,d6,d7,d8,d9⟩,⟨d10,d11,d12,d13,d14⟩,dz⟩:=gL afr;obtain⟨⟨e0,e1,e2,e3,e4⟩,⟨e5,e6,e7,e8,e9⟩,⟨e10,e11,e12,e13,e14⟩,ez⟩:=gL G10;go_wp2;refine bodyPost_ret (v:=.agg #[.bool pb,.string ⟨tt.toArray⟩,.slice ap lg.length cp,.int .i64 a.base,.slice ao a.aC.length cc,.int .i64 x.op,.string ⟨x.name.toArray⟩,.string ⟨x.module.toArray⟩,.bool (decide (x.num<0)),.slice am wn cm,.bool x.yes,.slice ae x.aA.length ce,.int .i64 x.at_,.int .i64 tp,.int .i64 a.bare]) (by simp[results,Tryz.results62,go_sem,e0,e1,e2,e3,e4,e5,e6,e7,e8,e9,e10,e11,e12,e13,e14]) rfl ⟨ap,cp,ao,cc,am,wn,cm,ae,ce,rfl,⟨?_,?_,?_⟩,?_⟩
       ·exact(abt.frame (BN _ _ _ _ _ _ _ _ _ _ _ _ _ _ _ _ _ _ fun k hk=>by omega)).imp fun b hb _=>by omega
       ·exact(afs.frame (BN _ _ _ _ _ _ _ _ _ _ _ _ _ _ _ _ _ _ fun k hk=>by omega)).imp fun b hb _=>by omega
       ·exact(KS.frame (BN _ _ _ _ _ _ _ _ _ _ _ _ _ _ _ _ _ _ fun k hk=>by have:wr.drew.heap.size=wr.heap.size:=rfl;omega)).imp fun b hb _=>by have:wr.drew.heap.size=wr.heap.size:=rfl;omega
       ·exact wK BH (by omega) _ _ _ _ _ _ _ _ _ _ _ _ _ _ _
