/- Walks and plain laws, without a condition. -/
import Derived.Test.YtmleecdnkmoohaaGreatDoorK05
import Derived.Laws.AppendOwnNone
import Derived.Lib.SliceRun
import Derived.Shelf.Abstract
set_option maxHeartbeats 16000000
set_option maxRecDepth 100000
set_option linter.unusedVariables false
set_option linter.unusedSimpArgs false
namespace Go.Proofs.YtmleecdnkmoohaaGreatDoor
open Go.RowKit Go
variable{s:aK}{n B b op at_:Nat}{kv v m k:Value}{w wr w' W0:World}{R:List Nat}{E:bG}{ks:List Int}{x:PE}{P:Nat->Prop}
def Yd (E:bG)(l:List Int × aK)(w:World)(e:Ending)(w':World):Prop:=∃ v,e=.returned v/\eO w' v l.1/\(l.1=[]->v=.slice none 0 0)/\PW E l.2 w'/\Kp E.B w w'
def adW (E:bG)(one:aK->Option (Int × aK))(res:List Int × aK)(w0:World)(kv nv:Value)(wr:World):Prop :=
 ∃ (r m:Nat) (aB:List Int) (s:aK) (R:List Nat),nv=.int .i64 (m:Nat)/\m+r=9/\aB.length+2 * r<=16/\bE E.ah one r aB s=some res /\
  wr.ownsRow w0.heap.size 3 1 kv aB.length (aB.map (Value.int .i64))/\(∀ b,kv.ownBlock=some b->b∈R)/\(∀ r∈E.R,r∈R)/\(aB=[]->kv=.slice none 0 0)/\PR E R s wr/\Kp E.B w0 wr
theorem PR.fA {E:bG}{R:List Nat}{st:aK}{w:World}(h:PR E R st w):E.B<=w.heap.size:=PW.fA (E:={ E with R:=R }) h
theorem mV {w0:World}{aB:List Int}{res:List Int × aK}(ho:w.ownsRow w0.heap.size 3 1 kv n (aB.map (Value.int .i64)))(hR:∀ r∈E.R,r∈R)(hp:PR E R s w)(hk:Kp E.B w0 w)(h:(aB,s)=res)(h0:aB=[]->kv=.slice none 0 0):Yd E res w0 (.returned kv) w:=by
 subst h;exact⟨kv,rfl,eO.fQ ho,h0,hp.drop hR,hk⟩
theorem qc {base:Nat}{xs:List Value}(h:w.ownsRow base 3 1 v n xs):∃ ao cap,v=.slice ao n cap:=by
 rcases h.2 with ⟨hv,hn0⟩|⟨g,cap,cur,hv,_⟩
 ·exact⟨none,0,by rw[hv,hn0]⟩
 ·exact⟨_,cap,hv⟩
theorem Jk (E:bG)(hE:E.ok)(one:aK->Option (Int × aK))(cp cn:Nat)(st:aK)(res:List Int × aK)(w:World)(h:jW E.ah one st=some res)(hp:PW E st w)(hn:res.2.aj.length+1<=1099511627776)
  (hext:∀ s k,one s=some k->dR s k.2)
  (hone:∀ (R:List Nat) (s:aK) (k:Int × aK) (w':World),one s=some k->PR E R s w'->Kp E.B w w'->k.2.aj.length+1<=1099511627776 ->
   Calls Tryz.prog 319 #[.pointer (some ⟨cp,0,none⟩),.pointer (some ⟨cn,0,none⟩)] w' (eu { E with R:=R } k w')) :
  Calls Tryz.prog 159 #[.pointer (some ⟨E.pb,0,none⟩),.func (.func 319) #[] #[.pointer (some ⟨cp,0,none⟩),.pointer (some ⟨cn,0,none⟩)]] w (Yd E res w):=by
 have vQ:=hE.2.2;obtain⟨i0,hi,hz0,hz1,hz2⟩:=info_parts Tryz.nQ;unfold jW at h
 by_cases hx:bF E.ah st [[41]]=true
 ·rw[bR hx] at h
  injection h with h;subst h
  have HX:=ay (dY E hE ⟨#[41]⟩ st true hx);clear hx hone hext;go_enter Tryz.func159,Tryz.ntmps159;go_wp2_with (go_at_call 155;refine(HX.out w hp).mono ?_);rintro e w1 ⟨rfl,hp1,hk1⟩;go_wp2;go_ret;exact⟨_,rfl,⟨none,0,rfl,bD _,λq=>absurd q (by simp)⟩,λ_=>rfl,hp1,hk1⟩
 ·rw[aU hx] at h
  have HX:=ay (dY E hE ⟨#[41]⟩ st false (eq_false_of_ne_true hx));have H0:=ay h;have EM:=ay hone;have Io:=ay hext;have HN:=ay hn;have HE:=ay hE;clear hx hone hext h hn;go_enter Tryz.func159,Tryz.ntmps159;go_wp2_with (go_at_call 155;refine(HX.out w hp).mono ?_);rintro e w1 ⟨rfl,hp1,hk1⟩;go_wp2
  go_loopw [5,6] (λkv nv wr=>adW E one res w kv nv wr) (λ_ nv _=>10 - (intOf nv).toNat)
  case atStart=>exact⟨8,1,[],st,E.R,rfl,rfl,by simp,H0.out,World.ownsRow_nil _ _ _ _,λ_ q=>by simp[Value.ownBlock] at q,λ_ q=>q,λ_=>rfl,hp1,hk1⟩
  case round =>
   obtain⟨r,m,aB,s,R,rfl,hm,hkl,hl,hown,hR,hER,hnil,hps,hks⟩:=hrel;obtain⟨ao,cap,rfl⟩:=qc hown;have yg:=ay hnil;clear hnil;have hBw:E.B<=w.heap.size:=hp.fA
   by_cases hf:s.fE=0
   ·have HO:=ay (kr { E with R:=R } s hf)
    cases r with
    | zero =>
     obtain rfl:m=9:=by omega
     rw[bE,bR hf] at hl
     injection hl with hl
     have HF:=ay (λw hp=>mQ { E with R:=R } HE.out 15 s w hp);have HL:=ay hl;clear hl hf;go_wp2_with (go_at_call 104;refine(HO.out _ hps).mono ?_);rintro e w2 ⟨rfl,hp2,hk2⟩;go_wp2_with (go_at_call 156;refine(HF.out _ hp2).mono ?_);rintro e w3 ⟨rfl,hp3,eP⟩;have kK:=iH (iH hown hk2) eP;go_wp2;go_ret;exact mV kK hER hp3 ((hks.trans hk2).trans eP) HL.out yg.out
    | succ r =>
     rw[bE,aU (by simp[hf])] at hl;obtain⟨k,h1,hl⟩:=cZ hl;have d8:decide (8<(m:Int))=false:=dX (by omega);have d8':decide (8<m)=false:=dX (by omega)
     have hnk:k.2.aj.length+1<=1099511627776:=by
      split at hl
      ·exact aL ((aQ _ _).trans (nL _ one Io.out _ _ _ _ hl)) HN.out
      ·injection hl with hl;rw[<- hl] at HN;exact HN.out
     have HK:=ay (λw' hp hk=>EM.out R s k w' h1 hp hk hnk);have HL:=ay hl;clear hl h1 hf;go_wp2_with (go_at_call 104;refine(HO.out _ hps).mono ?_);rintro e w2 ⟨rfl,hp2,hk2⟩;go_wp2_with (go_at_call 319;refine(HK.out _ hp2 (hks.trans hk2)).mono ?_);rintro e w3 ⟨rfl,hp3,eP⟩;have QA:PR E R k.2 w3:=hp3;clear hp3;have kK:=iH (iH hown hk2) eP;have yU:PR E R k.2 (w3.alloc (.cells #[.int .i64 k.1] 3)):=PW.later QA (aA w3 _);have hnw:=aX w3 (.cells #[.int .i64 k.1] 3);have uN:Kp E.B w (w3.alloc (.cells #[.int .i64 k.1] 3)):=((hks.trans hk2).trans eP).trans (Kp.of (aA w3 _) QA.fA);have nR:=kK.alloc (.cells #[.int .i64 k.1] 3);have adX:w.heap.size<=w3.heap.size:=((hks.trans hk2).trans eP).size;go_wp2_with (at_builtin;refine wpList_append_lies _ rfl _ _ 46 rfl w.heap.size 3 i0 (.int .i64 0) 1 8 Tryz.underlying46 hi hz0 hz1 hz2 rfl (by decide) _ _ _ rfl nR ⟨w3.heap.size,0,none⟩ 1 1 [.int .i64 k.1] rfl rfl ?c1 ?c2 ?c3 ?c4 ?c5 ?c6 _ rfl ?_)
     case c1=>exact vL (cs:=#[.int .i64 k.1]) (t:=3) (fr:=(0,0)) hnw
     case c2=>simp[Value.oneCell']
     case c3=>omega
     case c4=>unfold maxLen;omega
     case c5=>omega
     case c6=>simp;omega
     intro g cap4 w4 zO yX Ye Yf;obtain⟨R4,hR4,hg4,qO⟩:=yU.append nR hBw hR yX Ye (by simp) Yf;have hk4:=uN.grown nR (bD _) hBw yX
     have uO:w4.ownsRow w.heap.size 3 1 (.slice (some ⟨g,0,none⟩) (aB.length+1) cap4) (aB.length+1) ((aB++[k.1]).map (Value.int .i64)):=by rw[xZ];exact zO
     have KQ:∀ r∈E.R,r∈R4:=λr hr=>hR4 r (hER r hr)
     clear yU hnw uN nR yX Ye Yf kK zO hk2 eP hp2 QA hown hps hks HO HK HX H0 EM adX hR4
     by_cases KC:k.2.fE=0
     ·have Yg:=ay (kr { E with R:=R4 } k.2 KC)
      by_cases hx4:bF E.ah k.2 [[44]]=true
      ·have hl:=HL.out
       rw[bR ⟨KC,hx4⟩] at hl;have HX4:=ay (dY { E with R:=R4 } HE.out ⟨#[44]⟩ k.2 true hx4);have HLF:=ay (λw hp=>bT { E with R:=R4 } k.2 w hp HE.out.1 HE.out.2.1 hnk);have HL2:=ay hl;clear hl HL KC hx4;go_wp2_with (go_at_call 104;refine(Yg.out _ qO).mono ?_);rintro e w5 ⟨rfl,tJ,iN⟩;go_wp2_with (go_at_call 155;refine(HX4.out _ tJ).mono ?_);rintro e w6 ⟨rfl,EU,mR⟩;obtain⟨d0,_,_,_,_,_⟩:=EU.cells;go_wp2_with (go_at_call 157;refine(HLF.out _ EU).mono ?_);rintro e w7 ⟨rfl,Ik,tK⟩;clear d0;have QB:PR E R4 (aF E.ah k.2).2 w7:=Ik;clear Ik;have M9:=iH (iH (iH uO iN) mR) tK;have QC:=((hk4.trans iN).trans mR).trans tK;have yU:PR E R4 (aF E.ah k.2).2 (w7.alloc (.cells #[.int .i64 (aF E.ah k.2).1] 3)):=PW.later QB (aA w7 _);have hnw:=aX w7 (.cells #[.int .i64 (aF E.ah k.2).1] 3);have uN:Kp E.B w (w7.alloc (.cells #[.int .i64 (aF E.ah k.2).1] 3)):=QC.trans (Kp.of (aA w7 _) QB.fA);have nR:=M9.alloc (.cells #[.int .i64 (aF E.ah k.2).1] 3);have afM:w.heap.size<=w7.heap.size:=QC.size
       have hv4:∀ b,(Value.slice (some ⟨g,0,none⟩) (aB.length+1) cap4).ownBlock=some b->b∈R4:=λb hb=>by
        simp only[Value.ownBlock,Option.some.injEq] at hb;subst hb;exact hg4
       go_wp2_with (at_builtin;refine wpList_append_lies _ rfl _ _ 46 rfl w.heap.size 3 i0 (.int .i64 0) 1 8 Tryz.underlying46 hi hz0 hz1 hz2 rfl (by decide) _ _ _ rfl nR ⟨w7.heap.size,0,none⟩ 1 1 [.int .i64 (aF E.ah k.2).1] rfl rfl ?c1 ?c2 ?c3 ?c4 ?c5 ?c6 _ rfl ?_)
       case c1=>exact vL (cs:=#[.int .i64 (aF E.ah k.2).1]) (t:=3) (fr:=(0,0)) hnw
       case c2=>simp[Value.oneCell']
       case c3=>omega
       case c4=>unfold maxLen;omega
       case c5=>omega
       case c6=>simp;omega
       intro g8 QD w8 wE oK EY yY;obtain⟨R8,hR8,hg8,Mc⟩:=yU.append nR hBw hv4 oK EY (by simp) yY;have DI:=uN.grown nR (bD _) hBw oK
       have QE:w8.ownsRow w.heap.size 3 1 (.slice (some ⟨g8,0,none⟩) (aB.length+1+1) QD) (aB++[k.1,(aF E.ah k.2).1]).length ((aB++[k.1,(aF E.ah k.2).1]).map (Value.int .i64)):=by
        rw[xZ,bY];exact wE
       have hv8:∀ b,(Value.slice (some ⟨g8,0,none⟩) (aB.length+1+1) QD).ownBlock=some b->b∈R8:=λb hb=>by
        simp only[Value.ownBlock,Option.some.injEq] at hb;subst hb;exact hg8
       have adY:∀ r∈E.R,r∈R8:=λr hr=>hR8 r (KQ r hr)
       clear yU hnw uN nR oK EY yY M9 wE QC uO hk4 iN mR tK qO tJ EU QB Yg HX4 HLF hR8 hv4 KQ hg4;go_wp2
       go_roundw
       case rel=>exact⟨r,m+1,_,_,R8,by go_num,by omega,by simp;omega,HL2.out,QE,hv8,adY,(λq=>by simp at q),Mc,DI⟩
       case measure=>simp[intOf];omega
      ·have hl:=HL.out
       rw[aU (λq=>hx4 q.2)] at hl
       injection hl with hl
       have HX4:=ay (dY { E with R:=R4 } HE.out ⟨#[44]⟩ k.2 false (eq_false_of_ne_true hx4));have HL2:=ay hl;clear hl HL KC hx4;go_wp2_with (go_at_call 104;refine(Yg.out _ qO).mono ?_);rintro e w5 ⟨rfl,tJ,iN⟩;go_wp2_with (go_at_call 155;refine(HX4.out _ tJ).mono ?_);rintro e w6 ⟨rfl,EU,mR⟩;have hown6:=iH (iH uO iN) mR;go_wp2;go_ret;exact mV hown6 KQ EU ((hk4.trans iN).trans mR) HL2.out (λq=>by simp at q)
     ·have hl:=HL.out
      rw[aU (λq=>KC q.1)] at hl
      injection hl with hl
      have Yg:=ay (vF { E with R:=R4 } k.2 KC);have HL2:=ay hl;clear hl HL KC;go_wp2_with (go_at_call 104;refine(Yg.out _ qO).mono ?_);rintro e w5 ⟨rfl,tJ,iN⟩;have gB:=iH uO iN;go_wp2;go_ret;exact mV gB KQ tJ (hk4.trans iN) HL2.out (λq=>by simp at q)
   ·have HO:=ay (vF { E with R:=R } s hf)
    have hl':(aB,s)=res:=by
     cases r with
     | zero=>rw[bE,aU hf] at hl;injection hl
     | succ r=>rw[bE,bR hf] at hl;injection hl
    have HL:=ay hl';clear hl hl' hf;go_wp2_with (go_at_call 104;refine(HO.out _ hps).mono ?_);rintro e w2 ⟨rfl,hp2,hk2⟩;have hown2:=iH hown hk2;go_wp2;go_ret;exact mV hown2 hER hp2 (hks.trans hk2) HL.out yg.out
theorem Jl (E:bG)(g aG cp cn:Nat)(ih:DC E g)(st:aK)(r:Int × aK)(w:World)(h:run E.ah E.depth g (.expr (aG+1)) st=some r)(hp:PW E st w)(hn:r.2.aj.length+1<=1099511627776)(dJ:aG<=E.depth)(vQ:E.depth<=1000)
  (c1:w.cell? ⟨cp,0,none⟩=some (.pointer (some ⟨E.pb,0,none⟩))) (c2:w.cell? ⟨cn,0,none⟩=some (.int .i64 aG)) :
  Calls Tryz.prog 319 #[.pointer (some ⟨cp,0,none⟩),.pointer (some ⟨cn,0,none⟩)] w (eu E r w):=by
 have HE:=ay (ih _ _ _ w h hp hn (by show aG+1<=_;omega));clear h hp hn ih;go_enter Tryz.func319,Tryz.ntmps319;go_wp2_with (go_at_call 162;refine HE.out.mono ?_);rintro e w1 ⟨rfl,hp1,hk1⟩;go_wp2;go_ret;exact⟨rfl,hp1,hk1⟩
theorem aci (w:World)(base:Nat)(x:Int)(hb:base<=w.heap.size):(w.alloc (.cells #[.int .i64 x] 3)).ownsRow base 3 1 (.slice (some ⟨w.heap.size,0,none⟩) 1 1) 1 ([x].map (Value.int .i64)) :=
 ⟨rfl,.inr ⟨w.heap.size,1,_,rfl,hb,aX _ _,bD _,by unfold maxLen;omega,rfl,rfl⟩⟩
def jF (E:bG)(aG:Nat)(w:World):World:=(w.alloc (.cells #[.pointer (some ⟨E.pb,0,none⟩)] 151)).alloc (.cells #[.int .i64 aG] 3)
theorem sD (E:bG)(aG:Nat)(w:World):Below w.heap.size w (jF E aG w):=((bQ _ _).alloc (bD _) _).alloc (by simp) _
theorem jh (E:bG)(aG:Nat)(hk:Kp B (jF E aG w) wr):wr.cell? ⟨w.heap.size,0,none⟩=some (.pointer (some ⟨E.pb,0,none⟩)):=by
 have h1:(jF E aG w).heap[w.heap.size]?=some (.cells #[.pointer (some ⟨E.pb,0,none⟩)] 151 (0,0)):=(gZ _ _ _ (by simp)).trans (aX _ _);rw[aZ (hk.2 _ _ _ _ h1 (by decide) (by decide) (by decide))];rfl
theorem Tm (E:bG)(aG:Nat)(hk:Kp B (jF E aG w) wr):wr.cell? ⟨w.heap.size+1,0,none⟩=some (.int .i64 aG):=by
 have h1:(jF E aG w).heap[w.heap.size+1]?=some (.cells #[.int .i64 aG] 3 (0,0)):=by
  have:=aX (w.alloc (.cells #[.pointer (some ⟨E.pb,0,none⟩)] 151)) (.cells #[.int .i64 aG] 3);rw[show (w.alloc (.cells #[.pointer (some ⟨E.pb,0,none⟩)] 151)).heap.size=w.heap.size+1 by simp] at this;exact this
 rw[aZ (hk.2 _ _ _ _ h1 (by decide) (by decide) (by decide))];rfl
def jG (E:bG)(W0:World)(R:List Nat)(v:Value)(ks:List Int)(s:aK)(w:World):Prop :=
 w.ownsRow W0.heap.size 3 1 v ks.length (ks.map (Value.int .i64))/\(∀ b,v.ownBlock=some b->b∈R)/\(∀ r∈E.R,r∈R)/\PR E R s w/\Kp E.B W0 w
theorem jG.call {s':aK}(h:jG E W0 R v ks s w)(hp:PW { E with R:=R } s' w')(hk:Kp E.B w w'):jG E W0 R v ks s' w' :=
 ⟨iH h.1 hk,h.2.1,h.2.2.1,hp,h.2.2.2.2.trans hk⟩
theorem jG.lit (h:jG E W0 R v ks s w)(o:Obj):jG E W0 R v ks s (w.alloc o) :=
 ⟨h.1.alloc o,h.2.1,h.2.2.1,PW.later h.2.2.2.1 (aA w o),h.2.2.2.2.trans (Kp.of (aA w o) h.2.2.2.1.fA)⟩
theorem jG.app {news:List Int}{wA:World}{g n' cap H:Nat}(h:jG E W0 R v ks s wA)(hB:E.B<=W0.heap.size)(hn:(ks++news).length=n)
  (ho:w'.ownsRow W0.heap.size 3 1 (.slice (some ⟨g,0,none⟩) n' cap) n (ks.map (Value.int .i64)++news.map (Value.int .i64))) (hg:wA.grownBy w' v.ownBlock) (hat:v.ownBlock=some g\/g=H) (hH:wA.heap.size=H) (hlt:g<w'.heap.size) :
  ∃ R',jG E W0 R' (.slice (some ⟨g,0,none⟩) n' cap) (ks++news) s w':=by
 obtain⟨h1,h2,h3,h4,h5⟩:=h;obtain⟨R',r1,r2,r3⟩:=h4.append h1 hB h2 hg hat hH hlt;refine⟨R',?_,λb hb=>?_,λr hr=>r1 r (h3 r hr),r3,h5.grown h1 (bD _) hB hg⟩
 ·rw[xZ,hn];exact ho
 ·simp only[Value.ownBlock,Option.some.injEq] at hb;subst hb;exact r2
theorem jG.start (x:Int)(hp:PW E s w)(hk:Kp E.B W0 w):jG E W0 (w.heap.size :: E.R) (.slice (some ⟨w.heap.size,0,none⟩) 1 1) [x] s (w.alloc (.cells #[.int .i64 x] 3)) :=
 ⟨aci w _ x hk.size,λb hb=>by simp only[Value.ownBlock,Option.some.injEq] at hb;subst hb;exact Cu,λr hr=>Dy _ hr,PR.take hp.pr (aA w _) _ (bD _) (by simp),hk.trans (Kp.of (aA w _) hp.fA)⟩
theorem jG.node (h:jG E W0 R v ks s w):eO w v ks:=eO.fQ h.1
theorem Ab (ah:List Tok)(one:aK->Option (Int × aK)):∀ (r:Nat) (aB:List Int) (st:aK) (l:List Int × aK),bE ah one r aB st=some l->l.1.length<=aB.length+2 * r
 | 0,aB,st,l,h=>by rw[bE] at h;injection h with h;subst h;simp
 | r+1,aB,st,l,h=>by
  rw[bE] at h
  split at h
  ·injection h with h;subst h;simp
  ·obtain⟨k,h1,h⟩:=cZ h
   split at h
   ·have:=Ab ah one r _ _ _ h
    simp only[bY,fu,jC] at this;omega
   ·injection h with h;subst h;simp;omega
theorem Jm (ah:List Tok)(one:aK->Option (Int × aK))(st:aK)(l:List Int × aK)(h:jW ah one st=some l):l.1.length<=16:=by
 unfold jW at h
 split at h
 ·injection h with h;subst h;simp
 ·simpa using Ab ah one 8 [] st l h
theorem QF (E:bG)(hE:E.ok)(g:Nat)(aG:Nat)(st:aK)(r:Int × aK)(w:World)(h:run E.ah E.depth (g+1) (.name aG) st=some r)(hp:PW E st w)(hn:r.2.aj.length+1<=1099511627776)(adQ:aG<=E.depth)
  (hcase:(aF E.ah st).2.aC=true\/bF E.ah (aF E.ah st).2 [[46],[40]]=false) :
  Calls Tryz.prog 316 #[.pointer (some ⟨E.pb,0,none⟩),.int .i64 aG] w (eu E r w):=by
 have vQ:=hE.2.2;obtain⟨i0,hi,hz0,hz1,hz2⟩:=info_parts Tryz.nQ;rw[run] at h;have hA:PW E st (jF E aG w):=hp.later (sD E aG w);have uN:Kp E.B w (jF E aG w):=Kp.of (sD E aG w) hp.fA
 ·rw[bR hcase] at h
  injection h with h;subst h
  have n2:=aL (aM _ _ _) hn;have n1:=aL (aQ _ _) n2;have HL:=ay (λw hp=>bT E st w hp hE.1 hE.2.1 n1);have HN:=ay (λw hp v hv=>lI E 14 v [(aF E.ah st).1] (aF E.ah st).2 w hp hv (by simp) n2);clear n1 n2 hn
  by_cases hcl:(aF E.ah st).2.aC=true
  ·have hc:=ay hcl
   clear hcase hcl;have hA':PW E st ((w.alloc (.cells #[.pointer (some ⟨E.pb,0,none⟩)] 151)).alloc (.cells #[.int .i64 aG] 3)):=hA;obtain⟨d0,_,_,_,_,_⟩:=hA'.cells;go_enter Tryz.func316,Tryz.ntmps316;go_wp2_with (go_at_call 157;refine(HL.out _ hA').mono ?_);rintro e w1 ⟨rfl,hp1,EZ⟩;have hk1:Kp E.B (jF E aG w) w1:=EZ;clear d0 EZ hA';have hpB:=hp1.later (aA w1 (.cells #[.int .i64 (aF E.ah st).1] 3));have hkB:=hk1.trans (Kp.of (aA w1 (.cells #[.int .i64 (aF E.ah st).1] 3)) hp1.fA);have p1:=jh E aG hkB;obtain⟨_,_,c1,_,_,_⟩:=hpB.cells;rw[hc.out] at c1;have hiB:=EP w1 [(aF E.ah st).1];go_wp2_with (go_at_call 109;refine(HN.out _ hpB _ hiB).mono ?_);rintro e w2 ⟨rfl,hp2,hk2⟩;go_wp2;go_ret;exact⟨rfl,hp2,(uN.trans hkB).trans hk2⟩
  ·have hc:=ay (eq_false_of_ne_true hcl)
   have HX:=ay (λw hp=>wC E hE ⟨#[46]⟩ ⟨#[40]⟩ (aF E.ah st).2 false (hcase.resolve_left hcl) w hp);clear hcase hcl;have hA':PW E st ((w.alloc (.cells #[.pointer (some ⟨E.pb,0,none⟩)] 151)).alloc (.cells #[.int .i64 aG] 3)):=hA;obtain⟨d0,_,_,_,_,_⟩:=hA'.cells;go_enter Tryz.func316,Tryz.ntmps316;go_wp2_with (go_at_call 157;refine(HL.out _ hA').mono ?_);rintro e w1 ⟨rfl,hp1,EZ⟩;have hk1:Kp E.B (jF E aG w) w1:=EZ;clear d0 EZ hA';have hpB:=hp1.later (aA w1 (.cells #[.int .i64 (aF E.ah st).1] 3));have hkB:=hk1.trans (Kp.of (aA w1 (.cells #[.int .i64 (aF E.ah st).1] 3)) hp1.fA);have p1:=jh E aG hkB;obtain⟨_,_,c1,_,_,_⟩:=hpB.cells;rw[hc.out] at c1;have hiB:=EP w1 [(aF E.ah st).1];have Yh:=HX.out _ hpB;rw[show (w1.alloc (.cells #[.int .i64 (aF E.ah st).1] 3)).heap.size=w1.heap.size+1 by simp] at Yh;have HXB:=ay Yh;clear Yh;go_wp2_with (go_at_call 155;refine HXB.out.mono ?_);rintro e w2 ⟨rfl,hp2,hk2⟩;have p2:=jh E aG (hkB.trans hk2);clear p1 c1;go_wp2_with (go_at_call 109;refine(HN.out _ hp2 _ (hiB.kept hk2)).mono ?_);rintro e w3 ⟨rfl,hp3,eP⟩;go_wp2;go_ret;exact⟨rfl,hp3,((uN.trans hkB).trans hk2).trans eP⟩
theorem xH {off:Nat}{cs:Array Value}{fr:Nat × Nat}(hh:w.heap[b]?=some (.cells cs 3 fr))(hj:∀ j,(h:j<ks.length)->cs[off+j]?=some (.int .i64 ks[j])) :
  ∀ j u,(ks.map (Value.int .i64))[j]?=some u->w.cell? ((⟨b,off,none⟩:Addr).add j)=some u:=λj u hu=>by
 obtain⟨h1,h2⟩:=pE hu;rw[oC] at h1
 have hadd:(⟨b,off,none⟩:Addr).add j=⟨b,off+j,none⟩:=by unfold Addr.add;split<;>simp_all
 rw[hadd,cell_of_row w b (off+j) cs _ fr hh,hj j h1,<- h2,List.getElem_map]
theorem jG.aB {kk:List Int}(h:jG E W0 R v ks s w)(e:ks=kk):eO w v kk:=by rw[<- e];exact h.node
theorem jG.row (h:jG E W0 R v ks s w)(e:ks.length=n):w.ownsRow W0.heap.size 3 1 v n (ks.map (Value.int .i64)):=by rw[<- e];exact h.1
theorem dK (E:bG)(aG:Nat)(K:jG E (jF E aG w) R v ks s w'):w'.cell? ⟨w.heap.size,0,none⟩=some (.pointer (some ⟨E.pb,0,none⟩))/\w'.cell? ⟨E.pb,0,none⟩=some (.pointer (some ⟨E.bb,0,none⟩)) :=
 ⟨jh E aG K.2.2.2.2,(PW.cells K.2.2.2.1).1⟩
theorem Vb (E:bG)(hE:E.ok)(g:Nat)(ih:∀ R,DC { E with R:=R } g)(aG:Nat)(st:aK)(r:Int × aK)(w:World)(h:run E.ah E.depth (g+1) (.name aG) st=some r)(hp:PW E st w)(hn:r.2.aj.length+1<=1099511627776)(dJ:aG<=E.depth)
  (hcl:(aF E.ah st).2.aC=false) (hx:bF E.ah (aF E.ah st).2 [[46],[40]]=true) :
  Calls Tryz.prog 316 #[.pointer (some ⟨E.pb,0,none⟩),.int .i64 aG] w (eu E r w):=by
 have vQ:=hE.2.2;obtain⟨i0,hi,hz0,hz1,hz2⟩:=info_parts Tryz.nQ;rw[run,aU (by rw[hcl,hx];simp)] at h;have hA:PW E st (jF E aG w):=hp.later (sD E aG w);have uN:Kp E.B w (jF E aG w):=Kp.of (sD E aG w) hp.fA;have hBW:E.B<=(jF E aG w).heap.size:=hA.fA;obtain⟨l,h1,h⟩:=cZ h
 injection h with h
 subst h
 have hmf:∀ (fn:Fn) (first cap:Array Value) (w:World),(Instr.makeFunc fn first cap).run Tryz.prog w=.ok (.func fn first cap) w:=λ_ _ _ _=>rfl
 have n6:=aL (aM _ _ _) hn;have n5:=aL (aN _ _ _) n6;have hlx:=mP E.ah _ (λs k hk=>bA E.ah E.depth g _ _ _ hk) _ _ h1;have n4:=aL hlx n5;have n3:=aL (aN _ _ _) n4;have n2:=aL (Bh E.ah (aF E.ah st)) n3;have n1:=aL (aQ _ _) n2;have hll:=Jm _ _ _ _ h1;have HL:=ay (λw hp=>bT E st w hp hE.1 hE.2.1 n1);have hc:=ay hcl;clear hcl
 by_cases hd:bF E.ah (aF E.ah st).2 [[46]]=true
 ·have hqm:oo E.ah (aF E.ah st)=([(aF E.ah st).1,(aF E.ah (aF E.ah st).2).1,(bC E.ah 1 (aF E.ah (aF E.ah st).2).2).1],(bC E.ah 1 (aF E.ah (aF E.ah st).2).2).2):=by rw[oo,bR hd]
  clear hn hlx h;rw[hqm] at h1 n3 |-;dsimp only at h1 n3 |-;have n2a:=aL (fF _ _ _) n3;generalize hkk:(_++[(aJ E.ah [[41]] l.2).1]:List Int)=kk;have HKK:=ay hkk;have HKL:Hid (kk.length<=1099511627776):=ay (by rw[<- hkk];simp;omega);clear hkk;clear hqm;have hA':PW E st ((w.alloc (.cells #[.pointer (some ⟨E.pb,0,none⟩)] 151)).alloc (.cells #[.int .i64 aG] 3)):=hA;obtain⟨d0,_,_,_,_,_⟩:=hA'.cells;go_enter Tryz.func316,Tryz.ntmps316;go_wp2_with (go_at_call 157;refine(HL.out _ hA').mono ?_);rintro e w1 ⟨rfl,hp1,EZ⟩;have hk1:Kp E.B (jF E aG w) w1:=EZ;clear d0 EZ hA';have K1:=jG.start (aF E.ah st).1 hp1 hk1;have p1:=jh E aG K1.2.2.2.2;obtain⟨_,_,c1,_,_,_⟩:=PW.cells K1.2.2.2.1;rw[hc.out] at c1;have Yh:=wC { E with R:=w1.heap.size :: E.R } hE ⟨#[46]⟩ ⟨#[40]⟩ (aF E.ah st).2 true hx _ K1.2.2.2.1;rw[show (w1.alloc (.cells #[.int .i64 (aF E.ah st).1] 3)).heap.size=w1.heap.size+1 by simp] at Yh;have HXB:=ay Yh;clear Yh;go_wp2_with (go_at_call 155;refine HXB.out.mono ?_);rintro e w2 ⟨rfl,hq,dn⟩;have K2:=K1.call hq dn;have p2:=jh E aG K2.2.2.2.2;clear hq dn c1 p1 K1 hp1 hk1 HXB;have HC:=ay (dY { E with R:=w1.heap.size :: E.R } hE ⟨#[46]⟩ (aF E.ah st).2 true hd _ K2.2.2.2.1);go_wp2_with (go_at_call 155;refine HC.out.mono ?_);rintro e w3 ⟨rfl,hq,dn⟩;have K3:=K2.call hq dn;clear hq dn HC;have p3:=jh E aG K3.2.2.2.2;obtain⟨d0,_,_,_,_,_⟩:=PW.cells K3.2.2.2.1;clear p2 K2;have K3d:jG E (jF E aG w) (w1.heap.size :: E.R) (.slice (some ⟨w1.heap.size,0,none⟩) 1 1) [(aF E.ah st).1] (aF E.ah st).2 w3.drew:=K3.call (PW.later K3.2.2.2.1 ((bQ _ _).drew)) (Kp.of ((bQ _ _).drew) K3.2.2.2.1.fA);have Jo:=ay (bT { E with R:=w1.heap.size :: E.R } (aF E.ah st).2 _ K3d.2.2.2.1 hE.1 hE.2.1 n2);have zH:=ay (λw hq=>tF { E with R:=w1.heap.size :: E.R } hE 1 (aF E.ah (aF E.ah st).2).2 w hq n2a);have afN:=ay K3d;clear K3d;go_wp2
  go_region_held3 (λw'=>w'.cell? ⟨w.heap.size,0,none⟩=some (.pointer (some ⟨E.pb,0,none⟩))/\w'.cell? ⟨E.pb,0,none⟩=some (.pointer (some ⟨E.bb,0,none⟩))) (first|go_keep|exact p4|exact p5|exact p6)
   (first|(go_at_call 157;refine Jo.out.mono ?_;rintro e w4 ⟨rfl,hq4,afO⟩;have K4:=afN.out.call hq4 afO;have p4:=dK E aG K4)|(go_at_call 110;refine(zH.out _ hq4).mono ?_;rintro e w5 ⟨rfl,xI,afP⟩;have K5:=K4.call xI afP;have p5:=dK E aG K5)|((refine step_append_lies _ (by rfl) _ _ _ (by rfl) (jF E aG w).heap.size 3 i0 _ 1 8 Tryz.underlying46 hi hz0 hz1 hz2 rfl (by omega) _ (1) _ (by rfl) (K5.lit _).1 ⟨w5.heap.size,0,none⟩ 2 2 [.int .i64 (aF E.ah (aF E.ah st).2).1,.int .i64 (bC E.ah 1 (aF E.ah (aF E.ah st).2).2).1] (by rfl) (by rfl) (vL (cs:=#[.int .i64 (aF E.ah (aF E.ah st).2).1,.int .i64 (bC E.ah 1 (aF E.ah (aF E.ah st).2).2).1]) (t:=3) (fr:=(0,0)) (aX w5 _)) (by simp[Value.oneCell']) (by omega) (by unfold maxLen;omega) (by omega) (K5.lit _).2.2.2.2.size (w5.heap.size+1) (by simp) ?_;intro g6 cap6 w6 hown6 nS Yi Yj;obtain⟨R6,K6⟩:=(K5.lit (.cells #[.int .i64 (aF E.ah (aF E.ah st).2).1,.int .i64 (bC E.ah 1 (aF E.ah (aF E.ah st).2).2).1] 3)).app (news:=[(aF E.ah (aF E.ah st).2).1,(bC E.ah 1 (aF E.ah (aF E.ah st).2).2).1]) hBW (by simp) hown6 nS Yi (by simp) Yj;have p6:=dK E aG K6)))
  clear hown6 nS Yi Yj p6 K5 K4 K3 p3 d0 p4 p5 Jo zH afN hq4 afO xI afP;have p6:=jh E aG K6.2.2.2.2;have HC:=ay (eD { E with R:=R6 } hE ⟨#[40]⟩ (bC E.ah 1 (aF E.ah (aF E.ah st).2).2).2 _ K6.2.2.2.1 n3);go_wp2_with (go_at_call 158;refine HC.out.mono ?_);rintro e w7 ⟨rfl,hq,dn⟩;have K7:=K6.call hq dn;clear hq dn HC;clear p6 K6;have hL8:=K7.lit (.cells #[.int .i64 (aJ E.ah [[40]] (bC E.ah 1 (aF E.ah (aF E.ah st).2).2).2).1] 3);have Yk:=aX w7 (.cells #[.int .i64 (aJ E.ah [[40]] (bC E.ah 1 (aF E.ah (aF E.ah st).2).2).2).1] 3);go_wp2_with (at_builtin;refine wpList_append_lies _ rfl _ _ 46 rfl (jF E aG w).heap.size 3 i0 (.int .i64 0) 1 8 Tryz.underlying46 hi hz0 hz1 hz2 rfl (by decide) _ (3) _ rfl hL8.1 ⟨w7.heap.size,0,none⟩ 1 1 [.int .i64 (aJ E.ah [[40]] (bC E.ah 1 (aF E.ah (aF E.ah st).2).2).2).1] rfl rfl ?c1 ?c2 ?c3 ?c4 ?c5 ?c6 _ rfl ?_)
  case c1=>exact vL (cs:=#[.int .i64 (aJ E.ah [[40]] (bC E.ah 1 (aF E.ah (aF E.ah st).2).2).2).1]) (t:=3) (fr:=(0,0)) Yk
  case c2=>simp[Value.oneCell']
  case c3=>omega
  case c4=>unfold maxLen;omega
  case c5=>omega
  case c6=>exact hL8.2.2.2.2.size
  intro g8 QD w8 wE oK EY yY;obtain⟨R8,K8⟩:=hL8.app (news:=[(aJ E.ah [[40]] (bC E.ah 1 (aF E.ah (aF E.ah st).2).2).2).1]) hBW (by simp) wE oK EY (by simp) yY;clear hL8 Yk wE oK EY yY K7;have p8:=jh E aG K8.2.2.2.2;have HLs:=ay (Jk { E with R:=R8 } hE (λs=>run E.ah E.depth g (.expr (aG+1)) s) w.heap.size (w.heap.size+1) (aJ E.ah [[40]] (bC E.ah 1 (aF E.ah (aF E.ah st).2).2).2).2 l w8 h1 K8.2.2.2.1 n5 (λs k hk=>bA E.ah E.depth g _ _ _ hk) (λR s k w' hk hR hkk hnk=>Jl { E with R:=R } g aG _ _ (ih R) s k w' hk hR hnk dJ vQ (jh E aG (K8.2.2.2.2.trans hkk)) (Tm E aG (K8.2.2.2.2.trans hkk))));clear h1;go_wp2_with (go_at_call 159;refine HLs.out.mono ?_);rintro e w9 ⟨v,rfl,hiv,hnil,hq,dn⟩;have K9:=K8.call hq dn;clear hq dn HLs p8 K8
  by_cases hl0:l.1=[]
  ·obtain rfl:=hnil hl0
   go_wp2_with (at_builtin;refine wpList_append_own_none rfl _ _ 46 rfl (jF E aG w).heap.size 3 i0 1 Tryz.underlying46 hi _ (4) _ rfl K9.1 rfl ?_);go_wp2;have HKE:=ay (show [(aF E.ah st).1]++[(aF E.ah (aF E.ah st).2).1,(bC E.ah 1 (aF E.ah (aF E.ah st).2).2).1]++[(aJ E.ah [[40]] (bC E.ah 1 (aF E.ah (aF E.ah st).2).2).2).1]++[(aJ E.ah [[41]] l.2).1]=kk by rw[<- HKK.out,hl0]<;>rfl);have Kd:=K9.call (PW.later K9.2.2.2.1 ((bQ _ _).drew)) (Kp.of ((bQ _ _).drew) K9.2.2.2.1.fA);have Jo:=ay (eD { E with R:=R8 } hE ⟨#[41]⟩ l.2 w9.drew Kd.2.2.2.1 n5);have zH:=ay (λR w v hq hv=>lI { E with R:=R } 13 v kk (aJ E.ah [[41]] l.2).2 w hq hv HKL.out n6);have pd:=dK E aG Kd;have Ks:=K9.lit (.cells #[.string ⟨#[41]⟩] 9);have ps:=dK E aG (Ks.call (PW.later Ks.2.2.2.1 ((bQ _ _).drew)) (Kp.of ((bQ _ _).drew) Ks.2.2.2.1.fA));clear Ks;have HKd:=ay Kd;clear Kd
   go_region_held3 (λw'=>w'.cell? ⟨w.heap.size,0,none⟩=some (.pointer (some ⟨E.pb,0,none⟩))/\w'.cell? ⟨E.pb,0,none⟩=some (.pointer (some ⟨E.bb,0,none⟩))) (first|go_keep|exact pd|exact ps|exact p11|exact p12|exact p13)
   (first|(go_at_call 158;refine Jo.out.mono ?_;rintro e wF ⟨rfl,hq11,E8⟩;have Bo:=HKd.out.call hq11 E8;have p11:=dK E aG Bo)|((refine step_append_lies _ (by rfl) _ _ _ (by rfl) (jF E aG w).heap.size 3 i0 _ 1 8 Tryz.underlying46 hi hz0 hz1 hz2 rfl (by omega) _ (4) _ (by rfl) (jG.row (Bo.lit _) (by simp<;>omega)) ⟨wF.heap.size,0,none⟩ 1 1 [.int .i64 (aJ E.ah [[41]] l.2).1] (by rfl) (by rfl) (vL (cs:=#[.int .i64 (aJ E.ah [[41]] l.2).1]) (t:=3) (fr:=(0,0)) (aX wF _)) (by simp[Value.oneCell']) (by omega) (by unfold maxLen;omega) (by omega) (Bo.lit _).2.2.2.2.size (wF.heap.size+1) (by simp) ?_;intro g12 Tn w12 yZ uP Fa Fb;obtain⟨R12,A8⟩:=(Bo.lit (.cells #[.int .i64 (aJ E.ah [[41]] l.2).1] 3)).app (news:=[(aJ E.ah [[41]] l.2).1]) hBW (by simp<;>omega) yZ uP Fa (by simp) Fb;have p12:=dK E aG A8))|(go_at_call 109;refine(zH.out _ _ _ A8.2.2.2.1 (A8.aB HKE.out)).mono ?_;rintro e w13 ⟨rfl,QG,Fe⟩;have DJ:=A8.call QG Fe;have p13:=dK E aG DJ))
   go_wp2;go_ret;exact⟨rfl,PR.drop DJ.2.2.2.1 DJ.2.2.1,uN.trans DJ.2.2.2.2⟩
  ·have hpos:0<l.1.length:=List.length_pos_iff.2 hl0
   obtain⟨ao,QH,rfl,hcv,hf⟩:=hiv;obtain⟨vb,vo,vcs,vfr,rfl,hh,hj⟩:=hf hpos;clear hnil hl0 hf;go_wp2_with (at_builtin;refine wpList_append_lies _ rfl _ _ 46 rfl (jF E aG w).heap.size 3 i0 (.int .i64 0) 1 8 Tryz.underlying46 hi hz0 hz1 hz2 rfl (by decide) _ (4) _ rfl K9.1 ⟨vb,vo,none⟩ l.1.length QH (l.1.map (Value.int .i64)) rfl (by simp) ?c1 ?c2 ?c3 ?c4 ?c5 ?c6 _ rfl ?_)
   case c1=>exact xH hh hj
   case c2=>intro u hu;obtain⟨y,_,rfl⟩:=List.mem_map.1 hu;rfl
   case c3=>exact hpos
   case c4=>unfold maxLen;omega
   case c5=>omega
   case c6=>exact K9.2.2.2.2.size
   intro g10 afQ mU Fg Ac Na Nb;obtain⟨R10,Jp⟩:=K9.app (news:=l.1) hBW (by simp<;>omega) Fg Ac Na (by simp) Nb;clear Fg Ac Na Nb K9 hh hj;have p10:=jh E aG Jp.2.2.2.2;clear p10;go_wp2;have HKE:=ay (show [(aF E.ah st).1]++[(aF E.ah (aF E.ah st).2).1,(bC E.ah 1 (aF E.ah (aF E.ah st).2).2).1]++[(aJ E.ah [[40]] (bC E.ah 1 (aF E.ah (aF E.ah st).2).2).2).1]++l.1++[(aJ E.ah [[41]] l.2).1]=kk by rw[<- HKK.out]<;>rfl);have Kd:=Jp.call (PW.later Jp.2.2.2.1 ((bQ _ _).drew)) (Kp.of ((bQ _ _).drew) Jp.2.2.2.1.fA);have Jo:=ay (eD { E with R:=R10 } hE ⟨#[41]⟩ l.2 mU.drew Kd.2.2.2.1 n5);have zH:=ay (λR w v hq hv=>lI { E with R:=R } 13 v kk (aJ E.ah [[41]] l.2).2 w hq hv HKL.out n6);have pd:=dK E aG Kd;have Ks:=Jp.lit (.cells #[.string ⟨#[41]⟩] 9);have ps:=dK E aG (Ks.call (PW.later Ks.2.2.2.1 ((bQ _ _).drew)) (Kp.of ((bQ _ _).drew) Ks.2.2.2.1.fA));clear Ks;have HKd:=ay Kd;clear Kd
   go_region_held3 (λw'=>w'.cell? ⟨w.heap.size,0,none⟩=some (.pointer (some ⟨E.pb,0,none⟩))/\w'.cell? ⟨E.pb,0,none⟩=some (.pointer (some ⟨E.bb,0,none⟩))) (first|go_keep|exact pd|exact ps|exact p11|exact p12|exact p13)
   (first|(go_at_call 158;refine Jo.out.mono ?_;rintro e wF ⟨rfl,hq11,E8⟩;have Bo:=HKd.out.call hq11 E8;have p11:=dK E aG Bo)|((refine step_append_lies _ (by rfl) _ _ _ (by rfl) (jF E aG w).heap.size 3 i0 _ 1 8 Tryz.underlying46 hi hz0 hz1 hz2 rfl (by omega) _ (4+l.1.length) _ (by rfl) (jG.row (Bo.lit _) (by simp<;>omega)) ⟨wF.heap.size,0,none⟩ 1 1 [.int .i64 (aJ E.ah [[41]] l.2).1] (by rfl) (by rfl) (vL (cs:=#[.int .i64 (aJ E.ah [[41]] l.2).1]) (t:=3) (fr:=(0,0)) (aX wF _)) (by simp[Value.oneCell']) (by omega) (by unfold maxLen;omega) (by omega) (Bo.lit _).2.2.2.2.size (wF.heap.size+1) (by simp) ?_;intro g12 Tn w12 yZ uP Fa Fb;obtain⟨R12,A8⟩:=(Bo.lit (.cells #[.int .i64 (aJ E.ah [[41]] l.2).1] 3)).app (news:=[(aJ E.ah [[41]] l.2).1]) hBW (by simp<;>omega) yZ uP Fa (by simp) Fb;have p12:=dK E aG A8))|(go_at_call 109;refine(zH.out _ _ _ A8.2.2.2.1 (A8.aB HKE.out)).mono ?_;rintro e w13 ⟨rfl,QG,Fe⟩;have DJ:=A8.call QG Fe;have p13:=dK E aG DJ))
   go_wp2;go_ret;exact⟨rfl,PR.drop DJ.2.2.2.1 DJ.2.2.1,uN.trans DJ.2.2.2.2⟩
 ·have hqm:oo E.ah (aF E.ah st)=([(aF E.ah st).1],(aF E.ah st).2):=by rw[oo,aU hd]
  clear hn hlx h;rw[hqm] at h1 n3 |-;dsimp only at h1 n3 |-;generalize hkk:(_++[(aJ E.ah [[41]] l.2).1]:List Int)=kk;have HKK:=ay hkk;have HKL:Hid (kk.length<=1099511627776):=ay (by rw[<- hkk];simp;omega);clear hkk;clear hqm;have hA':PW E st ((w.alloc (.cells #[.pointer (some ⟨E.pb,0,none⟩)] 151)).alloc (.cells #[.int .i64 aG] 3)):=hA;obtain⟨d0,_,_,_,_,_⟩:=hA'.cells;go_enter Tryz.func316,Tryz.ntmps316;go_wp2_with (go_at_call 157;refine(HL.out _ hA').mono ?_);rintro e w1 ⟨rfl,hp1,EZ⟩;have hk1:Kp E.B (jF E aG w) w1:=EZ;clear d0 EZ hA';have K1:=jG.start (aF E.ah st).1 hp1 hk1;have p1:=jh E aG K1.2.2.2.2;obtain⟨_,_,c1,_,_,_⟩:=PW.cells K1.2.2.2.1;rw[hc.out] at c1;have Yh:=wC { E with R:=w1.heap.size :: E.R } hE ⟨#[46]⟩ ⟨#[40]⟩ (aF E.ah st).2 true hx _ K1.2.2.2.1;rw[show (w1.alloc (.cells #[.int .i64 (aF E.ah st).1] 3)).heap.size=w1.heap.size+1 by simp] at Yh;have HXB:=ay Yh;clear Yh;go_wp2_with (go_at_call 155;refine HXB.out.mono ?_);rintro e w2 ⟨rfl,hq,dn⟩;have K2:=K1.call hq dn;have p2:=jh E aG K2.2.2.2.2;clear hq dn c1 p1 K1 hp1 hk1 HXB;have HC:=ay (dY { E with R:=w1.heap.size :: E.R } hE ⟨#[46]⟩ (aF E.ah st).2 false (eq_false_of_ne_true hd) _ K2.2.2.2.1);go_wp2_with (go_at_call 155;refine HC.out.mono ?_);rintro e w3 ⟨rfl,hq,dn⟩;have K3:=K2.call hq dn;clear hq dn HC;have p3:=jh E aG K3.2.2.2.2;clear p2 K2;have HC:=ay (eD { E with R:=w1.heap.size :: E.R } hE ⟨#[40]⟩ (aF E.ah st).2 _ K3.2.2.2.1 n3);go_wp2_with (go_at_call 158;refine HC.out.mono ?_);rintro e w7 ⟨rfl,hq,dn⟩;have K7:=K3.call hq dn;clear hq dn HC;clear p3 K3;have hL8:=K7.lit (.cells #[.int .i64 (aJ E.ah [[40]] (aF E.ah st).2).1] 3);have Yk:=aX w7 (.cells #[.int .i64 (aJ E.ah [[40]] (aF E.ah st).2).1] 3)
  go_wp2_with (at_builtin;refine wpList_append_lies _ rfl _ _ 46 rfl (jF E aG w).heap.size 3 i0 (.int .i64 0) 1 8 Tryz.underlying46 hi hz0 hz1 hz2 rfl (by decide) _ (1) _ rfl hL8.1 ⟨w7.heap.size,0,none⟩ 1 1 [.int .i64 (aJ E.ah [[40]] (aF E.ah st).2).1] rfl rfl ?c1 ?c2 ?c3 ?c4 ?c5 ?c6 _ rfl ?_)
  case c1=>exact vL (cs:=#[.int .i64 (aJ E.ah [[40]] (aF E.ah st).2).1]) (t:=3) (fr:=(0,0)) Yk
  case c2=>simp[Value.oneCell']
  case c3=>omega
  case c4=>unfold maxLen;omega
  case c5=>omega
  case c6=>exact hL8.2.2.2.2.size
  intro g8 QD w8 wE oK EY yY;obtain⟨R8,K8⟩:=hL8.app (news:=[(aJ E.ah [[40]] (aF E.ah st).2).1]) hBW (by simp) wE oK EY (by simp) yY;clear hL8 Yk wE oK EY yY K7;have p8:=jh E aG K8.2.2.2.2;have HLs:=ay (Jk { E with R:=R8 } hE (λs=>run E.ah E.depth g (.expr (aG+1)) s) w.heap.size (w.heap.size+1) (aJ E.ah [[40]] (aF E.ah st).2).2 l w8 h1 K8.2.2.2.1 n5 (λs k hk=>bA E.ah E.depth g _ _ _ hk) (λR s k w' hk hR hkk hnk=>Jl { E with R:=R } g aG _ _ (ih R) s k w' hk hR hnk dJ vQ (jh E aG (K8.2.2.2.2.trans hkk)) (Tm E aG (K8.2.2.2.2.trans hkk))));clear h1;go_wp2_with (go_at_call 159;refine HLs.out.mono ?_);rintro e w9 ⟨v,rfl,hiv,hnil,hq,dn⟩;have K9:=K8.call hq dn;clear hq dn HLs p8 K8
  by_cases hl0:l.1=[]
  ·obtain rfl:=hnil hl0
   go_wp2_with (at_builtin;refine wpList_append_own_none rfl _ _ 46 rfl (jF E aG w).heap.size 3 i0 1 Tryz.underlying46 hi _ (2) _ rfl K9.1 rfl ?_);go_wp2;have HKE:=ay (show [(aF E.ah st).1]++[(aJ E.ah [[40]] (aF E.ah st).2).1]++[(aJ E.ah [[41]] l.2).1]=kk by rw[<- HKK.out,hl0]<;>rfl);have Kd:=K9.call (PW.later K9.2.2.2.1 ((bQ _ _).drew)) (Kp.of ((bQ _ _).drew) K9.2.2.2.1.fA);have Jo:=ay (eD { E with R:=R8 } hE ⟨#[41]⟩ l.2 w9.drew Kd.2.2.2.1 n5);have zH:=ay (λR w v hq hv=>lI { E with R:=R } 13 v kk (aJ E.ah [[41]] l.2).2 w hq hv HKL.out n6);have pd:=dK E aG Kd;have Ks:=K9.lit (.cells #[.string ⟨#[41]⟩] 9);have ps:=dK E aG (Ks.call (PW.later Ks.2.2.2.1 ((bQ _ _).drew)) (Kp.of ((bQ _ _).drew) Ks.2.2.2.1.fA));clear Ks;have HKd:=ay Kd;clear Kd
   go_region_held3 (λw'=>w'.cell? ⟨w.heap.size,0,none⟩=some (.pointer (some ⟨E.pb,0,none⟩))/\w'.cell? ⟨E.pb,0,none⟩=some (.pointer (some ⟨E.bb,0,none⟩))) (first|go_keep|exact pd|exact ps|exact p11|exact p12|exact p13)
   (first|(go_at_call 158;refine Jo.out.mono ?_;rintro e wF ⟨rfl,hq11,E8⟩;have Bo:=HKd.out.call hq11 E8;have p11:=dK E aG Bo)|((refine step_append_lies _ (by rfl) _ _ _ (by rfl) (jF E aG w).heap.size 3 i0 _ 1 8 Tryz.underlying46 hi hz0 hz1 hz2 rfl (by omega) _ (2) _ (by rfl) (jG.row (Bo.lit _) (by simp<;>omega)) ⟨wF.heap.size,0,none⟩ 1 1 [.int .i64 (aJ E.ah [[41]] l.2).1] (by rfl) (by rfl) (vL (cs:=#[.int .i64 (aJ E.ah [[41]] l.2).1]) (t:=3) (fr:=(0,0)) (aX wF _)) (by simp[Value.oneCell']) (by omega) (by unfold maxLen;omega) (by omega) (Bo.lit _).2.2.2.2.size (wF.heap.size+1) (by simp) ?_;intro g12 Tn w12 yZ uP Fa Fb;obtain⟨R12,A8⟩:=(Bo.lit (.cells #[.int .i64 (aJ E.ah [[41]] l.2).1] 3)).app (news:=[(aJ E.ah [[41]] l.2).1]) hBW (by simp<;>omega) yZ uP Fa (by simp) Fb;have p12:=dK E aG A8))|(go_at_call 109;refine(zH.out _ _ _ A8.2.2.2.1 (A8.aB HKE.out)).mono ?_;rintro e w13 ⟨rfl,QG,Fe⟩;have DJ:=A8.call QG Fe;have p13:=dK E aG DJ))
   go_wp2;go_ret;exact⟨rfl,PR.drop DJ.2.2.2.1 DJ.2.2.1,uN.trans DJ.2.2.2.2⟩
  ·have hpos:0<l.1.length:=List.length_pos_iff.2 hl0
   obtain⟨ao,QH,rfl,hcv,hf⟩:=hiv;obtain⟨vb,vo,vcs,vfr,rfl,hh,hj⟩:=hf hpos;clear hnil hl0 hf;go_wp2_with (at_builtin;refine wpList_append_lies _ rfl _ _ 46 rfl (jF E aG w).heap.size 3 i0 (.int .i64 0) 1 8 Tryz.underlying46 hi hz0 hz1 hz2 rfl (by decide) _ (2) _ rfl K9.1 ⟨vb,vo,none⟩ l.1.length QH (l.1.map (Value.int .i64)) rfl (by simp) ?c1 ?c2 ?c3 ?c4 ?c5 ?c6 _ rfl ?_)
   case c1=>exact xH hh hj
   case c2=>intro u hu;obtain⟨y,_,rfl⟩:=List.mem_map.1 hu;rfl
   case c3=>exact hpos
   case c4=>unfold maxLen;omega
   case c5=>omega
   case c6=>exact K9.2.2.2.2.size
   intro g10 afQ mU Fg Ac Na Nb;obtain⟨R10,Jp⟩:=K9.app (news:=l.1) hBW (by simp<;>omega) Fg Ac Na (by simp) Nb;clear Fg Ac Na Nb K9 hh hj;have p10:=jh E aG Jp.2.2.2.2;clear p10;go_wp2;have HKE:=ay (show [(aF E.ah st).1]++[(aJ E.ah [[40]] (aF E.ah st).2).1]++l.1++[(aJ E.ah [[41]] l.2).1]=kk by rw[<- HKK.out]<;>rfl);have Kd:=Jp.call (PW.later Jp.2.2.2.1 ((bQ _ _).drew)) (Kp.of ((bQ _ _).drew) Jp.2.2.2.1.fA);have Jo:=ay (eD { E with R:=R10 } hE ⟨#[41]⟩ l.2 mU.drew Kd.2.2.2.1 n5);have zH:=ay (λR w v hq hv=>lI { E with R:=R } 13 v kk (aJ E.ah [[41]] l.2).2 w hq hv HKL.out n6);have pd:=dK E aG Kd;have Ks:=Jp.lit (.cells #[.string ⟨#[41]⟩] 9);have ps:=dK E aG (Ks.call (PW.later Ks.2.2.2.1 ((bQ _ _).drew)) (Kp.of ((bQ _ _).drew) Ks.2.2.2.1.fA));clear Ks;have HKd:=ay Kd;clear Kd
   go_region_held3 (λw'=>w'.cell? ⟨w.heap.size,0,none⟩=some (.pointer (some ⟨E.pb,0,none⟩))/\w'.cell? ⟨E.pb,0,none⟩=some (.pointer (some ⟨E.bb,0,none⟩))) (first|go_keep|exact pd|exact ps|exact p11|exact p12|exact p13)
   (first|(go_at_call 158;refine Jo.out.mono ?_;rintro e wF ⟨rfl,hq11,E8⟩;have Bo:=HKd.out.call hq11 E8;have p11:=dK E aG Bo)|((refine step_append_lies _ (by rfl) _ _ _ (by rfl) (jF E aG w).heap.size 3 i0 _ 1 8 Tryz.underlying46 hi hz0 hz1 hz2 rfl (by omega) _ (2+l.1.length) _ (by rfl) (jG.row (Bo.lit _) (by simp<;>omega)) ⟨wF.heap.size,0,none⟩ 1 1 [.int .i64 (aJ E.ah [[41]] l.2).1] (by rfl) (by rfl) (vL (cs:=#[.int .i64 (aJ E.ah [[41]] l.2).1]) (t:=3) (fr:=(0,0)) (aX wF _)) (by simp[Value.oneCell']) (by omega) (by unfold maxLen;omega) (by omega) (Bo.lit _).2.2.2.2.size (wF.heap.size+1) (by simp) ?_;intro g12 Tn w12 yZ uP Fa Fb;obtain⟨R12,A8⟩:=(Bo.lit (.cells #[.int .i64 (aJ E.ah [[41]] l.2).1] 3)).app (news:=[(aJ E.ah [[41]] l.2).1]) hBW (by simp<;>omega) yZ uP Fa (by simp) Fb;have p12:=dK E aG A8))|(go_at_call 109;refine(zH.out _ _ _ A8.2.2.2.1 (A8.aB HKE.out)).mono ?_;rintro e w13 ⟨rfl,QG,Fe⟩;have DJ:=A8.call QG Fe;have p13:=dK E aG DJ))
   go_wp2;go_ret;exact⟨rfl,PR.drop DJ.2.2.2.1 DJ.2.2.1,uN.trans DJ.2.2.2.2⟩
theorem Vd (E:bG)(hE:E.ok)(g:Nat)(ih:∀ R,DC { E with R:=R } g)(aG:Nat)(st:aK)(r:Int × aK)(w:World)(h:run E.ah E.depth (g+1) (.name aG) st=some r)(hp:PW E st w)(hn:r.2.aj.length+1<=1099511627776)(dJ:aG<=E.depth) :
  Calls Tryz.prog 316 #[.pointer (some ⟨E.pb,0,none⟩),.int .i64 aG] w (eu E r w):=by
 by_cases hc:(aF E.ah st).2.aC=true\/bF E.ah (aF E.ah st).2 [[46],[40]]=false
 ·exact QF E hE g aG st r w h hp hn dJ hc
 ·refine Vb E hE g ih aG st r w h hp hn dJ ?_ ?_
  ·exact eq_false_of_ne_true λq=>hc (.inl q)
  ·cases hq:bF E.ah (aF E.ah st).2 [[46],[40]] with
   | true=>rfl
   | false=>exact(hc (.inr hq)).elim
theorem Jq (E:bG)(hE:E.ok):∀ (g g':Nat),g'<=g->∀ R,DC { E with R:=R } g'
 | 0,g',hg,R=>by
  obtain rfl:g'=0:=by omega
  intro t st r w h;rw[run] at h;cases h
 | g+1,g',hg,R=>by
  have ih:=Jq E hE g
  by_cases h':g'<=g
  ·exact ih g' h' R
  ·obtain rfl:g'=g+1:=by omega
   intro t st r w h hp hn dJ;have hE':bG.ok { E with R:=R }:=hE;have i0:=ih g (bD _) R
   cases t with
   | expr aG=>exact U6 { E with R:=R } hE' g i0 aG st r w h hp hn dJ
   | formula aG=>exact KO { E with R:=R } hE' g i0 aG st r w h hp hn dJ
   | part l aG=>exact U7 { E with R:=R } g i0 l aG st r w h hp hn dJ
   | row l aG=>exact row_step { E with R:=R } hE' g (λg' h'=>ih g' h' R) l aG st r w h hp hn dJ
   | loop l aG a=>trivial
   | neg aG=>exact X9 { E with R:=R } hE' g i0 aG st r w h hp hn dJ
   | factor aG=>exact M4 { E with R:=R } hE' g i0 aG st r w h hp hn dJ
   | atom aG=>exact U9 { E with R:=R } hE' g i0 aG st r w h hp hn dJ
   | name aG=>exact Vd { E with R:=R } hE' g (λR'=>ih g (bD _) R') aG st r w h hp hn dJ
theorem allT (E:bG)(hE:E.ok)(g:Nat):DC E g:=Jq E hE g g (bD _) E.R
theorem PW.mark {st:aK}(h:PW E st w)(c:Bool):PW E { st with aC:=c } (w.setCell ⟨E.pb,2,none⟩ (.bool c))/\Kp E.B w (w.setCell ⟨E.pb,2,none⟩ (.bool c)):=by
 obtain⟨h1,h2,h3,h4,h5⟩:=h
 have hkeep:∀ (k:Nat) (cs:Array Value) (T:TypeId) (fr:Nat × Nat),w.heap[k]?=some (.cells cs T fr)->T≠208->(w.setCell ⟨E.pb,2,none⟩ (.bool c)).heap[k]?=some (.cells cs T fr):=λk cs T fr h0 q=>by
  have hne:k≠E.pb:=by
   rintro rfl;rw[h1] at h0;simp only[Option.some.injEq,Obj.cells.injEq] at h0;exact q h0.2.1.symm
  rw[qm _ _ _ _ hne];exact h0
 have hb:Below E.B w (w.setCell ⟨E.pb,2,none⟩ (.bool c)):=(bQ _ _).setCell h4 _
 have hk:Kp E.B w (w.setCell ⟨E.pb,2,none⟩ (.bool c)):=⟨hb,λk cs T fr h0 q1 _ _=>hkeep k cs T fr h0 q1⟩
 refine⟨⟨?_,?_,h3.below hb,h4,h5.1,λr hr=>xw (h5.2 r hr) hb.size⟩,hk⟩
 ·rw[jN w E.pb 2 _ _ _ h1]
  rfl
 ·obtain⟨b1,nv,l,b2,b3,b4,b5⟩:=h2
  refine⟨b1,nv,l,hkeep _ _ _ _ b2 (by decide),b3,?_,λp hp=>(b5 p hp).kept hk⟩;exact iO b4 (own_ne b4 h1 (by decide)) _
def ado (E:bG)(st:aK)(w:World)(e:Ending)(w':World):Prop:=e=.returned (.tuple #[])/\PW E st w'/\Kp E.B w w'
theorem Tryz.Yl:(Tryz.prog.info? 159).map (λi=>(i.zero,i.size,i.bytes))=some (some (.agg #[.int .i64 0,.string ⟨#[]⟩,.string ⟨#[]⟩,.int .i64 0]),4,48):=by kernel_rfl
def Ym (ah:List Tok)(w:World)(e:Ending)(w':World):Prop:=∃ v',e=.returned v'/\w'.ownsRow w.heap.size 159 4 v' ah.length (ah.flatMap dP)/\Below w.heap.size w w'
theorem Fh (B:Nat)(tv:Value)(ah:List Tok)(w:World)(h:Rec B w tv 4 dP ah)(h0:0<ah.length)(hn:ah.length<=1099511627776) :
  Calls Tryz.prog 153 #[tv] w (Ym ah w):=by
 obtain⟨i0,hi,hz0,hz1,hz2⟩:=info_parts Tryz.Yl;obtain⟨ao,cap,rfl,hcap,hlen,hf⟩:=h;obtain⟨b,off,rfl,hB,hcell⟩:=hf h0;have A:=ay hcell;have HLEN:=ay hlen
 have hu:∀ u∈ah.flatMap dP,u.oneCell'=true:=by
  intro u hu;obtain⟨t,_,ht⟩:=List.mem_flatMap.1 hu;simp only[dP,nY,List.not_mem_nil,or_false] at ht
  rcases ht with rfl|rfl|rfl|rfl<;>rfl
 have HU:=ay hu;clear hcell hf hlen hu
 have q22:∀ (w:World) (a:Option Addr) (n c n' c':Nat),(binOp .eql 90 (.slice a n c) (.slice none n' c')).run Tryz.prog w=.ok (.bool a.isNone) w:=λw a n c n' c'=>Lib.run_eql_slice_nil w _ _ a n c n' c' Tryz.underlying90
 have u22:∀ w,Sem.run Tryz.prog (underlying 90) w=.ok (TypeDesc.slice 159) w:=run_underlying Tryz.underlying90;go_enter Tryz.func153,Tryz.ntmps153;go_wp2_with (at_builtin;refine wpList_append_own _ rfl _ _ 90 rfl w.heap.size 159 i0 (.agg #[.int .i64 0,.string ⟨#[]⟩,.string ⟨#[]⟩,.int .i64 0]) 4 48 Tryz.underlying90 hi hz0 hz1 hz2 rfl (by decide) _ _ _ rfl (World.ownsRow_made w #[] 0 (bD _) (kJ _) rfl) ⟨b,off,none⟩ ah.length cap (ah.flatMap dP) rfl ?qc1 ?qc2 ?qc3 ?qc4 ?qc5 ?qc6 ?_)
 case qc1=>exact HLEN.out
 case qc2 =>
  intro j u hj;obtain⟨h1,h2⟩:=pE hj;rw[Addr.add_lit];refine Lib.cell?_alloc_some _ ?_;rw[A.out j h1,h2]
 case qc3=>exact HU.out
 case qc4=>unfold maxLen;omega
 case qc5=>omega
 case qc6=>simp
 intro v' w1 hown hgrow hnil;go_wp2;go_ret;refine⟨v',rfl,by simpa using hown,?_⟩;exact((bQ _ w).alloc (bD _) _).grown hgrow (by simp) (by intro k hk;simp[Value.ownBlock] at hk;omega)
def adZ (ah:List Tok)(w:World)(e:Ending)(w':World):Prop :=
 ∃ (bb B:Nat) (tv:Value),e=.returned (.pointer (some ⟨bb,0,none⟩))/\BW [] B bb tv 0 [] w'/\Rec B w' tv 4 dP ah/\w.heap.size<=B/\Below w.heap.size w w'
theorem Yn (B:Nat)(tv:Value)(ah:List Tok)(w:World)(h:Rec B w tv 4 dP ah)(h0:0<ah.length)(hn:ah.length<=1099511627776) :
  Calls Tryz.prog 103 #[tv] w (adZ ah w):=by
 have HC:=ay (Fh B tv ah w h h0 hn);obtain⟨ao,cap,rfl,_,_,_⟩:=h;go_enter Tryz.func103,Tryz.ntmps103;go_wp2_with (go_at_call 153;refine HC.out.mono ?_);rintro e w1 ⟨v',rfl,hown,hb⟩;obtain⟨g,c5,rfl,hg1,hg2⟩:=hown.form h0;go_wp2;go_ret;have hb1:=aA w1 (.cells #[.slice (some ⟨g,0,none⟩) ah.length c5,.slice none 0 0,.int .i64 0] 262);refine⟨w1.heap.size,w1.heap.size,_,rfl,⟨bD _,.slice none 0 0,[],aX _ _,rfl,World.ownsRow_nil _ _ _ _,λp hp=>by cases hp⟩,?_,hb.size,hb.trans (hb1.mono hb.size)⟩;exact(Sl.fQ hown).below hb1
theorem tL {P:Program}{ops:Array Oper}{o:Oper}{a:Act}{K:Act->World->Prop}{Q:Exit->Act->World->Prop}{E:Prop}
  (hg:o.guard=none) (f:Nat) (xs:Array Operand) (ts:Array TypeId) (hop:o.op=Op.call { callee:=Callee.value (Operand.func f),args:=xs,argTypes:=ts })
  {args:Array Value} {R:Ending->World->Prop} (hc:Calls P f args w R) (hargs:xs.toList.map a.eval=args.toList) (henter:(callFunc f args).run P w=.ok (.enter f args) w)
  (hK:∀ e w',R e w'->∃ v,e=.returned v/\K (a.put o.dst v) w') :
  if Region.wanted o (yielded ops a.tmps)=true then Oper.wp P o a w K Q else E:=by
 have hw:Region.wanted o (yielded ops a.tmps)=true:=by simp[Region.wanted,hg]
 rw[bR hw]
 have hm:xs.map a.eval=args:=by
  apply Array.ext'
  rw[Array.toList_map,hargs]
 have hrun:(execOp a.eval o).run P w=.ok (.enter f args) w:=by
  simp[execOp,hop,resolve,invoke,Act.eval,hm,henter,Deferred.ofValue,go_sem]
 unfold Oper.wp;rw[hrun,Oper.upon_enter]
 refine hc.mono λe w' hR=>?_
 obtain⟨v,rfl,h⟩:=hK e w' hR;exact h
theorem Tryz.Yo:(Tryz.prog.info? 60).map (λi=>(i.zero,i.size,i.bytes))=some (some (.agg #[.int .i64 0,.string ⟨#[]⟩,.string ⟨#[]⟩,.bool false,.slice none 0 0,.bool false,.slice none 0 0,.int .i64 0]),8,112):=by kernel_rfl
theorem Tryz.QI:∀ args w,(callFunc 116 args).run Tryz.prog w=.ok (.enter 116 args) w:=Go.Proofs.enters_of Tryz.func116 (by kernel_rfl) rfl
def nT (S:Shape)(C e:Nat)(w:World)(kv:Value)(es:List PE):Prop :=
 ∃ l,w.ownsRow C e S.sz kv es.length (qZ S es l)/\jg S (λb=>C<=b/\some b≠kv.ownBlock) w l es
theorem nT.nil (S:Shape)(C e:Nat)(w:World):nT S C e w (.slice none 0 0) []:=⟨[],World.ownsRow_nil _ _ _ _,by rw[jg]⟩
theorem nT.set {S:Shape}{C e:Nat}{w:World}{kv:Value}{es:List PE}(h:nT S C e w kv es){a:Addr}(ha:a.block<C)(u:Value):nT S C e (w.setCell a u) kv es:=by
 obtain⟨l,h1,h2⟩:=h;refine⟨l,iO h1 (λq=>?_) u,h2.frame (aW.set u λb hb=>by have:=hb.1;omega)⟩;have:=(h1.lt a.block q.symm).1;omega
theorem nT.snoc {S:Shape}{C e:Nat}{w w':World}{kv kv' m k:Value}{es:List PE}{x:PE}{g H:Nat}{l:List (Value × Value)}(h2:jg S (λb=>C<=b/\some b≠kv.ownBlock) w l es)(hx:pG S (λb=>C<=b/\some b≠kv.ownBlock) w m k x)
  (hown:w'.ownsRow C e S.sz kv' (es.length+1) (qZ S es l++S.cells x m k)) (hgrow:w.grownBy w' kv.ownBlock) (hv:kv'.ownBlock=some g) (hor:kv.ownBlock=some g\/g=H) (hH:w.heap.size<=H):nT S C e w' kv' (es++[x]):=by
 have hll:=h2.len
 have hal:∀ (P:Nat->Prop),(∀ b,P b->some b≠kv.ownBlock)->aW P w w':=λP hP=>aW.grown hgrow hP
 refine⟨l++[(m,k)],?_,?_⟩
 ·rw[ET S es l x m k hll,bY,List.length_singleton];exact hown
 ·have himp:∀ b,(C<=b/\some b≠kv.ownBlock)->b<w.heap.size->(C<=b/\some b≠kv'.ownBlock):=λb hb hlt=>by
   refine⟨hb.1,λq=>?_⟩;rw[hv] at q;simp only[Option.some.injEq] at q
   rcases hor with h|h
   ·exact hb.2 (by rw[h,q])
   ·omega
  exact(((h2.imp (λb hb hlt=>⟨himp b hb hlt,hb.2⟩)).frame (hal (λb=>(C<=b/\some b≠kv'.ownBlock)/\some b≠kv.ownBlock) λb hb=>hb.2)).imp λb hb _=>hb.1).snoc
   (((hx.imp (λb hb hlt=>⟨himp b hb hlt,hb.2⟩)).frame (hal (λb=>(C<=b/\some b≠kv'.ownBlock)/\some b≠kv.ownBlock) λb hb=>hb.2)).imp λb hb _=>hb.1)
theorem aW.drew (P:Nat->Prop)(w:World):aW P w w.drew:=⟨bD _,λ_ _ _=>rfl⟩
theorem QJ {S:Shape}{e be:Nat}{w1 W2 w5:World}{o:Obj}{Tp:Value}{acc:List PE}{l:List (Value × Value)}{gg:Nat}(dD:aW (λb=>b<w1.heap.size/\b≠be) w1 wr)(hbe:be<w1.heap.size)
  (hown:wr.ownsRow w1.heap.size e S.sz kv acc.length (qZ S acc l)) (hes:jg S (λb=>w1.heap.size<=b/\some b≠kv.ownBlock) wr l acc) (hx:pG S (λb=>wr.heap.size<=b) W2 m k x) (hb2:Below wr.heap.size wr W2)
  (gB:w5.ownsRow w1.heap.size e S.sz Tp (acc.length+1) (qZ S acc l++S.cells x m k)) (hgrow:(W2.alloc o).grownBy w5 kv.ownBlock) (hv5:Tp.ownBlock=some gg) (hat:kv.ownBlock=some gg\/gg=W2.heap.size+1) (off:Nat) (u:Value) :
  nT S w1.heap.size e (w5.setCell ⟨be,off,none⟩ u) Tp (acc++[x])/\aW (λb=>b<w1.heap.size/\b≠be) w1 (w5.setCell ⟨be,off,none⟩ u)/\∀ (B:Nat) (w0:World),B<=be->Below B w0 wr->Below B w0 (w5.setCell ⟨be,off,none⟩ u):=by
 have hz1:=dD.1;have hz2:=hb2.size;have hb3:Below wr.heap.size wr (W2.alloc o):=hb2.alloc hz2 _
 have hlt:∀ b,some b=kv.ownBlock->w1.heap.size<=b/\b<wr.heap.size:=λb q=>⟨(hown.lt b q.symm).1,(hown.lt b q.symm).2⟩
 have hx2:pG S (λb=>w1.heap.size<=b/\some b≠kv.ownBlock) (W2.alloc o) m k x :=
  (hx.imp (Q:=λb=>w1.heap.size<=b/\some b≠kv.ownBlock) λb hb _=>⟨by omega,λq=>by have:=(hlt b q).2;omega⟩).frame ⟨by simp,λb _ hb=>gZ _ _ _ hb⟩
 have hrow:=nT.snoc (hes.frame (aW.of hb3)) hx2 gB hgrow hv5 hat (by simp);refine⟨hrow.set hbe u,?_,λB w0 hB hb0=>?_⟩
 ·refine((dD.trans (aW.rV hb3 λb hb=>by omega)).trans (aW.grown hgrow λb hb q=>?_)).trans (aW.set u λb hb=>hb.2)
  have:=(hlt b q).1;omega
 ·have hsz:=hb0.size
  exact((hb0.trans (hb3.mono (by omega))).grown hgrow (by simp;omega) (λb q=>by have:=(hlt b q.symm).1;omega)).setCell hB _
def ad3 (x:PE)(w:World)(e:Ending)(w':World):Prop :=
 ∃ am wn cm ae ce,e=.returned (.agg #[.int .i64 x.op,fC x.name,fC x.module,.bool (decide (x.num<0)),.slice am wn cm,.bool x.yes,.slice ae x.aB.length ce,.int .i64 x.at_]) /\
  pG XA (λb=>w.heap.size<=b) w' (.slice am wn cm) (.slice ae x.aB.length ce) x/\Below w.heap.size w w'
theorem pG.acj (h:pG XA P w m k x):∃ am wn cm ae ce,m=.slice am wn cm/\k=.slice ae x.aB.length ce:=by
 obtain⟨Ip,ae,ce,rfl,_,_⟩:=h.form
 obtain⟨ws,hws,_⟩:=(Ip:nP _ _ _ _)
 obtain⟨am,cm,rfl⟩:=hws.form;exact⟨am,_,cm,ae,ce,rfl,rfl⟩
theorem EPost.a {e:Ending}(h:EPost XA x w e w'):ad3 x w e w':=by
 obtain⟨m,k,rfl,h1,h2⟩:=h;obtain⟨am,wn,cm,ae,ce,rfl,rfl⟩:=h1.acj;exact⟨am,wn,cm,ae,ce,rfl,h1,h2⟩
def oL (op at_:Nat)(kv:Value):Array Value:=#[.int .i64 op,.string ⟨#[]⟩,.string ⟨#[]⟩,.bool false,.slice none 0 0,.bool false,kv,.int .i64 at_]
theorem Fj (h:w.heap[b]?=some (.cells (oL op at_ kv) 60 (0,0)))(j:Nat):w.frozen? ⟨b,j,none⟩=false:=by simp[World.frozen?,h]
theorem wG (h:w.heap[b]?=some (.cells (oL op at_ kv) 60 (0,0))):w.cell? ⟨b,6,none⟩=some kv:=by rw[aZ h];rfl
theorem Ve (B:Nat)(tv nv:Value)(ah:List Tok)(aj:List Nd)(i op at_:Nat)(w:World)(h:bJ B w (.agg #[tv,nv]) ah aj)(hB:B<=w.heap.size)(hi:i<aj.length)
  (hk:∀ k∈aj[i].aB,0<=k/\k<(aj.length:Int)) (hl:aj[i].aB.length<=1000000000) (jH:List PE) (hp:jH.length=(gX aj aj[i].aB).length)
  (hE:∀ (j:Nat) (h1:j<jH.length) (h2:j<(gX aj aj[i].aB).length) (W:World),bJ B W (.agg #[tv,nv]) ah aj->B<=W.heap.size->Calls Tryz.prog 116 #[.agg #[tv,nv],.int .i64 (gX aj aj[i].aB)[j]] W (EPost XA jH[j] W)) :
  Calls Tryz.prog 170 #[.agg #[tv,nv],.int .i64 op,.int .i64 at_,.int .i64 i] w (EPost XA (.mk op [] [] 0 [] false jH at_) w):=by
 obtain⟨i0,adP,hz0,hz1,hz2⟩:=info_parts Tryz.Yo;have hlen:(gX aj aj[i].aB).length<=1000000000:=jq (List.length_filter_le _ _) hl;have HP:=ay (λW hW hBW=>Qv B tv nv ah aj i W hW hBW hi hk (jq hl (by decide)));have HT:=ay h;have HE:=ay hE;obtain⟨a1,c1,a2,c2,e⟩:=h.slices
 obtain⟨rfl,rfl⟩:tv=.slice a1 ah.length c1/\nv=.slice a2 aj.length c2:=by simpa using e
 generalize gX aj aj[i].aB=ps at hp hlen HP HE;have HLP:=ay hp;have ent:=Tryz.QI;clear hk hE h e hp hl hi;have hb3:Below w.heap.size w (((w.alloc (.cells #[.slice a1 ah.length c1,.slice a2 aj.length c2] 154)).alloc (.cells #[.int .i64 0,.string ⟨#[]⟩,.string ⟨#[]⟩,.bool false,.slice none 0 0,.bool false,.slice none 0 0,.int .i64 0] 60)).alloc (.cells (oL op at_ (.slice none 0 0)) 60)):=(((bQ _ _).alloc (bD _) _).alloc (by simp) _).alloc (by simp;omega) _;have hnr:=aX w (.cells #[.slice a1 ah.length c1,.slice a2 aj.length c2] 154);have hne:=aX (w.alloc (.cells #[.slice a1 ah.length c1,.slice a2 aj.length c2] 154)) (.cells #[.int .i64 0,.string ⟨#[]⟩,.string ⟨#[]⟩,.bool false,.slice none 0 0,.bool false,.slice none 0 0,.int .i64 0] 60);have hne2:=aX ((w.alloc (.cells #[.slice a1 ah.length c1,.slice a2 aj.length c2] 154)).alloc (.cells #[.int .i64 0,.string ⟨#[]⟩,.string ⟨#[]⟩,.bool false,.slice none 0 0,.bool false,.slice none 0 0,.int .i64 0] 60)) (.cells (oL op at_ (.slice none 0 0)) 60);go_enter Tryz.func170,Tryz.ntmps170;go_wp2_with (go_at_call 218;refine(HP.out _ ?c1 ?c2).mono ?_)
 case c1=>exact HT.out.below (hb3.mono hB)
 case c2=>simp;omega
 rintro e w1 ⟨v,rfl,hints,hb1⟩;have ahx:=hb1.size;simp only[nG] at ahx;rw[nG] at hne;rw[nG,nG] at hne2;have hq0:w1.heap[w.heap.size]?=some (.cells #[.slice a1 ah.length c1,.slice a2 aj.length c2] 154 (0,0)):=(hb1.block w.heap.size (by simp;omega)).trans ((gZ _ _ _ (by simp;omega)).trans ((gZ _ _ _ (by simp)).trans hnr));have hq1:w1.heap[w.heap.size+1]?=some (.cells #[.int .i64 0,.string ⟨#[]⟩,.string ⟨#[]⟩,.bool false,.slice none 0 0,.bool false,.slice none 0 0,.int .i64 0] 60 (0,0)):=(hb1.block (w.heap.size+1) (by simp)).trans ((gZ _ _ _ (by simp)).trans hne);have hq2:w1.heap[w.heap.size+1+1]?=some (.cells (oL op at_ (.slice none 0 0)) 60 (0,0)):=(hb1.block (w.heap.size+1+1) (by simp)).trans hne2;have oM:Below w.heap.size w w1:=hb3.trans (hb1.mono (by simp;omega));obtain⟨ap,cp,rfl,_,hpf⟩:=hints.ints;simp only[nG] at hpf;have HF:=ay hpf;clear hpf hints hnr hne hne2 hb1 hb3;go_wp2
 go_loopw [19] (λq wr=>∃ (j:Nat) (kv:Value),j<=ps.length/\q=.int .i64 j/\aW (λb=>b<w1.heap.size/\b≠w.heap.size+1+1) w1 wr/\wr.heap[w.heap.size+1+1]?=some (.cells (oL op at_ kv) 60 (0,0))/\nT XA w1.heap.size 60 wr kv (jH.take j)/\Below w.heap.size w wr) (λq _=>ps.length - (intOf q).toNat)
 case atStart=>exact⟨0,.slice none 0 0,kJ _,rfl,aW.refl _ _,hq2,nT.nil _ _ _ _,oM⟩
 case round =>
  obtain⟨j,kv,hj,rfl,dD,hbe,hrow,hbl⟩:=hrel;have hsz:=dD.1;have hr0:=(dD.2 w.heap.size ⟨by omega,by omega⟩ (by omega)).trans hq0;have hr1:=(dD.2 (w.heap.size+1) ⟨by omega,by omega⟩ (by omega)).trans hq1
  by_cases hjl:j<ps.length
  ·have hjp:j<jH.length:=by have:=HLP.out;omega
   obtain⟨bp,op',rfl,ai3,afR,hcell⟩:=HF.out (by omega);have hx:=(yK (a:=⟨bp,op'+j,none⟩) (dD.2 bp ⟨afR,by omega⟩ afR)).trans (hcell j hjl);have hC:=HE.out j hjp hjl wr.drew (HT.out.below ((hbl.mono hB).drew)) (by have:=hbl.size;show B<=wr.heap.size;omega);have hsn:jH.take (j+1)=jH.take j++[jH[j]]:=zF hjp
   have hpl:(jH.take j).length=j:=by rw[pK];omega
   have Ij:(j:Int)<(ps.length:Int):=by omega
   generalize ps[j]=q at hx hC;generalize jH[j]=x at hC hsn;generalize jH.take j=acc at hrow hsn hpl;obtain⟨l,hown,hes⟩:=hrow;rw[hpl] at hown;have HL:=ay hpl;have HS:=ay hsn;clear hpl hsn hcell
   obtain⟨ak,ck,rfl,_⟩:∃ ak ck,kv=.slice ak j ck/\True:=by
    rcases hown.2 with ⟨hv,hn0⟩|⟨g,cap,cur,hv,_⟩
    ·exact⟨none,0,by rw[hv,hn0],trivial⟩
    ·exact⟨_,cap,hv,trivial⟩
   have HC:=ay (hC.mono λ_ _ h=>h.a)
   have r0:wr.cell? ⟨w.heap.size,0,none⟩=some (.slice a1 ah.length c1):=by rw[aZ hr0];rfl
   have r1:wr.cell? ⟨w.heap.size,1,none⟩=some (.slice a2 aj.length c2):=by rw[aZ hr0];rfl
   have r6:wr.cell? ⟨w.heap.size+1+1,6,none⟩=some (.slice ak j ck):=by rw[aZ hbe];rfl
   clear hC;go_wp2;have hce:=hbe;have hlt:=(bP hbe).1;have hCw:w1.heap.size<=wr.heap.size:=hsz
   have ahy:some (w.heap.size+1+1)≠(Value.slice ak j ck).ownBlock:=λq=>by have:=(hown.lt _ q.symm).1;omega
   go_region_law ((first
    | (refine step_append_lies _ (by rfl) _ _ _ (by rfl) w1.heap.size 60 i0 _ 8 112 Tryz.underlying55 adP hz0 hz1 hz2 rfl (by omega) (.slice ak j ck) j _ (by rfl) ((own_below (sW hown) hb2).alloc _) ⟨W2.heap.size,0,none⟩ 1 1 [.int .i64 x.op,fC x.name,fC x.module,.bool (decide (x.num<0)),.slice am wn cm,.bool x.yes,.slice ae x.aB.length ce,.int .i64 x.at_] (by rfl) (by rfl) (vL (cs:=#[.int .i64 x.op,fC x.name,fC x.module,.bool (decide (x.num<0)),.slice am wn cm,.bool x.yes,.slice ae x.aB.length ce,.int .i64 x.at_]) (t:=60) (fr:=(0,0)) (aX W2 _)) (by simp[Value.oneCell',fC]) (by omega) (by unfold maxLen;omega) (by omega) (by have:=hb2.size;simp at this |-;omega) (W2.heap.size+1) (by simp) ?_;intro gg jO w5 gB fB uL KG;have vR:=(fB.block (w.heap.size+1+1) (by have:=hb2.size;simp at this |-;omega) ahy).trans ((gZ W2 _ (w.heap.size+1+1) (by have:=hb2.size;simp at this;omega)).trans Fp);have r65:=wG vR;have z65:=Fj vR 6)
    | (refine tL rfl 116 _ _ rfl HC.out (by rfl) (ent _ _) ?_;rintro e W2 ⟨am,wn,cm,ae,ce,rfl,hxe,hb2⟩;refine⟨_,rfl,?_⟩;have Fp:=(hb2.block (w.heap.size+1+1) hlt).trans hce;have r62:=wG Fp;have r63:=λo=>Lib.cell?_alloc_some o r62)))
   all_goals
    have hlen:=HL.out;obtain⟨q1,q2,q3⟩:=QJ (S:=XA) (wr:=wr.drew) (kv:=.slice ak j ck) (Tp:=.slice (some ⟨gg,0,none⟩) (j+1) jO) (acc:=acc) (x:=x) (l:=l) (show aW _ w1 wr.drew from dD) (show w.heap.size+1+1<w1.heap.size by omega) (by rw[hlen];exact hown) (hes.frame (aW.drew _ wr)) hxe hb2 (by rw[hlen];exact gB) fB rfl uL 6 (.slice (some ⟨gg,0,none⟩) (j+1) jO)
    have Fq:(w5.setCell ⟨w.heap.size+1+1,6,none⟩ (.slice (some ⟨gg,0,none⟩) (j+1) jO)).heap[w.heap.size+1+1]?=some (.cells (oL op at_ (.slice (some ⟨gg,0,none⟩) (j+1) jO)) 60 (0,0)):=by
     rw[jN w5 _ 6 _ _ _ vR];rfl
    have Fu:=q3 w.heap.size w (by omega) hbl.drew;clear fB gB uL vR r65 z65 Fp r62 r63 hxe hb2 HC hes hown dD hbe hce r0 r1 r6 hx;generalize w5.setCell _ _=w6 at q1 q2 Fq Fu |-;go_wp2
    go_roundw
    case rel=>exact⟨j+1,_,by omega,by go_num,q2,Fq,by rw[HS.out];exact q1,Fu⟩
    case measure=>simp[intOf];omega
  ·have:j=ps.length:=by omega
   subst this;have Ij:decide ((ps.length:Int)<(ps.length:Int))=false:=dX (by omega);rw[<- HLP.out,zG] at hrow;obtain⟨l,hown,hes⟩:=hrow
   obtain⟨ak,ck,rfl,_⟩:∃ ak ck,kv=.slice ak jH.length ck/\True:=by
    rcases hown.2 with ⟨hv,hn0⟩|⟨g,cap,cur,hv,_⟩
    ·exact⟨none,0,by rw[hv,hn0],trivial⟩
    ·exact⟨_,cap,hv,trivial⟩
   have c0:wr.cell? ⟨w.heap.size+1+1,0,none⟩=some (.int .i64 op):=by rw[aZ hbe];rfl
   have c1':wr.cell? ⟨w.heap.size+1+1,1,none⟩=some (.string ⟨#[]⟩):=by rw[aZ hbe];rfl
   have c2':wr.cell? ⟨w.heap.size+1+1,2,none⟩=some (.string ⟨#[]⟩):=by rw[aZ hbe];rfl
   have c3:wr.cell? ⟨w.heap.size+1+1,3,none⟩=some (.bool false):=by rw[aZ hbe];rfl
   have c4:wr.cell? ⟨w.heap.size+1+1,4,none⟩=some (.slice none 0 0):=by rw[aZ hbe];rfl
   have c5:wr.cell? ⟨w.heap.size+1+1,5,none⟩=some (.bool false):=by rw[aZ hbe];rfl
   have c6:wr.cell? ⟨w.heap.size+1+1,6,none⟩=some (.slice ak jH.length ck):=by rw[aZ hbe];rfl
   have c7:wr.cell? ⟨w.heap.size+1+1,7,none⟩=some (.int .i64 at_):=by rw[aZ hbe];rfl
   have d0:wr.cell? ⟨w.heap.size+1,0,none⟩=some (.int .i64 0):=by rw[aZ hr1];rfl
   have d1:wr.cell? ⟨w.heap.size+1,1,none⟩=some (.string ⟨#[]⟩):=by rw[aZ hr1];rfl
   have d2:wr.cell? ⟨w.heap.size+1,2,none⟩=some (.string ⟨#[]⟩):=by rw[aZ hr1];rfl
   have d3:wr.cell? ⟨w.heap.size+1,3,none⟩=some (.bool false):=by rw[aZ hr1];rfl
   have d4:wr.cell? ⟨w.heap.size+1,4,none⟩=some (.slice none 0 0):=by rw[aZ hr1];rfl
   have d5:wr.cell? ⟨w.heap.size+1,5,none⟩=some (.bool false):=by rw[aZ hr1];rfl
   have d6:wr.cell? ⟨w.heap.size+1,6,none⟩=some (.slice none 0 0):=by rw[aZ hr1];rfl
   have d7:wr.cell? ⟨w.heap.size+1,7,none⟩=some (.int .i64 0):=by rw[aZ hr1];rfl
   have z0:∀ j,wr.frozen? ⟨w.heap.size+1,j,none⟩=false:=by intro j;simp[World.frozen?,hr1]
   have hE0:pG XA (λb=>w1.heap.size<=b) wr (.slice none 0 0) (.slice ak jH.length ck) (.mk op [] [] 0 [] false jH at_):=by
    rw[pG];exact⟨nP.zero _ _,l,oJ.fQ hown λb hb=>hb,hes.imp λb hb _=>hb.1⟩
   clear hown hes hbe hr0 hr1;go_wp2;refine nI (v:=.agg #[.int .i64 op,.string ⟨#[]⟩,.string ⟨#[]⟩,.bool false,.slice none 0 0,.bool false,.slice ak jH.length ck,.int .i64 at_]) (by simp[results,Tryz.results170,go_sem,d0,d1,d2,d3,d4,d5,d6,d7]) rfl ⟨.slice none 0 0,.slice ak jH.length ck,rfl,?_,?_⟩
   ·have hs:∀ (W:World) (j:Nat) (u:Value),aW (λb=>w1.heap.size<=b) W (W.setCell ⟨w.heap.size+1,j,none⟩ u):=λW j u=>aW.set u λb hb=>by show b≠w.heap.size+1;omega
    refine(hE0.frame ?_).imp (λb hb _=>by omega);exact(((((((hs _ _ _).trans (hs _ _ _)).trans (hs _ _ _)).trans (hs _ _ _)).trans (hs _ _ _)).trans (hs _ _ _)).trans (hs _ _ _)).trans (hs _ _ _)
   ·exact((((((((hbl).setCell (by simp) _).setCell (by simp) _).setCell (by simp) _).setCell (by simp) _).setCell (by simp) _).setCell (by simp) _).setCell (by simp) _).setCell (by simp) _
def Wd (P:Nat->Prop)(w:World)(m:Value)(ws:List Nat):Prop:=oJ P w m 1 ws.length (ws.map λd=>.int .u32 (d:Nat))
theorem Wd.form {ws:List Nat}(h:Wd P w m ws):∃ ao cap,m=.slice ao ws.length cap/\ws.length<=cap /\
  (0<ws.length->∃ b off,ao=some ⟨b,off,none⟩/\P b/\b<w.heap.size/\∀ j,(hj:j<ws.length)->w.cell? ⟨b,off+j,none⟩=some (.int .u32 (ws[j]:Nat))):=by
 obtain⟨ao,cap,hv,hn,hl,hc⟩:=h;refine⟨ao,cap,hv,hn,λh0=>?_⟩;obtain⟨b,off,ha,hP,hlt,hcell⟩:=hc h0;exact⟨b,off,ha,hP,hlt,λj hj=>by rw[hcell j (by simpa using hj)];simp⟩
theorem Wd.take {P:Nat->Prop}{w:World}{ao:Option Addr}{cap k:Nat}{ws:List Nat}(h:Wd P w (.slice ao ws.length cap) ws)(hk:k<=ws.length):Wd P w (.slice ao k cap) (ws.take k):=by
 obtain⟨ao',jw,hv,hn,hl,hc⟩:=h;simp only[Value.slice.injEq] at hv;obtain⟨rfl,_,rfl⟩:=hv
 have hlen:(ws.take k).length=k:=by rw[pK];omega
 refine⟨ao,cap,by rw[hlen],by omega,by simp,λh0=>?_⟩;obtain⟨b,off,ha,hP,hlt,hcell⟩:=hc (by omega);refine⟨b,off,ha,hP,hlt,λj hj=>?_⟩;simp only[oC] at hj;rw[hcell j (by simp only[oC];omega)]
 simp
theorem Nc (ws:List Nat)(k:Nat)(hk:k<=ws.length)(h0:∀ j,k<=j->(h:j<ws.length)->ws[j]=0)(h1:∀ j,j+1=k->(h:j<ws.length)->ws[j]≠0):(dB ws).length=k/\ws.take k=dB ws:=by
 obtain⟨n,n1,n2,n3,n4⟩:=uK ws
 have:n=k:=by
  rcases Nat.lt_trichotomy n k with h|h|h
  ·exact absurd (n3 (k - 1) (by omega) (by omega)) (h1 (k - 1) (by omega) (by omega))
  ·exact h
  ·exact absurd (h0 (n - 1) (by omega) (by omega)) (n4 (n - 1) (by omega) (by omega))
 subst this;exact⟨by rw[n2,pK];omega,n2.symm⟩
theorem Bq (P:Nat->Prop)(ao:Option Addr)(cap:Nat)(ws:List Nat)(w:World)(h:Wd P w (.slice ao ws.length cap) ws)(hn:ws.length<=1099511627776) :
  Calls Tryz.prog 145 #[.slice ao ws.length cap] w λe w'=>e=.returned (.slice ao (dB ws).length cap)/\w'=w:=by
 obtain⟨ao',jw,hv,hc1,hf⟩:=h.form;simp only[Value.slice.injEq] at hv;obtain⟨rfl,-,rfl⟩:=hv;have HF:=ay hf;clear hf h;go_enter Tryz.func145,Tryz.ntmps145;go_wp2
 go_loop [3] (λq=>∃ k:Nat,k<=ws.length/\q=.int .i64 k/\∀ j,k<=j->(hj:j<ws.length)->ws[j]=0) (λq=>(intOf q).toNat)
 case atStart=>exact⟨ws.length,bD _,rfl,λj h1 h2=>absurd h2 (by omega)⟩
 case round =>
  obtain⟨k,hk,rfl,h0⟩:=hrel;have H0:=ay h0;clear h0
  by_cases hk0:k=0
  ·subst hk0
   obtain⟨t1,_⟩:=Nc ws 0 (kJ _) H0.out (λj hj=>by omega);have HT:=ay t1;clear t1;go_wp2;go_ret;exact⟨by rw[HT.out];rfl,rfl⟩
  ·obtain⟨k',rfl⟩:∃ k',k=k'+1:=⟨k - 1,by omega⟩
   obtain⟨b,off,rfl,_,_,hcell⟩:=HF.out (by omega);have hx:=hcell k' (by omega)
   have hw:(((k'+1:Nat):Int) - 1)=(k':Int):=by omega
   have nK:(k':Int)<(ws.length:Int):=by omega
   have hpos:(0:Int)<((k'+1:Nat):Int):=by omega
   by_cases hz:ws[k']=0
   ·have HZ:=ay hz
    rw[hz] at hx;clear hz hcell;go_wp2
    go_round
    case rel=>exact⟨k',by omega,by go_num,λj h1 h2=>by
     rcases Nat.lt_or_ge k' j with h|h
     ·exact H0.out j h h2
     ·obtain rfl:j=k':=by omega
      exact HZ.out⟩
    case measure=>simp[intOf]
   ·have hz1:((ws[k']:Int) == 0)=false:=by simpa using hz
    have hz2:∀ j,j+1=k'+1->(h:j<ws.length)->ws[j]≠0:=λj hj hj2=>by
     have e:j=k':=by omega
     subst e;exact hz
    obtain⟨t1,_⟩:=Nc ws (k'+1) hk H0.out hz2;clear hz2;have HT:=ay t1;clear t1 hz hcell;generalize ws[k']=d at hx hz1
    have hkc:((k'+1:Nat):Int)<=(cap:Int):=by omega
    go_wp2;go_ret;exact⟨by rw[HT.out];rfl,rfl⟩
theorem Tryz.Tq:(Tryz.prog.info? 246).map (λi=>(i.zero,i.size,i.bytes))=some (some (.int .u32 0),1,4):=by kernel_rfl
theorem KR {α:Type}{l t:List α}{k:Nat}{r:α}(h:l=l.take k++r :: t)(hk:(l.take k).length=k):l.take (k+1)=l.take k++[r]/\l=l.take (k+1)++t:=by
 have h1:l.take (k+1)=l.take k++[r]:=by
  conv=>lhs;rw[h]
  rw[List.take_append,hk,Ba (by omega),Nat.add_sub_cancel_left,List.take_succ_cons,List.take_zero]
 exact⟨h1,by rw[h1,om];exact h⟩
theorem Jr (c x b:Nat):((c:Int)+(x:Int) * (b:Int)) % 4294967296=(((c+x * b) % 4294967296:Nat):Int)/\((c:Int)+(x:Int) * (b:Int)) / 4294967296=(((c+x * b) / 4294967296:Nat):Int):=by
 rw[<- Int.natCast_mul];generalize x * b=y;omega
def afS (ws:List Nat)(w:World)(e:Ending)(w':World):Prop:=∃ v,e=.returned v/\w'.ownsRow w.heap.size 246 1 v ws.length (ws.map λd=>.int .u32 (d:Nat))/\Below w.heap.size w w'
theorem Vf (P:Nat->Prop)(m:Value)(ws:List Nat)(KD more:Nat)(w:World)(h:Wd P w m ws)(hw:∀ x∈ws,x<4294967296)(hb:KD<=1000000000)(hm:more<=1000000000)(hn:ws.length<=1000) :
  Calls Tryz.prog 221 #[m,.int .u64 KD,.int .u64 more] w (afS (fU KD ws more) w):=by
 obtain⟨i0,hi,hz0,hz1,hz2⟩:=info_parts Tryz.Tq;obtain⟨ao,cap,rfl,hc1,hf⟩:=h.form;have HF:=ay hf;have HW:=ay hw;clear hf h hw;obtain⟨wm,hmk,hown0,afT⟩:=run_make_own (P:=Tryz.prog) w w.heap.size 56 246 i0 (.int .u32 0) 1 Tryz.underlying56 hi hz0 hz1 .i64 .i64 (ws.length+1) (by rw[hz2];omega) (by unfold maxLen;omega) (bD _);rw[show (((ws.length+1:Nat)):Int)=(ws.length:Int)+1 by omega] at hmk;have hbm:Below w.heap.size w wm:=(bQ _ _).grown afT (bD _) (λk hk=>by cases hk);clear afT;go_enter Tryz.func221,Tryz.ntmps221;go_wp2;clear hmk
 go_loopw [2,7,16] (λmv v q wr=>∃ k c:Nat,k<=ws.length/\q=.int .i64 k/\mv=.int .u64 c/\c<=1000000000/\wr.ownsRow w.heap.size 246 1 v k (((fU KD ws more).take k).map λd=>.int .u32 (d:Nat))/\fU KD ws more=(fU KD ws more).take k++fU KD (ws.drop k) c/\Below w.heap.size w wr) (λ_ _ q _=>ws.length - (intOf q).toNat)
 case atStart=>exact⟨0,more,kJ _,rfl,rfl,hm,hown0,by simp,hbm⟩
 case round =>
  obtain⟨k,c,hk,rfl,rfl,hc,hown,heq,hbl⟩:=hrel;have hz:=hbl.size
  by_cases hlt:k<ws.length
  ·obtain⟨b,off,rfl,_,hb',hcell⟩:=HF.out (by omega)
   have hx:=(hbl.cell (p:=⟨b,off+k,none⟩) hb').trans (hcell k hlt);have hxw:=HW.out ws[k] (nH hlt)
   have nK:(k:Int)<(ws.length:Int):=by omega
   have hdr:ws.drop k=ws[k] :: ws.drop (k+1):=List.drop_eq_getElem_cons hlt;rw[hdr,fU] at heq;generalize ws[k]=x at hx hxw heq;have hcar:=MK hxw hb hc;have hE:=ay heq;clear heq hcell hdr
   have hlt2:((fU KD ws more).take k).length=k:=by rw[pK,kM];omega
   have HL:=ay hlt2;clear hlt2;go_wp2_with (at_builtin;refine wpList_append_own _ rfl _ _ 56 rfl w.heap.size 246 i0 (.int .u32 0) 1 4 Tryz.underlying56 hi hz0 hz1 hz2 rfl (by decide) _ _ _ rfl (hown.alloc _) ⟨wr.heap.size,0,none⟩ 1 1 [.int .u32 (((c:Int)+(x:Int) * (KD:Int)) % 4294967296)] rfl rfl ?c1 ?c2 ?c3 ?c4 ?c5 ?_)
   case c1 =>
    intro j' u hj';exact vL (cs:=#[.int .u32 (((c:Int)+(x:Int) * (KD:Int)) % 4294967296)]) (t:=246) (fr:=(0,0)) (aX wr _) j' u (by simpa using hj')
   case c2=>simp[Value.oneCell']
   case c3=>unfold maxLen;omega
   case c4=>omega
   case c5=>simp;omega
   intro v' w2 hown2 hgrow2 _;have hb2:Below w.heap.size w w2:=(hbl.alloc hz _).grown hgrow2 (by simp;omega) (λq hq=>by have:=(hown.lt q hq).1;omega);have H2:=ay hown2;clear hgrow2 hown2 hown;go_wp2
   go_roundw
   case rel =>
    refine⟨k+1,(c+x * KD) / 4294967296,by omega,by go_num,?_,hcar.2,?_,?_,hb2⟩
    ·rw[(Jr c x KD).2]
    ·rw[(KR hE.out HL.out).1,xZ,List.map_singleton,<- (Jr c x KD).1,List.map_take]
     exact H2.out
    ·exact(KR hE.out HL.out).2
   case measure=>simp[intOf];omega
  ·have hkl:k=ws.length:=by omega
   subst hkl;rw[List.drop_length,fU] at heq
   have hlt2:((fU KD ws more).take ws.length).length=ws.length:=by rw[pK,kM];omega
   have hfin:=(KR heq hlt2).1;rw[Ba (by rw[kM];exact bD _)] at hfin;have HE:=ay hfin;clear hfin hlt2 heq;generalize (fU KD ws more).take ws.length=acc at hown HE;go_wp2_with (at_builtin;refine wpList_append_own _ rfl _ _ 56 rfl w.heap.size 246 i0 (.int .u32 0) 1 4 Tryz.underlying56 hi hz0 hz1 hz2 rfl (by decide) _ _ _ rfl (hown.alloc _) ⟨wr.heap.size,0,none⟩ 1 1 [.int .u32 (c:Int)] rfl rfl ?e1 ?e2 ?e3 ?e4 ?e5 ?_)
   case e1 =>
    intro j' u hj';exact vL (cs:=#[.int .u32 (c:Int)]) (t:=246) (fr:=(0,0)) (aX wr _) j' u (by simpa using hj')
   case e2=>simp[Value.oneCell']
   case e3=>unfold maxLen;omega
   case e4=>omega
   case e5=>simp;omega
   intro v' w2 hown2 hgrow2 _;have hb2:Below w.heap.size w w2:=(hbl.alloc hz _).grown hgrow2 (by simp;omega) (λq hq=>by have:=(hown.lt q hq).1;omega);have H2:=ay hown2;clear hgrow2 hown2 hown;go_wp2;go_ret;refine⟨v',rfl,?_,hb2⟩;rw[HE.out,xZ,List.map_singleton,Nat.mod_eq_of_lt (show c<4294967296 by omega),<- Nat.mod_eq_of_lt (show c<4294967296 by omega),<- HE.out,kM,Nat.mod_eq_of_lt (show c<4294967296 by omega)];exact H2.out
