/- Walks and plain laws, without a condition. -/
import Derived.Test.YtmleecdnkmoohaaGreatDoorK03
set_option maxHeartbeats 16000000
set_option maxRecDepth 100000
set_option linter.unusedVariables false
set_option linter.unusedSimpArgs false
namespace Go.Proofs.YtmleecdnkmoohaaGreatDoor
open Go.RowKit
variable{ks:List Int}{n:Nat}{w w':World}{v:Value}{st:aK}{E:bG}
theorem eO.cells {ao:Option Addr}{cap:Nat}(h:eO w (.slice ao n cap) ks):n=ks.length/\(0<ks.length->∃ b off,ao=some ⟨b,off,none⟩/\∀ j,(hj:j<ks.length)->w.cell? ⟨b,off+j,none⟩=some (.int .i64 ks[j])):=by
 obtain⟨ao',jw,hv,hc,hf⟩:=h
 injection hv with h1 h2 h3
 subst h1 h2 h3;refine⟨rfl,λh0=>?_⟩;obtain⟨b,off,cs,fr,ha,hb,hj⟩:=hf h0;exact⟨b,off,ha,λj hjl=>by rw[aZ hb];exact hj j hjl⟩
theorem eO.slice {w:World}{v:Value}{ks:List Int}(h:eO w v ks):∃ ao cap,v=.slice ao ks.length cap:=by
 obtain⟨ao,cap,hv,_⟩:=h;exact⟨ao,cap,hv⟩
theorem eO.fQ {B:Nat}(h:w.ownsRow B 3 1 v n (ks.map (Value.int .i64))):eO w v ks:=by
 obtain⟨hl,h⟩:=h;rw[oC,Nat.mul_one] at hl;subst hl
 rcases h with ⟨rfl,h0⟩|⟨g,cap,cur,rfl,hg,hh,hn,hm,hs,hx⟩
 ·exact⟨none,0,by rw[h0],by omega,λq=>absurd q (by omega)⟩
 ·refine⟨some ⟨g,0,none⟩,cap,rfl,hn,λ_=>⟨g,0,cur,(0,0),rfl,hh,λj hj=>?_⟩⟩
  have h1:(ks.map (Value.int .i64))[j]?=some (.int .i64 ks[j]):=by rw[List.getElem?_map,AY hj];rfl
  rw[<- hx,List.getElem?_take] at h1
  split at h1
  ·rw[Nat.zero_add,<- Array.getElem?_toList];exact h1
  ·cases h1
theorem qY.fQ {R:List Nat}{B n:Nat}{w:World}{v:Value}{ks:List Int}(h:w.ownsRow B 3 1 v n (ks.map (Value.int .i64)))(hR:∀ r∈R,r<B):qY R w v ks:=by
 refine⟨eO.fQ h,λb off m cap hv _ hb=>?_⟩;have:=(h.lt b (by rw[hv];rfl)).1;have:=hR b hb;omega
def ab9 (ks:List Int)(w:World)(e:Ending)(w':World):Prop:=∃ v',e=.returned v'/\(∀ R:List Nat,(∀ r∈R,r<w.heap.size)->qY R w' v' ks)/\Below w.heap.size w w'
theorem EN (v:Value)(ks:List Int)(w:World)(h:eO w v ks)(hn:ks.length<=1099511627776) :
  Calls Tryz.prog 154 #[v] w (ab9 ks w):=by
 obtain⟨ao,cap,rfl⟩:=h.slice;obtain⟨_,hf⟩:=h.cells
 by_cases h0:0<ks.length
 ·obtain⟨b,off,rfl,hc⟩:=hf h0
  refine(Tryz.slices_Clone_int b off ks.length cap ks w (bD _) (by omega) (λj hj=>by rw[hc j hj];simp[Kr,hj])).mono ?_;rintro e w' ⟨v',he,ho,_,hb⟩;rw[zG] at ho;exact⟨v',he,λR hR=>qY.fQ ho hR,hb⟩
 ·obtain rfl:ks=[]:=List.length_eq_zero_iff.1 (by omega)
  cases ao with
  | none =>
   refine(Tryz.slices_Clone_int_nil 0 cap w).mono ?_;rintro e w' ⟨he,rfl⟩;exact⟨_,he,λR _=>⟨⟨none,0,rfl,bD _,λq=>absurd q (by simp)⟩,λ_ _ _ _ h=>by cases h⟩,bQ _ _⟩
  | some a =>
   refine(Tryz.slices_Clone_int_zero a cap w).mono ?_;rintro e w' ⟨v',he,ho,_,hb⟩;exact⟨v',he,λR hR=>qY.fQ (ks:=[]) ho hR,hb⟩
def yc (n:Nat)(k:Int):Bool:=decide (k<0) || decide ((n:Int)<=k)
theorem KI (R:List Nat)(B bb g:Nat)(tv:Value)(used:Nat)(aj:List Nd)(k:Int)(w:World)(hb:BW R B bb tv used aj w)(hg:w.cell? ⟨g,0,none⟩=some (.pointer (some ⟨bb,0,none⟩))) :
  Calls Tryz.prog 214 #[.int .i64 k,.pointer (some ⟨g,0,none⟩)] w λe w'=>e=.returned (.bool (yc aj.length k))/\w'=w:=by
 obtain⟨h1,nv,l,h2,h3,h4,h5⟩:=hb
 obtain⟨ao,cap,rfl,_⟩:∃ ao cap,nv=.slice ao aj.length cap/\True:=by
  rcases h4.2 with ⟨hv,hn0⟩|⟨g,cap,cur,hv,_⟩
  ·exact⟨none,0,by rw[hv,hn0],trivial⟩
  ·exact⟨_,cap,hv,trivial⟩
 have c1:w.cell? ⟨bb,1,none⟩=some (.slice ao aj.length cap):=by rw[aZ h2];rfl
 clear h2 h3 h4 h5
 by_cases hk:k<0
 ·have hq:yc aj.length k=true:=by simp[yc,hk]
  rw[hq];clear hq;go_enter Tryz.func214,Tryz.ntmps214;go_wp2
  all_goals (go_ret;refine⟨bB ?_,rfl⟩;simp[*])
 ·have hq:yc aj.length k=decide ((aj.length:Int)<=k):=by simp[yc,hk]
  have d1:decide (k<0)=false:=dX hk;rw[hq];clear hq;go_enter Tryz.func214,Tryz.ntmps214;go_wp2
  all_goals (go_ret;refine⟨bB ?_,rfl⟩;simp[*])
def acd (p:Bool)(w:World)(e:Ending)(w':World):Prop:=(∃ r:Int,e=.returned (.int .i64 r)/\(0<=r↔p=true)/\-1<=r)/\w'=w
theorem Ii (R:List Nat)(B bb g:Nat)(tv:Value)(used:Nat)(aj:List Nd)(v:Value)(ks:List Int)(w:World)(hb:BW R B bb tv used aj w)(hg:w.cell? ⟨g,0,none⟩=some (.pointer (some ⟨bb,0,none⟩)))(hv:eO w v ks)(hn:ks.length<=1099511627776) :
  Calls Tryz.prog 266 #[v,.func (.func 214) #[] #[.pointer (some ⟨g,0,none⟩)]] w (acd (ks.any (yc aj.length)) w):=by
 obtain⟨ao,cap,rfl⟩:=hv.slice;obtain⟨_,hf⟩:=hv.cells;have HT:=ay (λk=>KI R B bb g tv used aj k w hb hg);have HF:=ay hf;clear hf hb hv hg;go_enter Tryz.func266,Tryz.ntmps266;go_wp2
 go_loop [8] (λi=>∃ k:Nat,k<=ks.length/\i=.int .i64 k/\∀ j,(hj:j<ks.length)->j<k->yc aj.length ks[j]=false) (λi=>ks.length - (intOf i).toNat)
 case atStart=>exact⟨0,kJ _,rfl,λj _ h=>absurd h (by omega)⟩
 case round =>
  obtain⟨k,hk,rfl,hj⟩:=hrel
  by_cases hlt:k<ks.length
  ·obtain⟨b,off,rfl,hc⟩:=HF.out (by omega)
   have hx:=hc k hlt
   have hI:(k:Int)<(ks.length:Int):=by omega
   have hT:=HT.out ks[k]
   cases ht:yc aj.length ks[k] with
   | true =>
    have hany:ks.any (yc aj.length)=true:=List.any_eq_true.2 ⟨_,nH hlt,ht⟩;rw[ht] at hT;generalize ks[k]=x at hx hT;have H1:=ay hT;have H2:=ay hany;clear hc hj ht hT hany;go_wp2_with (go_at_call 214;refine H1.out.mono ?_;rintro e w1 ⟨rfl,rfl⟩);go_ret;exact⟨⟨k,rfl,⟨λ_=>H2.out,λ_=>by omega⟩,by omega⟩,rfl⟩
   | false =>
    have HJ:Hid (∀ j,(hj:j<ks.length)->j<k+1->yc aj.length ks[j]=false):=ay (λj hjl hjk=>by
     by_cases hkj:j=k
     ·subst hkj;exact ht
     ·exact hj j hjl (by omega))
    rw[ht] at hT;generalize ks[k]=x at hx hT;have H1:=ay hT;clear hc hj ht hT;go_wp2_with (go_at_call 214;refine H1.out.mono ?_;rintro e w1 ⟨rfl,rfl⟩)
    go_round
    case rel=>exact⟨k+1,by omega,by go_num,HJ.out⟩
    case measure=>simp[intOf];omega
  ·have hany:ks.any (yc aj.length)=false:=by
    rw[<- vM,List.any_eq_true];rintro⟨x,hx,hb⟩;obtain⟨j,hjl,e⟩:=List.mem_iff_getElem.1 hx;rw[<- e,hj j hjl (by omega)] at hb;cases hb
   have hI:decide ((k:Int)<(ks.length:Int))=false:=dX (by omega);have H2:=ay hany;clear hany hj;go_wp2;go_ret;exact⟨⟨-1,rfl,⟨λh=>by omega,λh=>by rw[H2.out] at h;cases h⟩,by omega⟩,rfl⟩
theorem Bl (R:List Nat)(B bb g:Nat)(tv:Value)(used:Nat)(aj:List Nd)(v:Value)(ks:List Int)(w:World)(hb:BW R B bb tv used aj w)(hg:w.cell? ⟨g,0,none⟩=some (.pointer (some ⟨bb,0,none⟩)))(hv:eO w v ks)(hn:ks.length<=1099511627776) :
  Calls Tryz.prog 213 #[v,.func (.func 214) #[] #[.pointer (some ⟨g,0,none⟩)]] w λe w'=>e=.returned (.bool (ks.any (yc aj.length)))/\w'=w:=by
 have H:=ay (Ii R B bb g tv used aj v ks w hb hg hv hn);clear hb hg hv;go_enter Tryz.func213,Tryz.ntmps213;go_wp2_with (go_at_call 266;refine H.out.mono ?_);rintro e w1 ⟨⟨r,rfl,hr,_⟩,rfl⟩
 have hq:(ks.any (yc aj.length))=decide (0<=r):=by
  by_cases h:0<=r
  ·rw[jV h];exact hr.1 h
  ·rw[dX h,<- vM];exact λq=>h (hr.2 q)
 have HQ:=ay hq;clear hq hr;go_wp2;go_ret;exact⟨bB HQ.out.symm,rfl⟩
def KJ (kind:Int)(ks:List Int)(aj:List Nd):Int × List Nd:=if ks.any (yc aj.length) then (-1,aj) else (((aj.length:Nat):Int),aj++[⟨kind,-1,ks⟩])
theorem XY (R:List Nat)(B bb:Nat)(tv:Value)(used:Nat)(aj:List Nd)(kind:Int)(v:Value)(ks:List Int)(w:World)(hb:BW R B bb tv used aj w)(hv:eO w v ks)(hR:∀ r∈R,r<w.heap.size)(hn:ks.length<=1099511627776)(hl:aj.length+1<=1099511627776) :
  Calls Tryz.prog 163 #[.pointer (some ⟨bb,0,none⟩),.int .i64 kind,v] w (XR R B bb tv (KJ kind ks aj).1 used (KJ kind ks aj).2 w):=by
 have hB:=hb.kb;have hlt:=hb.lt
 have hBw:B<=w.heap.size:=by omega
 have hal:=(bQ w.heap.size w).alloc (bD _) (.cells #[.pointer (some ⟨bb,0,none⟩)] 205);have hnw:=aX w (.cells #[.pointer (some ⟨bb,0,none⟩)] 205);have hb1:=hb.later hal;have hv1:=hv.kept (Kp.of hal hBw)
 have hg:(w.alloc (.cells #[.pointer (some ⟨bb,0,none⟩)] 205)).cell? ⟨w.heap.size,0,none⟩=some (.pointer (some ⟨bb,0,none⟩)):=by rw[aZ hnw];rfl
 have hc:=Bl R B bb w.heap.size tv used aj v ks _ hb1 hg hv1 hn;have HB:=ay hb1;have HV:=ay hv1
 cases hbad:ks.any (yc aj.length) with
 | true =>
  rw[hbad] at hc
  have hq:KJ kind ks aj=(-1,aj):=by rw[KJ,hbad];rfl
  rw[hq];have HC:=ay hc;clear hc hq hbad hb hv hb1 hv1;go_enter Tryz.func163,Tryz.ntmps163;go_wp2_with (go_at_call 213;refine HC.out.mono ?_;rintro e w1 ⟨rfl,rfl⟩);go_ret;exact⟨rfl,HB.out,Kb.of hal hBw⟩
 | false =>
  rw[hbad] at hc
  have hq:KJ kind ks aj=(((aj.length:Nat):Int),aj++[⟨kind,-1,ks⟩]):=by rw[KJ,hbad];rfl
  rw[hq];have HC:=ay hc;clear hc hq hbad hb hv hb1 hv1;go_enter Tryz.func163,Tryz.ntmps163;go_wp2_with (go_at_call 213;refine HC.out.mono ?_;rintro e w1 ⟨rfl,rfl⟩);generalize w.alloc _=w1 at HB HV HC hg hal hnw |-;have hz1:=hal.size
  go_region_held3 (λw'=>w'.cell? ⟨w.heap.size,0,none⟩=some (.pointer (some ⟨bb,0,none⟩)))
   (first|go_keep|exact hc2|exact hc3)
   (first|(go_at_call 154;refine(EN v ks _ ?_ hn).mono ?_;(exact HV.out);rintro e w2 ⟨v',rfl,hiR,hb2⟩;have hi2:=hiR R (λr hr=>xw (hR r hr) (by have:w.heap.size<=w1.heap.size:=hz1;simpa using this));clear hiR;obtain⟨ao2,cap2,rfl⟩:=hi2.1.slice;have hc2:=jo hb2 (show w1.drew.cell? ⟨w.heap.size,0,none⟩=_ from hg))|(go_at_call 210;refine(Tj R B bb tv used aj kind (-1) _ ks w2 ?_ hi2 hl).mono ?_;(exact(HB.out.later ((bQ _ _).drew)).later hb2);rintro e w3 ⟨rfl,hb3,eP⟩;have hc3:w3.cell? ⟨w.heap.size,0,none⟩=some (.pointer (some ⟨bb,0,none⟩)):=by (have h1:w2.heap[w.heap.size]?=some (.cells #[.pointer (some ⟨bb,0,none⟩)] 205 (0,0)):=(hb2.block w.heap.size (bP hnw).1).trans hnw);rw[aZ (eP.2 _ _ _ _ h1 (by decide) (by decide))];rfl))
  go_wp2;go_ret;exact⟨rfl,hb3,((Kb.of hal hBw).trans (Kb.of (((bQ _ _).drew).trans hb2) (by omega))).trans eP⟩
theorem UR (a b c d:Value)(w:World):(Instr.field 159 (.agg #[a,b,c,d]) 3).run Tryz.prog w=.ok d w:=by kernel_rfl
theorem Jh (a b c d:Value)(w:World):(Instr.field 159 (.agg #[a,b,c,d]) 0).run Tryz.prog w=.ok a w:=by kernel_rfl
theorem PW.builder {used:Nat}{aj:List Nd}(h:PW E st w)(hb:BW E.R E.B E.bb E.tv used aj w')(hk:Kb E.B w w')(hu:used<=E.ah.length):PW E { st with used:=used,aj:=aj } w':=by
 obtain⟨h1,h2,h3,h4,h5⟩:=h;exact⟨hk.2 _ _ _ _ h1 (by decide) (by decide),hb,h3.below hk.1,h4,hu,λr hr=>xw (h5.2 r hr) hk.1.size⟩
def eu (E:bG)(r:Int × aK)(w:World)(e:Ending)(w':World):Prop:=e=.returned (.int .i64 r.1)/\PW E r.2 w'/\Kp E.B w w'
def okB (st:aK):Bool:=decide (st.fE=0)
theorem PW.cells (h:PW E st w) :
  w.cell? ⟨E.pb,0,none⟩=some (.pointer (some ⟨E.bb,0,none⟩))/\w.cell? ⟨E.pb,1,none⟩=some (.int .i64 E.depth)/\w.cell? ⟨E.pb,2,none⟩=some (.bool st.aC)/\w.cell? ⟨E.pb,3,none⟩=some (.int .i64 st.fE)/\w.cell? ⟨E.pb,4,none⟩=some (.int .i64 st.fAt)/\∀ j,w.frozen? ⟨E.pb,j,none⟩=false:=by
 have h1:=h.1
 refine⟨?_,?_,?_,?_,?_,λj=>by simp[World.frozen?,h1]⟩<;>(rw[aZ h1];rfl)
theorem uM (E:bG)(st:aK)(w:World)(h:PW E st w):Calls Tryz.prog 104 #[.pointer (some ⟨E.pb,0,none⟩)] w λe w'=>e=.returned (.bool (okB st))/\w'=w:=by
 obtain⟨_,_,_,c3,_,_⟩:=h.cells
 have hq:okB st=((st.fE:Int) == 0):=by
  unfold okB
  by_cases q:st.fE=0
  ·rw[jV q,q];rfl
  ·rw[dX q];symm;rw[<- vM,beq_iff_eq];omega
 have HQ:=ay hq;clear h hq;go_enter Tryz.func104,Tryz.ntmps104;go_wp2;go_ret;exact⟨bB HQ.out.symm,rfl⟩
theorem PW.fault (h:PW E st w)(c a:Nat):PW E { st with fE:=c,fAt:=a } ((w.setCell ⟨E.pb,3,none⟩ (.int .i64 c)).setCell ⟨E.pb,4,none⟩ (.int .i64 a))/\Kp E.B w ((w.setCell ⟨E.pb,3,none⟩ (.int .i64 c)).setCell ⟨E.pb,4,none⟩ (.int .i64 a)):=by
 obtain⟨h1,h2,h3,h4,h5⟩:=h
 have hkeep:∀ (k:Nat) (cs:Array Value) (T:TypeId) (fr:Nat × Nat),w.heap[k]?=some (.cells cs T fr)->T≠208->((w.setCell ⟨E.pb,3,none⟩ (.int .i64 c)).setCell ⟨E.pb,4,none⟩ (.int .i64 a)).heap[k]?=some (.cells cs T fr):=λk cs T fr h0 q=>by
  have hne:k≠E.pb:=by
   rintro rfl;rw[h1] at h0;simp only[Option.some.injEq,Obj.cells.injEq] at h0;exact q h0.2.1.symm
  rw[qm _ _ _ _ hne,qm _ _ _ _ hne];exact h0
 have hb:Below E.B w ((w.setCell ⟨E.pb,3,none⟩ (.int .i64 c)).setCell ⟨E.pb,4,none⟩ (.int .i64 a)):=((bQ _ _).setCell h4 _).setCell h4 _
 have hk:Kp E.B w ((w.setCell ⟨E.pb,3,none⟩ (.int .i64 c)).setCell ⟨E.pb,4,none⟩ (.int .i64 a)):=⟨hb,λk cs T fr h0 q1 _ _=>hkeep k cs T fr h0 q1⟩
 refine⟨⟨?_,?_,h3.below hb,h4,h5.1,λr hr=>xw (h5.2 r hr) hb.size⟩,hk⟩
 ·rw[jN _ E.pb 4 _ _ _ (jN w E.pb 3 _ _ _ h1)]
  rfl
 ·obtain⟨b1,nv,l,b2,b3,b4,b5⟩:=h2
  refine⟨b1,nv,l,hkeep _ _ _ _ b2 (by decide),b3,?_,λp hp=>(b5 p hp).kept hk⟩;have hne:=own_ne b4 h1 (by decide);exact iO (iO b4 hne _) hne _
theorem XZ (E:bG)(c:Nat)(st:aK)(w:World)(h:PW E st w)(h0:0<E.ah.length)(hn:E.ah.length<=1099511627776) :
  Calls Tryz.prog 156 #[.pointer (some ⟨E.pb,0,none⟩),.int .i64 c] w (eu E (0,iA E.ah c st) w):=by
 have HO:=ay (uM E st w h);have hp:=zZ E.R E.B E.bb E.tv E.ah st.used st.aj w h.2.1 h.2.2.1 h0 h.2.2.2.2.1 hn;have hz:=h.lt
 by_cases hf:st.fE=0
 ·have hq:iA E.ah c st={ st with fE:=c,fAt:=(dx E.ah st.used).place }:=by rw[iA,bR hf]
  rw[hq];generalize dx E.ah st.used=t at hp;obtain⟨k,x,y,q⟩:=t;have ho:okB st=true:=jV hf;rw[ho] at HO;obtain⟨c0,_,_,c3,c4,cz⟩:=h.cells;have HP:=ay hp;have H:=ay h;have tf:=UR;clear hq hp hf ho h;go_enter Tryz.func156,Tryz.ntmps156;go_wp2_with (first|(go_at_call 104;refine HO.out.mono ?_;rintro e w1 ⟨rfl,rfl⟩)|(go_at_call 164;refine HP.out.mono ?_));rintro e w2 ⟨he,hb⟩;rw[KH] at he;subst he;have h2:=H.out.later hb;obtain⟨d0,_,_,d3,d4,dz⟩:=h2.cells;have H2:=ay h2;clear h2;go_wp2;go_ret;obtain⟨f1,f2⟩:=H2.out.fault c q;exact⟨rfl,f1,(Kp.of hb H.out.fA).trans f2⟩
 ·have hq:iA E.ah c st=st:=by rw[iA,aU hf]
  have ho:okB st=false:=dX hf;rw[hq];rw[ho] at HO;have H:=ay h;clear hq hp hf ho h;go_enter Tryz.func156,Tryz.ntmps156;go_wp2_with (first|(go_at_call 104;refine HO.out.mono ?_;rintro e w1 ⟨rfl,rfl⟩));go_ret;exact⟨rfl,H.out,Kp.refl _ _⟩
def mq (w:World)(v:Value)(l:List aH):Prop :=
 ∃ b off cap,v=.slice (some ⟨b,off,none⟩) l.length cap/\b<w.heap.size/\∀ j,(h:j<l.length)->w.cell? ⟨b,off+j,none⟩=some (.string ⟨l[j].toArray⟩)
theorem mq.later {l:List aH}(h:mq w v l)(hb:Below w.heap.size w w'):mq w' v l:=by
 obtain⟨b,off,cap,hv,hlt,hc⟩:=h;exact⟨b,off,cap,hv,by have:=hb.size;omega,λj hj=>(hb.cell (p:=⟨b,off+j,none⟩) hlt).trans (hc j hj)⟩
def UU (l:List aH):List ByteArray:=l.map λx=>⟨x.toArray⟩
theorem KL (l:List aH)(x:aH):Lib.containsS (UU l) ⟨x.toArray⟩=decide (x∈l):=by
 by_cases h:x∈l
 ·rw[jV h]
  exact(Lib.containsS_iff _ _).2 (List.mem_map.2 ⟨x,h,rfl⟩)
 ·rw[dX h,<- vM]
  intro q;obtain⟨y,hy,e⟩:=List.mem_map.1 ((Lib.containsS_iff _ _).1 q)
  have:y=x:=by
   have:=congrArg (λb:ByteArray=>b.data.toList) e
   simpa using this
  exact h (this ▸ hy)
theorem z8 (v:Value)(l:List aH)(x:aH)(w:World)(h:mq w v l)(hn:l.length<=1000) :
  Calls Tryz.prog 209 #[v,.string ⟨x.toArray⟩] w λe w'=>e=.returned (.bool (decide (x∈l)))/\w'=w:=by
 obtain⟨b,off,cap,rfl,_,hc⟩:=h;refine(Tryz.slices_Contains_string b off l.length cap (UU l) ⟨x.toArray⟩ w (by simp[UU]) (by omega) (λj hj=>?_)).mono ?_
 ·have hj':j<l.length:=by simpa [UU] using hj
  rw[hc j hj'];simp[UU,Kr,hj']
 ·rintro e w' ⟨rfl,rfl⟩
  refine⟨bB ?_,rfl⟩;rw[Ba (by simp[UU]),KL]
theorem wu (E:bG)(v:Value)(l:List aH)(st:aK)(w:World)(h:PW E st w)(hv:mq w v l)(h0:0<E.ah.length)(hn:E.ah.length<=1099511627776)(hl:l.length<=1000) :
  Calls Tryz.prog 155 #[.pointer (some ⟨E.pb,0,none⟩),v] w λe w'=>e=.returned (.bool (bF E.ah st l))/\Below w.heap.size w w':=by
 have hp:=zZ E.R E.B E.bb E.tv E.ah st.used st.aj w h.2.1 h.2.2.1 h0 h.2.2.2.2.1 hn;obtain⟨c0,_,_,_,_,_⟩:=h.cells;unfold bF;generalize dx E.ah st.used=t at hp;obtain⟨k,x,y,q⟩:=t;rw[KH] at hp;simp only;have HP:=ay hp;have HV:=ay hv
 have hsl:∃ ao n cap,v=.slice ao n cap:=by obtain⟨b,off,cap,rfl,_⟩:=hv;exact⟨_,_,_,rfl⟩
 obtain⟨ao,n,cap,rfl⟩:=hsl;clear hp hv h
 by_cases k2:k=2
 ·subst k2
  have hq:((2 == 2 || 2 == 4) && decide (y∈l))=decide (y∈l):=by simp
  rw[hq];clear hq;go_enter Tryz.func155,Tryz.ntmps155;go_wp2_with (first|(go_at_call 164;refine HP.out.mono ?_;rintro e w1 ⟨rfl,hb⟩)|(go_at_call 209;refine(z8 _ l y _ ?_ hl).mono ?_))
  ·exact HV.out.later (hb.alloc hb.size _)
  ·rintro e w2 ⟨rfl,rfl⟩
   go_wp2;go_ret;exact⟨rfl,hb.alloc hb.size _⟩
 by_cases k4:k=4
 ·subst k4
  have hq:((4 == 2 || 4 == 4) && decide (y∈l))=decide (y∈l):=by simp
  rw[hq];clear hq;go_enter Tryz.func155,Tryz.ntmps155;go_wp2_with (first|(go_at_call 164;refine HP.out.mono ?_;rintro e w1 ⟨rfl,hb⟩)|(go_at_call 209;refine(z8 _ l y _ ?_ hl).mono ?_))
  ·exact HV.out.later (hb.alloc hb.size _)
  ·rintro e w2 ⟨rfl,rfl⟩
   go_wp2;go_ret;exact⟨rfl,hb.alloc hb.size _⟩
 have hq:((k == 2 || k == 4) && decide (y∈l))=false:=by simp[k2,k4]
 have d2:((k:Int) == 2)=false:=by rw[<- vM,beq_iff_eq];omega
 have d4:((k:Int) == 4)=false:=by rw[<- vM,beq_iff_eq];omega
 rw[hq];clear hq k2 k4;go_enter Tryz.func155,Tryz.ntmps155;go_wp2_with (first|(go_at_call 164;refine HP.out.mono ?_;rintro e w1 ⟨rfl,hb⟩));go_ret;exact⟨rfl,hb.alloc hb.size _⟩
theorem ace (ah:List Tok)(st:aK):aF ah st=((vD ah.length st.used st.aj).1,{ st with used:=(vD ah.length st.used st.aj).2.1,aj:=(vD ah.length st.used st.aj).2.2 }):=by
 unfold aF vD
 split<;>rfl
theorem bT (E:bG)(st:aK)(w:World)(h:PW E st w)(_h0:0<E.ah.length)(hn:E.ah.length<=1099511627776)(hl:st.aj.length+1<=1099511627776) :
  Calls Tryz.prog 157 #[.pointer (some ⟨E.bb,0,none⟩)] w (eu E (aF E.ah st) w):=by
 obtain⟨ao,cap,hv,_,_⟩:=h.2.2.1.form (λ_=>rfl);have hb:=h.2.1;rw[hv] at hb;refine(XV E.R E.B E.bb ao E.ah.length cap st.used st.aj w hb h.2.2.2.2.1 hn hl).mono ?_;rintro e w' ⟨rfl,hb',hk⟩;rw[<- hv] at hb';rw[ace];refine⟨rfl,h.builder hb' hk ?_,hk.kp⟩;have:=h.2.2.2.2.1;unfold vD
 split
 ·exact this
 ·simp only;omega
theorem X3 (n:Nat)(ks:List Int):ks.any (yc n)=ks.any (λk=>decide (k<0) || decide ((n:Int)<=k)):=rfl
theorem adO (kind:Int)(ks:List Int)(st:aK):Ih kind ks st=((KJ kind ks st.aj).1,{ st with aj:=(KJ kind ks st.aj).2 }):=by
 unfold Ih KJ;rw[X3]
 split<;>rfl
theorem X4 (E:bG)(kind:Int)(v:Value)(ks:List Int)(st:aK)(w:World)(h:PW E st w)(hv:eO w v ks)(hk:ks.length<=1099511627776)(hl:st.aj.length+1<=1099511627776) :
  Calls Tryz.prog 163 #[.pointer (some ⟨E.bb,0,none⟩),.int .i64 kind,v] w (eu E (Ih kind ks st) w):=by
 refine(XY E.R E.B E.bb E.tv st.used st.aj kind v ks w h.2.1 hv h.2.2.2.2.2 hk hl).mono ?_;rintro e w' ⟨rfl,hb',hk⟩;rw[adO];exact⟨rfl,h.builder hb' hk h.2.2.2.2.1,hk.kp⟩
theorem lI (E:bG)(kind:Int)(v:Value)(ks:List Int)(st:aK)(w:World)(h:PW E st w)(hv:eO w v ks)(hk:ks.length<=1099511627776)(hl:st.aj.length+1<=1099511627776) :
  Calls Tryz.prog 109 #[.pointer (some ⟨E.pb,0,none⟩),.int .i64 kind,v] w (eu E (bL kind ks st) w):=by
 have HO:=ay (uM E st w h);have HN:=ay (X4 E kind v ks st w h hv hk hl);obtain⟨c0,_,_,_,_,_⟩:=h.cells;have H:=ay h
 by_cases hf:st.fE=0
 ·have hq:bL kind ks st=Ih kind ks st:=by rw[bL,bR hf]
  rw[hq];rw[show okB st=true from jV hf] at HO;clear hq hf h hv;go_enter Tryz.func109,Tryz.ntmps109;go_wp2_with (first|(go_at_call 104;refine HO.out.mono ?_;rintro e w1 ⟨rfl,rfl⟩)|(go_at_call 163;refine HN.out.mono ?_));rintro e w2 ⟨rfl,hp,hk2⟩;go_wp2;go_ret;exact⟨rfl,hp,hk2⟩
 ·have hq:bL kind ks st=(0,st):=by rw[bL,aU hf]
  rw[hq];rw[show okB st=false from dX hf] at HO;clear hq hf h hv;go_enter Tryz.func109,Tryz.ntmps109;go_wp2_with (first|(go_at_call 104;refine HO.out.mono ?_;rintro e w1 ⟨rfl,rfl⟩));go_ret;exact⟨rfl,H.out,Kp.refl _ _⟩
def bG.ok (E:bG):Prop:=0<E.ah.length/\E.ah.length<=1099511627776/\E.depth<=1000
theorem mQ (E:bG)(hE:E.ok)(c:Nat)(st:aK)(w:World)(h:PW E st w) :
  Calls Tryz.prog 156 #[.pointer (some ⟨E.pb,0,none⟩),.int .i64 c] w (eu E (0,iA E.ah c st) w):=XZ E c st w h hE.1 hE.2.1
theorem MV (E:bG)(hE:E.ok)(v:Value)(l:List aH)(st:aK)(w:World)(h:PW E st w)(hv:mq w v l)(hl:l.length<=1000)(hn:st.aj.length+1<=1099511627776) :
  Calls Tryz.prog 158 #[.pointer (some ⟨E.pb,0,none⟩),v] w (eu E (aJ E.ah l st) w):=by
 have HO:=ay (uM E st w h);have HX:=ay (wu E v l st w h hv hE.1 hE.2.1 hl);have HF:=ay (λw=>mQ E hE 22 st w);have H:=ay h
 have hsl:∃ ao n cap,v=.slice ao n cap:=by obtain⟨b,off,cap,rfl,_⟩:=hv;exact⟨_,_,_,rfl⟩
 obtain⟨ao,n,cap,rfl⟩:=hsl;clear h hv
 by_cases hf:st.fE=0
 ·rw[show okB st=true from jV hf] at HO
  cases hx:bF E.ah st l with
  | true =>
   rw[hx] at HX
   have hq:aJ E.ah l st=aF E.ah st:=by rw[aJ,bR ⟨hf,hx⟩]
   rw[hq];clear hq hf hx;go_enter Tryz.func158,Tryz.ntmps158;go_wp2_with (first|(go_at_call 104;refine HO.out.mono ?_;rintro e w1 ⟨rfl,rfl⟩)|(go_at_call 155;refine HX.out.mono ?_));rintro e w2 ⟨rfl,hb⟩;have h2:=H.out.later hb;obtain⟨c0,_,_,_,_,_⟩:=h2.cells;have HL:=ay (bT E st w2 h2 hE.1 hE.2.1 hn);clear h2;go_wp2_with (first|(go_at_call 157;refine HL.out.mono ?_));rintro e w3 ⟨rfl,hp,hk⟩;go_wp2;go_ret;exact⟨rfl,hp,(Kp.of hb H.out.fA).trans hk⟩
  | false =>
   rw[hx] at HX
   have hq:aJ E.ah l st=(0,iA E.ah 22 st):=by rw[aJ,aU (λq=>by rw[hx] at q;cases q.2)]
   rw[hq];clear hq hf hx;go_enter Tryz.func158,Tryz.ntmps158;go_wp2_with (first|(go_at_call 104;refine HO.out.mono ?_;rintro e w1 ⟨rfl,rfl⟩)|(go_at_call 155;refine HX.out.mono ?_;rintro e w2 ⟨rfl,hb⟩)|(go_at_call 156;refine(HF.out _ (H.out.later hb)).mono ?_));rintro e w3 ⟨rfl,hp,hk⟩;go_wp2;go_ret;exact⟨rfl,hp,(Kp.of hb H.out.fA).trans hk⟩
 ·rw[show okB st=false from dX hf] at HO
  have hq:aJ E.ah l st=(0,iA E.ah 22 st):=by rw[aJ,aU (λq=>hf q.1)]
  rw[hq];clear hq hf;go_enter Tryz.func158,Tryz.ntmps158;go_wp2_with (first|(go_at_call 104;refine HO.out.mono ?_;rintro e w1 ⟨rfl,rfl⟩)|(go_at_call 156;refine(HF.out _ H.out).mono ?_));rintro e w3 ⟨rfl,hp,hk⟩;go_wp2;go_ret;exact⟨rfl,hp,hk⟩
theorem tF (E:bG)(hE:E.ok)(k:Nat)(st:aK)(w:World)(h:PW E st w)(hn:st.aj.length+1<=1099511627776) :
  Calls Tryz.prog 110 #[.pointer (some ⟨E.pb,0,none⟩),.int .i64 k] w (eu E (bC E.ah k st) w):=by
 have HO:=ay (uM E st w h);have hp:=zZ E.R E.B E.bb E.tv E.ah st.used st.aj w h.2.1 h.2.2.1 hE.1 h.2.2.2.2.1 hE.2.1;have HF:=ay (λw=>mQ E hE 22 st w);have H:=ay h;have tf:=Jh;obtain⟨c0,_,_,_,_,_⟩:=h.cells;clear h;unfold bC;generalize dx E.ah st.used=t at hp;obtain⟨kt,x,y,q⟩:=t;rw[KH] at hp;simp only;have HP:=ay hp;clear hp
 by_cases hf:st.fE=0
 ·rw[show okB st=true from jV hf] at HO
  by_cases hk:kt=k
  ·have t1:((kt:Int) != (k:Int))=false:=by rw[hk];simp
   rw[bR ⟨hf,hk⟩];clear hf hk;go_enter Tryz.func110,Tryz.ntmps110;go_wp2_with (first|(go_at_call 104;refine HO.out.mono ?_;rintro e w1 ⟨rfl,rfl⟩)|(go_at_call 164;refine HP.out.mono ?_));rintro e w2 ⟨rfl,hb⟩;have h2:=H.out.later hb;obtain⟨d0,_,_,_,_,_⟩:=h2.cells;have HL:=ay (bT E st w2 h2 hE.1 hE.2.1 hn);clear h2;go_wp2_with (first|(go_at_call 157;refine HL.out.mono ?_));rintro e w3 ⟨rfl,hp,hk⟩;go_wp2;go_ret;exact⟨rfl,hp,(Kp.of hb H.out.fA).trans hk⟩
  ·have t1:((kt:Int) != (k:Int))=true:=by rw[bne_iff_ne];omega
   rw[aU (λq=>hk q.2)];clear hf hk;go_enter Tryz.func110,Tryz.ntmps110;go_wp2_with (first|(go_at_call 104;refine HO.out.mono ?_;rintro e w1 ⟨rfl,rfl⟩)|(go_at_call 164;refine HP.out.mono ?_;rintro e w2 ⟨rfl,hb⟩)|(go_at_call 156;refine(HF.out _ (H.out.later hb)).mono ?_));rintro e w3 ⟨rfl,hp,hk⟩;go_wp2;go_ret;exact⟨rfl,hp,(Kp.of hb H.out.fA).trans hk⟩
 ·rw[show okB st=false from dX hf] at HO
  rw[aU (λq=>hf q.1)];clear hf;go_enter Tryz.func110,Tryz.ntmps110;go_wp2_with (first|(go_at_call 104;refine HO.out.mono ?_;rintro e w1 ⟨rfl,rfl⟩)|(go_at_call 156;refine(HF.out _ H.out).mono ?_));rintro e w3 ⟨rfl,hp,hk⟩;go_wp2;go_ret;exact⟨rfl,hp,hk⟩
def afH (E:bG)(st:aK)(w:World)(e:Ending)(w':World):Prop:=e=.returned (.bool (!okB st))/\PW E st w'/\Kp E.B w w'
theorem EO (E:bG)(hE:E.ok)(aG:Nat)(st:aK)(w:World)(h:PW E st w) :
  Calls Tryz.prog 211 #[.pointer (some ⟨E.pb,0,none⟩),.int .i64 aG] w (afH E (bg E.ah E.depth aG st) w):=by
 have HF:=ay (λw=>mQ E hE 23 st w);have H:=ay h;obtain⟨_,c1,_,_,_,_⟩:=h.cells
 by_cases hd:E.depth<aG
 ·have d1:decide (E.depth<aG)=true:=jV hd
  have hq:bg E.ah E.depth aG st=iA E.ah 23 st:=by rw[bg,bR hd]
  rw[hq];clear hq hd h;go_enter Tryz.func211,Tryz.ntmps211;go_wp2_with (first|(go_at_call 156;refine(HF.out _ H.out).mono ?_));rintro e w2 ⟨rfl,hp,hk⟩;have HO:=ay (uM E _ w2 hp);go_wp2_with (first|(go_at_call 104;refine HO.out.mono ?_;rintro e w3 ⟨rfl,rfl⟩));go_ret;exact⟨rfl,hp,hk⟩
 ·have d1:decide (E.depth<aG)=false:=dX hd
  have hq:bg E.ah E.depth aG st=st:=by rw[bg,aU hd]
  rw[hq];have HO:=ay (uM E st w h);clear hq hd h;go_enter Tryz.func211,Tryz.ntmps211;go_wp2_with (first|(go_at_call 104;refine HO.out.mono ?_;rintro e w3 ⟨rfl,rfl⟩));go_ret;exact⟨rfl,H.out,Kp.refl _ _⟩
theorem Ed {ah:List Tok}{d d' n:Nat}{st:aK}(hdd:d<=d')(h:(bg ah d n st).fE=0):bg ah d' n st=bg ah d n st:=by
 unfold bg at h |-
 split at h
 ·exact absurd h (nM (by decide) st)
 ·rename_i hn
  rw[aU hn,aU (by omega)]
theorem vE (ah:List Tok)(one one':aK->Option (Int × aK))(h1:∀ s k,one s=some k->dR s k.2)(h2:∀ s k,one s=some k->k.2.fE=0->one' s=some k):∀ (r:Nat) (aB:List Int) (st:aK) (l:List Int × aK),bE ah one r aB st=some l->l.2.fE=0->bE ah one' r aB st=some l
 | 0,aB,st,l,h,_=>h
 | r+1,aB,st,l,h,hl=>by
  rw[bE] at h |-
  split at h
  ·rename_i hf;rw[bR hf];exact h
  ·rename_i hf
   rw[aU hf];obtain⟨k,hk,h⟩:=cZ h
   have hk0:k.2.fE=0:=by
    split at h
    ·exact((aQ ah k.2).trans (nL ah one h1 r _ _ _ h)).zero hl
    ·injection h with h;subst h;exact hl
   rw[h2 _ _ hk hk0,pO]
   split at h
   ·rename_i hc;rw[bR hc];exact vE ah one one' h1 h2 r _ _ _ h hl
   ·rename_i hc;rw[aU hc];exact h
theorem Aa (ah:List Tok)(one one':aK->Option (Int × aK))(h1:∀ s k,one s=some k->dR s k.2)(h2:∀ s k,one s=some k->k.2.fE=0->one' s=some k)(st:aK)(l:List Int × aK)(h:jW ah one st=some l)(hl:l.2.fE=0):jW ah one' st=some l:=by
 unfold jW at h |-
 split at h
 ·rename_i hc;rw[bR hc];exact h
 ·rename_i hc;rw[aU hc];exact vE ah one one' h1 h2 _ _ _ _ h hl
theorem iG (ah:List Tok)(d d':Nat)(hdd:d<=d'):∀ (g:Nat) (t:Task) (st:aK) (r:Int × aK),run ah d g t st=some r->r.2.fE=0->run ah d' g t st=some r
 | 0,_,_,_,h,_=>by rw[run] at h;cases h
 | g+1,.expr aG,st,r,h,hr=>by
  have ih:=iG ah d d' hdd g;have ex:=bA ah d g
  have hd0:(bg ah d aG st).fE=0:=by
   apply SY
   intro q;rw[run,bR q] at h
   injection h with h;subst h
   exact q hr
  rw[run] at h |-;rw[Ed hdd hd0];generalize bg ah d aG st=s at h hd0;rw[aU (by simp[hd0])] at h |-
  split at h
  ·rename_i hc;rw[bR hc];exact ih _ _ _ h hr
  rename_i hc;rw[aU hc]
  split at h
  ·rename_i hc;rw[bR hc]
   obtain⟨x,h1,h⟩:=cZ h;obtain⟨f,h2,h⟩:=cZ h
   injection h with h;subst h
   have z2:=(aM _ _ _).zero hr;have z1:=((aN _ _ _).trans (ex _ _ _ h2)).zero z2;rw[ih _ _ _ h1 z1,pO,ih _ _ _ h2 z2,pO]
  rename_i hc;rw[aU hc]
  split at h
  ·rename_i hc;rw[bR hc]
   obtain⟨x,h1,h⟩:=cZ h;obtain⟨y,h2,h⟩:=cZ h;obtain⟨f,h3,h⟩:=cZ h
   injection h with h;subst h
   have z3:=(aM _ _ _).zero hr;have z2:=((aN _ _ _).trans (ex _ _ _ h3)).zero z3;have z1:=((aN _ _ _).trans (ex _ _ _ h2)).zero z2;rw[ih _ _ _ h1 z1,pO,ih _ _ _ h2 z2,pO,ih _ _ _ h3 z3,pO]
  rename_i hc;rw[aU hc]
  split at h
  ·rename_i hc;rw[bR hc]
   obtain⟨x,h1,h⟩:=cZ h;obtain⟨f,h2,h⟩:=cZ h
   injection h with h;subst h
   have z2:=(aM _ _ _).zero hr;have z1:=((aN _ _ _).trans (ex _ _ _ h2)).zero z2;rw[ih _ _ _ h1 z1,pO,ih _ _ _ h2 z2,pO]
  ·rename_i hc;rw[aU hc];exact ih _ _ _ h hr
 | g+1,.formula aG,st,r,h,hr=>by
  have ih:=iG ah d d' hdd g;have ex:=bA ah d g;rw[run] at h |-;obtain⟨a,h1,h⟩:=cZ h
  split at h
  ·rename_i hn
   have hd0:(bg ah d (aG+1) (aF ah a.2).2).fE=0:=by
    apply SY
    intro q;rw[bR q] at h
    injection h with h;subst h
    exact q hr
   rw[aU (by simp[hd0])] at h;obtain⟨b,h2,h⟩:=cZ h
   injection h with h;subst h
   have z2:=(aM _ _ _).zero hr;have z1:=((aQ ah a.2).trans (fT _ _ _ _)).zero hd0;rw[ih _ _ _ h1 z1,pO,bR hn,Ed hdd hd0,aU (by simp[hd0]),ih _ _ _ h2 z2,pO]
  ·rename_i hn
   injection h with h;subst h
   rw[ih _ _ _ h1 hr,pO,aU hn]
 | g+1,.part l aG,st,r,h,hr=>by
  have ih:=iG ah d d' hdd g;rw[run] at h |-
  split at h
  ·rename_i hc;rw[bR hc];exact ih _ _ _ h hr
  ·rename_i hc;rw[aU hc]
   split at h
   ·rename_i hc;rw[bR hc];exact ih _ _ _ h hr
   ·rename_i hc;rw[aU hc];exact ih _ _ _ h hr
 | g+1,.row l aG,st,r,h,hr=>by
  have ih:=iG ah d d' hdd g;have ex:=bA ah d g;rw[run] at h |-;obtain⟨a,h1,h⟩:=cZ h;rw[ih _ _ _ h1 ((ex _ _ _ h).zero hr),pO];exact ih _ _ _ h hr
 | g+1,.loop l aG a,st,r,h,hr=>by
  have ih:=iG ah d d' hdd g;have ex:=bA ah d g;rw[run] at h |-
  split at h
  ·rename_i hn
   rw[bR hn];obtain⟨b,h1,h⟩:=cZ h
   have z:(bL 10 [a,(aF ah st).1,b.1] b.2).2.fE=0:=by
    split at h
    ·injection h with h;subst h;exact hr
    ·exact(ex _ _ _ h).zero hr
   rw[ih _ _ _ h1 ((aM _ _ _).zero z),pO]
   split at h
   ·rename_i hc;rw[bR hc];exact h
   ·rename_i hc;rw[aU hc];exact ih _ _ _ h hr
  ·rename_i hn
   rw[aU hn];exact h
 | g+1,.neg aG,st,r,h,hr=>by
  have ih:=iG ah d d' hdd g;rw[run] at h |-
  split at h
  ·rename_i hn
   rw[bR hn]
   have hd0:(bg ah d (aG+1) (aF ah st).2).fE=0:=by
    apply SY
    intro q;rw[bR q] at h
    injection h with h;subst h
    exact q hr
   rw[aU (by simp[hd0])] at h;obtain⟨b,h2,h⟩:=cZ h
   injection h with h;subst h
   rw[Ed hdd hd0,aU (by simp[hd0]),ih _ _ _ h2 ((aM _ _ _).zero hr),pO]
  ·rename_i hn
   rw[aU hn];exact ih _ _ _ h hr
 | g+1,.factor aG,st,r,h,hr=>by
  have ih:=iG ah d d' hdd g;rw[run] at h |-
  split at h
  ·rename_i hn
   rw[bR hn]
   have hd0:(bg ah d (aG+1) (aF ah st).2).fE=0:=by
    apply SY
    intro q;rw[bR q] at h
    injection h with h;subst h
    exact q hr
   rw[aU (by simp[hd0])] at h;obtain⟨b,h2,h⟩:=cZ h
   injection h with h;subst h
   rw[Ed hdd hd0,aU (by simp[hd0]),ih _ _ _ h2 ((aM _ _ _).zero hr),pO]
  ·rename_i hn
   rw[aU hn];exact ih _ _ _ h hr
 | g+1,.atom aG,st,r,h,hr=>by
  have ih:=iG ah d d' hdd g;rw[run] at h |-
  split at h
  ·rename_i hc;rw[bR hc];exact h
  rename_i hc;rw[aU hc]
  split at h
  ·rename_i hc;rw[bR hc];exact h
  rename_i hc;rw[aU hc]
  split at h
  ·rename_i hc;rw[bR hc];exact h
  rename_i hc;rw[aU hc]
  split at h
  ·rename_i hc;rw[bR hc];exact h
  rename_i hc;rw[aU hc]
  split at h
  ·rename_i hc;rw[bR hc]
   obtain⟨b,h1,h⟩:=cZ h
   injection h with h;subst h
   rw[ih _ _ _ h1 (((aN _ _ _).trans (aM _ _ _)).zero hr),pO]
  rename_i hc;rw[aU hc]
  split at h
  ·rename_i hc;rw[bR hc];exact ih _ _ _ h hr
  ·rename_i hc;rw[aU hc];exact h
 | g+1,.name aG,st,r,h,hr=>by
  have ih:=iG ah d d' hdd g;have ex:=bA ah d g;rw[run] at h |-
  split at h
  ·rename_i hc;rw[bR hc];exact h
  ·rename_i hc;rw[aU hc]
   obtain⟨l,h1,h⟩:=cZ h
   injection h with h;subst h
   rw[Aa ah _ (λs=>run ah d' g (.expr (aG+1)) s) (λs k hk=>ex _ _ _ hk) (λs k hk hz=>ih _ _ _ hk hz) _ _ h1 (((aN _ _ _).trans (aM _ _ _)).zero hr),pO]
theorem aA (w:World)(o:Obj):Below w.heap.size w (w.alloc o):=(bQ _ _).alloc (bD _) o
def tH (E:bG)(st:aK)(b:Bool)(w:World)(e:Ending)(w':World):Prop:=e=.returned (.bool b)/\PW E st w'/\Kp E.B w w'
theorem MW (w:World)(b:ByteArray):mq (w.alloc (.cells #[.string b] 9)) (.slice (some ⟨w.heap.size,0,none⟩) 1 1) [b.data.toList]:=by
 refine⟨w.heap.size,0,1,rfl,by simp,λj hj=>?_⟩
 obtain rfl:j=0:=by simpa using hj
 rw[aZ (aX _ _)]
 have:ByteArray.mk b.data.toList.toArray=b:=by cases b;simp
 simp[this]
theorem MX (w:World)(b c:ByteArray):mq (w.alloc (.cells #[.string b,.string c] 9)) (.slice (some ⟨w.heap.size,0,none⟩) 2 2) [b.data.toList,c.data.toList]:=by
 refine⟨w.heap.size,0,2,rfl,by simp,λj hj=>?_⟩
 have h1:ByteArray.mk b.data.toList.toArray=b:=by cases b;simp
 have h2:ByteArray.mk c.data.toList.toArray=c:=by cases c;simp
 rw[aZ (aX _ _)]
 match j,hj with
 | 0,_=>simp[h1]
 | 1,_=>simp[h2]
theorem wB (E:bG)(hE:E.ok)(b:ByteArray)(st:aK)(w:World)(h:PW E st w) :
  Calls Tryz.prog 155 #[.pointer (some ⟨E.pb,0,none⟩),.slice (some ⟨w.heap.size,0,none⟩) 1 1] (w.alloc (.cells #[.string b] 9)) (tH E st (bF E.ah st [b.data.toList]) w):=by
 have hA:=h.later (aA w (.cells #[.string b] 9));refine(wu E _ _ st _ hA (MW w b) hE.1 hE.2.1 (by simp)).mono ?_;rintro e w' ⟨rfl,hb⟩;exact⟨rfl,hA.later hb,(Kp.of (aA w _) h.fA).trans (Kp.of hb hA.fA)⟩
theorem X5 (E:bG)(hE:E.ok)(b c:ByteArray)(st:aK)(w:World)(h:PW E st w) :
  Calls Tryz.prog 155 #[.pointer (some ⟨E.pb,0,none⟩),.slice (some ⟨w.heap.size,0,none⟩) 2 2] (w.alloc (.cells #[.string b,.string c] 9)) (tH E st (bF E.ah st [b.data.toList,c.data.toList]) w):=by
 have hA:=h.later (aA w (.cells #[.string b,.string c] 9));refine(wu E _ _ st _ hA (MX w b c) hE.1 hE.2.1 (by simp)).mono ?_;rintro e w' ⟨rfl,hb⟩;exact⟨rfl,hA.later hb,(Kp.of (aA w _) h.fA).trans (Kp.of hb hA.fA)⟩
theorem eD (E:bG)(hE:E.ok)(b:ByteArray)(st:aK)(w:World)(h:PW E st w)(hn:st.aj.length+1<=1099511627776) :
  Calls Tryz.prog 158 #[.pointer (some ⟨E.pb,0,none⟩),.slice (some ⟨w.heap.size,0,none⟩) 1 1] (w.alloc (.cells #[.string b] 9)) (eu E (aJ E.ah [b.data.toList] st) w):=by
 have hA:=h.later (aA w (.cells #[.string b] 9));refine(MV E hE _ _ st _ hA (MW w b) (by simp) hn).mono ?_;rintro e w' ⟨rfl,hp,hk⟩;exact⟨rfl,hp,(Kp.of (aA w _) h.fA).trans hk⟩
theorem EP (w:World)(ks:List Int):eO (w.alloc (.cells (ks.map (Value.int .i64)).toArray 3)) (.slice (some ⟨w.heap.size,0,none⟩) ks.length ks.length) ks:=by
 refine⟨some ⟨w.heap.size,0,none⟩,ks.length,rfl,bD _,λ_=>⟨w.heap.size,0,_,_,rfl,aX _ _,λj hj=>?_⟩⟩;simp[hj]
theorem jf (E:bG)(kind:Int)(ks:List Int)(n:Nat)(cs:Array Value)(st:aK)(w:World)(h:PW E st w)(hn:ks.length=n)(hc:(ks.map (Value.int .i64)).toArray=cs)(hk:n<=1000)(hl:st.aj.length+1<=1099511627776) :
  Calls Tryz.prog 109 #[.pointer (some ⟨E.pb,0,none⟩),.int .i64 kind,.slice (some ⟨w.heap.size,0,none⟩) n n] (w.alloc (.cells cs 3)) (eu E (bL kind ks st) w):=by
 subst hn hc;have hA:=h.later (aA w (.cells (ks.map (Value.int .i64)).toArray 3));refine(lI E kind _ ks st _ hA (EP w ks) (by omega) hl).mono ?_;rintro e w' ⟨rfl,hp,hk⟩;exact⟨rfl,hp,(Kp.of (aA w _) h.fA).trans hk⟩
def oI (E:bG)(r:Int × aK)(w:World):Task->Prop
 | .expr aG=>Calls Tryz.prog 162 #[.pointer (some ⟨E.pb,0,none⟩),.int .i64 aG] w (eu E r w)
 | .formula aG=>Calls Tryz.prog 212 #[.pointer (some ⟨E.pb,0,none⟩),.int .i64 aG] w (eu E r w)
 | .part l aG=>Calls Tryz.prog 293 #[.pointer (some ⟨E.pb,0,none⟩),.int .i64 l,.int .i64 aG] w (eu E r w)
 | .row l aG=>Calls Tryz.prog 265 #[.pointer (some ⟨E.pb,0,none⟩),.int .i64 l,.int .i64 aG] w (eu E r w)
 | .neg aG=>Calls Tryz.prog 303 #[.pointer (some ⟨E.pb,0,none⟩),.int .i64 aG] w (eu E r w)
 | .factor aG=>Calls Tryz.prog 304 #[.pointer (some ⟨E.pb,0,none⟩),.int .i64 aG] w (eu E r w)
 | .atom aG=>Calls Tryz.prog 311 #[.pointer (some ⟨E.pb,0,none⟩),.int .i64 aG] w (eu E r w)
 | .name aG=>Calls Tryz.prog 316 #[.pointer (some ⟨E.pb,0,none⟩),.int .i64 aG] w (eu E r w)
 | .loop _ _ _=>True
def yS (E:bG):Task->Prop
 | .expr aG=>aG<=E.depth+1
 | .formula aG=>aG<=E.depth
 | .part l aG=>l<=4/\aG<=E.depth
 | .row l aG=>l<=4/\aG<=E.depth
 | .neg aG=>aG<=E.depth
 | .factor aG=>aG<=E.depth
 | .atom aG=>aG<=E.depth
 | .name aG=>aG<=E.depth
 | .loop l aG _=>l<=4/\aG<=E.depth
def DC (E:bG)(g:Nat):Prop:=∀ (t:Task) (st:aK) (r:Int × aK) (w:World),run E.ah E.depth g t st=some r->PW E st w->r.2.aj.length+1<=1099511627776->yS E t->oI E r w t
open Go
theorem UW (a:aH)(s:ByteArray):(a == s.toList)=decide (a=s.data.toList):=by
 rw[Go.ByteArray.toList_eq]
 by_cases h:a=s.data.toList
 ·rw[jV h,beq_iff_eq];exact h
 ·rw[dX h,<- vM,beq_iff_eq];exact h
theorem X6 (k:Nat):((k:Int) == 1)=decide (k=1):=by
 by_cases h:k=1
 ·subst h;rfl
 ·rw[dX h];exact Ea.2 (by omega)
theorem Qs {s:aH}{l:List Tok}(h:dQ s=.ok l)(hl:l.length≠2):dw s=false:=by
 unfold dw;rw[h]
 match l,hl with
 | [],_=>rfl
 | [_],_=>rfl
 | [_,_],h=>exact absurd rfl h
 | _ :: _ :: _ :: _,_=>rfl
theorem mD (s:ByteArray)(w:World)(hs:s.size<=1099511627776) :
  Calls Tryz.prog 77 #[.string s] w λe w'=>e=.returned (.bool (dw s.data.toList))/\Below w.heap.size w w':=by
 have hL:=Kz s w hs;unfold Te at hL
 cases hl:dQ s.data.toList with
 | error x =>
  rw[hl] at hL
  have hp:dw s.data.toList=false:=by unfold dw;rw[hl]
  have h0:((x.1:Int) == 0)=false:=Ea.2 (by have:=(uH hl).2;omega);rw[hp];have HL:=ay hL;clear hl hp hL;go_enter Tryz.func77,Tryz.ntmps77;go_wp2_with (go_at_call 102;refine HL.out.mono ?_;rintro e w1 ⟨hb1,rfl⟩);go_ret;exact⟨rfl,hb1.trans ((aA w1 _).mono hb1.size)⟩
 | ok l =>
  rw[hl] at hL
  by_cases h2:l.length=2
  ·match l,h2 with
   | [t,u],_ =>
    have hp:dw s.data.toList=(decide (t.kind=1) && decide (t.text=s.data.toList)):=by unfold dw;rw[hl]
    rw[hp];have HL:=ay hL;clear hl hp hL;have hk1:=X6 t.kind;have hs1:=UW t.text s;generalize decide (t.kind=1)=kb at hk1 |-;generalize decide (t.text=s.data.toList)=tb at hs1 |-;go_enter Tryz.func77,Tryz.ntmps77
    go_upto_region 2 with (go_at_call 102;refine HL.out.mono ?_;rintro e w1 ⟨hb1,v,rfl,hv⟩;obtain⟨ao,cap,rfl,hcap,hf⟩:=hv.form (λ_=>rfl);obtain⟨b,off,rfl,hb,hcell⟩:=hf (by simp);have hal:=aA w1 (.cells #[.int .i64 0,.int .i64 0] 31);have x0:=(hal.cell (p:=⟨b,off,none⟩) hb).trans (by simpa using hcell 0 0 _ (by simp) rfl);have x2:=(hal.cell (p:=⟨b,off+2,none⟩) hb).trans (by simpa using hcell 0 2 _ (by simp) rfl))
    clear hcell hf hv
    cases kb<;>cases tb<;>(go_wp2;go_ret;exact⟨rfl,hb1.trans (hal.mono hb1.size)⟩)
  ·have hp:=Qs hl h2
   have h2I:((l.length:Int) == 2)=false:=Ea.2 (by omega);rw[hp];have HL:=ay hL;clear hl hp hL h2;go_enter Tryz.func77,Tryz.ntmps77;go_wp2_with (go_at_call 102;refine HL.out.mono ?_;rintro e w1 ⟨hb1,v,rfl,hv⟩;obtain⟨ao,cap,rfl,hcap,hf⟩:=hv.form (λ_=>rfl);clear hf hv);go_ret;exact⟨rfl,hb1.trans ((aA w1 _).mono hb1.size)⟩
variable{B u sz:Nat}{aj:List Nd}{ah:List Tok}{tv nv:Value}{P:Nat->Prop}{cs:List Value}
def Ji (p:Nd × Value):List Value:=[.int .i64 p.1.kind,.int .i64 p.1.tok,p.2]
def Ints (B:Nat)(w:World)(v:Value)(ks:List Int):Prop:=Sl B w v 1 ks.length (ks.map (Value.int .i64))
def bJ (B:Nat)(w:World)(v:Value)(ah:List Tok)(aj:List Nd):Prop :=
 ∃ (tv nv:Value) (l:List (Nd × Value)),v=.agg #[tv,nv]/\Rec B w tv 4 dP ah/\l.map Prod.fst=aj/\Rec B w nv 3 Ji l/\∀ p∈l,Ints B w p.2 p.1.aB
theorem Ints.below {B:Nat}{w w':World}{v:Value}{ks:List Int}(h:Ints B w v ks)(hb:Below B w w'):Ints B w' v ks:=Sl.below h hb
theorem Ints.mono {B B':Nat}{w:World}{v:Value}{ks:List Int}(h:Ints B w v ks)(hB:B<=B'):Ints B' w v ks:=Sl.mono h hB
theorem bJ.below {B:Nat}{w w':World}{v:Value}{ah:List Tok}{aj:List Nd}(h:bJ B w v ah aj)(hb:Below B w w'):bJ B w' v ah aj:=by
 obtain⟨tv,nv,l,h1,h2,h3,h4,h5⟩:=h;exact⟨tv,nv,l,h1,h2.below hb,h3,h4.below hb,λp hp=>(h5 p hp).below hb⟩
theorem Ints.form {ks:List Int}(h:Ints B w v ks):∃ ao cap,v=.slice ao ks.length cap/\ks.length<=cap /\
  (0<ks.length->∃ b off,ao=some ⟨b,off,none⟩/\b<B/\∀ j,(hj:j<ks.length)->w.cell? ⟨b,off+j,none⟩=some (.int .i64 ks[j])):=by
 obtain⟨ao,cap,hv,hn,hl,hc⟩:=h;refine⟨ao,cap,hv,hn,λh0=>?_⟩;obtain⟨b,off,ha,hB,hcell⟩:=hc h0;exact⟨b,off,ha,hB,λj hj=>by rw[hcell j (by simpa using hj)];simp⟩
def lW (B:Nat)(w:World)(v:Value)(ah:List Tok)(aj:List Nd):Prop :=
 ∃ (tv nv:Value) (xs:List (Tok × Int × Int)) (l:List (Nd × Value)),v=.agg #[tv,nv]/\xs.map Prod.fst=ah/\(∀ x∈xs,x.2.1=5↔x.1.kind=5)/\Rec B w tv 4 xA xs/\l.map Prod.fst=aj/\Rec B w nv 3 Ji l/\∀ p∈l,Ints B w p.2 p.1.aB
theorem lW.below {B:Nat}{w w':World}{v:Value}{ah:List Tok}{aj:List Nd}(h:lW B w v ah aj)(hb:Below B w w'):lW B w' v ah aj:=by
 obtain⟨tv,nv,xs,l,h1,h2,h3,h4,h5,h6,h7⟩:=h;exact⟨tv,nv,xs,l,h1,h2,h3,h4.below hb,h5,h6.below hb,λp hp=>(h7 p hp).below hb⟩
theorem lW.mono {B B':Nat}{w:World}{v:Value}{ah:List Tok}{aj:List Nd}(h:lW B w v ah aj)(hB:B<=B'):lW B' w v ah aj:=by
 obtain⟨tv,nv,xs,l,h1,h2,h3,h4,h5,h6,h7⟩:=h;exact⟨tv,nv,xs,l,h1,h2,h3,h4.mono hB,h5,h6.mono hB,λp hp=>(h7 p hp).mono hB⟩
theorem bJ.x {B:Nat}{w:World}{v:Value}{ah:List Tok}{aj:List Nd}(h:bJ B w v ah aj):lW B w v ah aj:=by
 obtain⟨tv,nv,l,h1,h2,h3,h4,h5⟩:=h;refine⟨tv,nv,ah.map λt=>(t,(t.kind:Int),(t.place:Int)),l,h1,by rw[List.map_map];exact List.map_id _,λx hx=>?_,afz h2,h3,h4,h5⟩;obtain⟨t,-,rfl⟩:=List.mem_map.1 hx;simp only;omega
theorem lW.node (h:lW B w (.agg #[tv,nv]) ah aj){i:Nat}(hi:i<aj.length) :
  ∃ b off cap kv,nv=.slice (some ⟨b,off,none⟩) aj.length cap/\b<B/\w.cell? ⟨b,off+i * 3,none⟩=some (.int .i64 aj[i].kind)/\w.cell? ⟨b,off+i * 3+1,none⟩=some (.int .i64 aj[i].tok)/\w.cell? ⟨b,off+i * 3+2,none⟩=some kv/\Ints B w kv aj[i].aB:=by
 obtain⟨tv',nv',xs,l,h1,-,-,-,h3,h4,h5⟩:=h;simp only[Value.agg.injEq] at h1
 obtain⟨rfl,rfl⟩:tv=tv'/\nv=nv':=by simpa using h1
 subst h3;rw[oC] at hi |-;obtain⟨ao,cap,rfl,_,hf⟩:=h4.form (λ_=>rfl);obtain⟨b,off,rfl,hb,hc⟩:=hf (by omega);refine⟨b,off,cap,l[i].2,rfl,hb,?_,?_,?_,?_⟩
 ·rw[show off+i * 3=off+i * 3+0 by rfl,hc i 0 (.int .i64 l[i].1.kind) hi rfl];simp
 ·rw[hc i 1 (.int .i64 l[i].1.tok) hi rfl];simp
 ·rw[hc i 2 l[i].2 hi rfl]
 ·rw[List.getElem_map];exact h5 _ (nH hi)
theorem lW.slices (h:lW B w v ah aj) :
  ∃ at_ ct an cn,v=.agg #[.slice at_ ah.length ct,.slice an aj.length cn]:=by
 obtain⟨tv,nv,xs,l,h1,h0,-,h2,h3,h4,h5⟩:=h;obtain⟨a1,c1,rfl,_,_⟩:=h2.form (λ_=>rfl);obtain⟨a2,c2,rfl,_,_⟩:=h4.form (λ_=>rfl);subst h3 h0;rw[oC,oC];exact⟨a1,c1,a2,c2,h1⟩
theorem lW.tok (h:lW B w (.agg #[tv,nv]) ah aj)(hu:u<ah.length) :
  ∃ b off cap,∃ c q:Int,tv=.slice (some ⟨b,off,none⟩) ah.length cap/\b<B/\(c=5↔ah[u].kind=5)/\w.cell? ⟨b,off+u * 4,none⟩=some (.int .i64 c)/\w.cell? ⟨b,off+u * 4+1,none⟩=some (.string ⟨ah[u].lead.toArray⟩)/\w.cell? ⟨b,off+u * 4+2,none⟩=some (.string ⟨ah[u].text.toArray⟩)/\w.cell? ⟨b,off+u * 4+3,none⟩=some (.int .i64 q):=by
 obtain⟨tv',nv',xs,l,h1,h2,h3,h4,-⟩:=h;simp only[Value.agg.injEq] at h1
 obtain⟨rfl,rfl⟩:tv=tv'/\nv=nv':=by simpa using h1
 subst h2;rw[oC] at hu |-;obtain⟨ao,cap,rfl,_,hf⟩:=h4.form (λ_=>rfl);obtain⟨b,off,rfl,hb,hc⟩:=hf (by omega);rw[List.getElem_map];exact⟨b,off,cap,xs[u].2.1,xs[u].2.2,rfl,hb,h3 _ (nH hu),hc u 0 _ hu rfl,hc u 1 _ hu rfl,hc u 2 _ hu rfl,hc u 3 _ hu rfl⟩
theorem bJ.node {B:Nat}{w:World}{tv nv:Value}{ah:List Tok}{aj:List Nd}(h:bJ B w (.agg #[tv,nv]) ah aj){i:Nat}(hi:i<aj.length) :
  ∃ b off cap kv,nv=.slice (some ⟨b,off,none⟩) aj.length cap/\b<B/\w.cell? ⟨b,off+i * 3,none⟩=some (.int .i64 aj[i].kind)/\w.cell? ⟨b,off+i * 3+1,none⟩=some (.int .i64 aj[i].tok)/\w.cell? ⟨b,off+i * 3+2,none⟩=some kv/\Ints B w kv aj[i].aB:=h.x.node hi
theorem bJ.slices {B:Nat}{w:World}{v:Value}{ah:List Tok}{aj:List Nd}(h:bJ B w v ah aj) :
  ∃ at_ ct an cn,v=.agg #[.slice at_ ah.length ct,.slice an aj.length cn]:=h.x.slices
theorem ER (i g:Nat)(k:Int)(w:World)(hg:w.cell? ⟨g,0,none⟩=some (.int .i64 i)) :
  Calls Tryz.prog 295 #[.int .i64 k,.pointer (some ⟨g,0,none⟩)] w λe w'=>e=.returned (.bool (decide (k<0) || decide ((i:Int)<=k)))/\w'=w:=by
 by_cases hk:k<0
 ·have d1:decide (k<0)=true:=jV hk
  go_enter Tryz.func295,Tryz.ntmps295;go_wp2
  all_goals (go_ret;refine⟨bB ?_,rfl⟩;simp[*])
 ·have d1:decide (k<0)=false:=dX hk
  go_enter Tryz.func295,Tryz.ntmps295;go_wp2
  all_goals (go_ret;refine⟨bB ?_,rfl⟩;simp[*])
def ES (i:Nat)(k:Int):Bool:=decide (k<0) || decide ((i:Int)<=k)
def afI (p:Bool)(w:World)(e:Ending)(w':World):Prop:=(∃ r:Int,e=.returned (.int .i64 r)/\(0<=r↔p=true)/\-1<=r)/\w'=w
theorem DF (i g B:Nat)(v:Value)(ks:List Int)(w:World)(hg:w.cell? ⟨g,0,none⟩=some (.int .i64 i))(hv:Ints B w v ks)(hn:ks.length<=1099511627776) :
  Calls Tryz.prog 266 #[v,.func (.func 295) #[] #[.pointer (some ⟨g,0,none⟩)]] w (afI (ks.any (ES i)) w):=by
 obtain⟨ao,cap,rfl,_,hf⟩:=hv.form;have HT:=ay (λk=>ER i g k w hg);have HF:=ay hf;clear hf hv hg;go_enter Tryz.func266,Tryz.ntmps266;go_wp2
 go_loop [8] (λq=>∃ k:Nat,k<=ks.length/\q=.int .i64 k/\∀ j,(hj:j<ks.length)->j<k->ES i ks[j]=false) (λq=>ks.length - (intOf q).toNat)
 case atStart=>exact⟨0,kJ _,rfl,λj _ h=>absurd h (by omega)⟩
 case round =>
  obtain⟨k,hk,rfl,hj⟩:=hrel
  by_cases hlt:k<ks.length
  ·obtain⟨b,off,rfl,_,hc⟩:=HF.out (by omega)
   have hx:=hc k hlt
   have hI:(k:Int)<(ks.length:Int):=by omega
   have hT:=HT.out ks[k]
   cases ht:ES i ks[k] with
   | true =>
    have hany:ks.any (ES i)=true:=List.any_eq_true.2 ⟨_,nH hlt,ht⟩;unfold ES at ht;rw[ht] at hT;generalize ks[k]=x at hx hT;have H1:=ay hT;have H2:=ay hany;clear hc hj ht hT hany;go_wp2_with (go_at_call 295;refine H1.out.mono ?_;rintro e w1 ⟨rfl,rfl⟩);go_ret;exact⟨⟨k,rfl,⟨λ_=>H2.out,λ_=>by omega⟩,by omega⟩,rfl⟩
   | false =>
    have HJ:Hid (∀ j,(hj:j<ks.length)->j<k+1->ES i ks[j]=false):=ay (λj hjl hjk=>by
     by_cases hkj:j=k
     ·subst hkj;exact ht
     ·exact hj j hjl (by omega))
    unfold ES at ht;rw[ht] at hT;generalize ks[k]=x at hx hT;have H1:=ay hT;clear hc hj ht hT;go_wp2_with (go_at_call 295;refine H1.out.mono ?_;rintro e w1 ⟨rfl,rfl⟩)
    go_round
    case rel=>exact⟨k+1,by omega,by go_num,HJ.out⟩
    case measure=>simp[intOf];omega
  ·have hany:ks.any (ES i)=false:=by
    rw[<- vM,List.any_eq_true];rintro⟨x,hx,hb⟩;obtain⟨j,hjl,e⟩:=List.mem_iff_getElem.1 hx;rw[<- e,hj j hjl (by omega)] at hb;cases hb
   have hI:decide ((k:Int)<(ks.length:Int))=false:=dX (by omega);have H2:=ay hany;clear hany hj;go_wp2;go_ret;exact⟨⟨-1,rfl,⟨λh=>by omega,λh=>by rw[H2.out] at h;cases h⟩,by omega⟩,rfl⟩
theorem yT (i g B:Nat)(v:Value)(ks:List Int)(w:World)(hg:w.cell? ⟨g,0,none⟩=some (.int .i64 i))(hv:Ints B w v ks)(hn:ks.length<=1099511627776) :
  Calls Tryz.prog 213 #[v,.func (.func 295) #[] #[.pointer (some ⟨g,0,none⟩)]] w λe w'=>e=.returned (.bool (ks.any (ES i)))/\w'=w:=by
 have H:=ay (DF i g B v ks w hg hv hn);clear hg hv;go_enter Tryz.func213,Tryz.ntmps213;go_wp2_with (go_at_call 266;refine H.out.mono ?_);rintro e w1 ⟨⟨r,rfl,hr,_⟩,rfl⟩
 have hq:(ks.any (ES i))=decide (0<=r):=by
  by_cases h:0<=r
  ·rw[jV h];exact hr.1 h
  ·rw[dX h,<- vM];exact λq=>h (hr.2 q)
 have HQ:=ay hq;clear hq hr;go_wp2;go_ret;exact⟨bB HQ.out.symm,rfl⟩
theorem Qt (at_ an:Option Addr)(nt ct nn cn i B:Nat)(n:Nd)(kv:Value)(w:World)(hk:Ints B w kv n.aB)(hB:B<=w.heap.size)(hn:n.aB.length<=1099511627776) :
  Calls Tryz.prog 267 #[.agg #[.slice at_ nt ct,.slice an nn cn],.int .i64 i,.agg #[.int .i64 n.kind,.int .i64 n.tok,kv]] w λe w'=>e=.returned (.bool (jy nt i n))/\Below w.heap.size w w':=by
 obtain⟨kind,tok,ks⟩:=n;simp only at hk hn |-;obtain⟨ak,ck,rfl,_,_⟩:=hk.form
 by_cases h1:kind<1
 ·have hq:jy nt i ⟨kind,tok,ks⟩=false:=by simp[jy,h1]
  rw[hq];clear hq;have d1:decide (kind<1)=true:=jV h1;go_enter Tryz.func267,Tryz.ntmps267;go_wp2;go_ret;exact⟨rfl,(((bQ _ _).alloc (bD _) _).alloc (by simp) _).alloc (by simp;omega) _⟩
 by_cases h2:19<kind
 ·have hq:jy nt i ⟨kind,tok,ks⟩=false:=by simp[jy,h2]
  rw[hq];clear hq;have d1:decide (kind<1)=false:=dX h1;have d2:decide (19<kind)=true:=jV h2;go_enter Tryz.func267,Tryz.ntmps267;go_wp2;go_ret;exact⟨rfl,(((bQ _ _).alloc (bD _) _).alloc (by simp) _).alloc (by simp;omega) _⟩
 have d1:decide (kind<1)=false:=dX h1;have d2:decide (19<kind)=false:=dX h2
 by_cases h3:kind=19
 ·subst h3
  have hq:jy nt i ⟨19,tok,ks⟩=(decide ((ks.length:Int)=0) && (decide (0<=tok) && decide (tok<nt))):=by simp[jy]
  rw[hq];clear hq hk d1 d2
  by_cases h4:ks.length=0
  ·obtain rfl:ks=[]:=List.length_eq_zero_iff.1 h4
   clear h4
   by_cases h5:0<=tok
   ·have d5:decide (0<=tok)=true:=jV h5
    cases d6:decide (tok<(nt:Int)) with
    | true =>
     go_enter Tryz.func267,Tryz.ntmps267;go_wp2;go_ret;exact⟨bB (by simp[*]),(((bQ _ _).alloc (bD _) _).alloc (by simp) _).alloc (by simp;omega) _⟩
    | false =>
     go_enter Tryz.func267,Tryz.ntmps267;go_wp2;go_ret;exact⟨bB (by simp[*]),(((bQ _ _).alloc (bD _) _).alloc (by simp) _).alloc (by simp;omega) _⟩
   ·have d5:decide (0<=tok)=false:=dX h5
    go_enter Tryz.func267,Tryz.ntmps267;go_wp2;go_ret;exact⟨bB (by simp[*]),(((bQ _ _).alloc (bD _) _).alloc (by simp) _).alloc (by simp;omega) _⟩
  ·have d4:((ks.length:Int) == 0)=false:=by simp[h4]
   have d5:decide ((ks.length:Int)=0)=false:=dX (by omega);rw[d5,Bool.false_and];clear d5;go_enter Tryz.func267,Tryz.ntmps267;go_wp2;go_ret;exact⟨rfl,(((bQ _ _).alloc (bD _) _).alloc (by simp) _).alloc (by simp;omega) _⟩
 ·have d3:(kind == 19)=false:=by simp[h3]
  by_cases h4:tok=-1
  ·subst h4
   have hq:jy nt i ⟨kind,-1,ks⟩=!(ks.any (ES i)):=by
    unfold jy;rw[aU (by simp only;omega),aU h3]
    rfl
   rw[hq];clear hq;have HK:=ay hk;clear hk;go_enter Tryz.func267,Tryz.ntmps267;go_wp2_with (go_at_call 213;refine(yT i (w.heap.size+1) B _ ks _ ?c1 (HK.out.below ?c2) hn).mono ?_)
   case c2=>exact(((bQ _ _).alloc hB _).alloc (by simp;omega) _).alloc (by simp;omega) _
   go_ret;exact⟨rfl,(((bQ _ _).alloc (bD _) _).alloc (by simp) _).alloc (by simp;omega) _⟩
  ·have hq:jy nt i ⟨kind,tok,ks⟩=false:=by
    unfold jy;rw[aU (by simp only;omega),aU h3];simp[h4]
   rw[hq];clear hq hk
   have d4:(tok == -1)=false:=by simp[h4]
   go_enter Tryz.func267,Tryz.ntmps267;go_wp2;go_ret;exact⟨rfl,(((bQ _ _).alloc (bD _) _).alloc (by simp) _).alloc (by simp;omega) _⟩
def oJ (P:Nat->Prop)(w:World)(v:Value)(sz n:Nat)(cs:List Value):Prop :=
 ∃ ao cap,v=.slice ao n cap/\n<=cap/\cs.length=n * sz /\
  (0<n->∃ b off,ao=some ⟨b,off,none⟩/\P b/\b<w.heap.size/\∀ i,(h:i<cs.length)->w.cell? ⟨b,off+i,none⟩=some cs[i])
def aW (P:Nat->Prop)(w w':World):Prop:=w.heap.size<=w'.heap.size/\∀ b,P b->b<w.heap.size->w'.heap[b]?=w.heap[b]?
theorem aW.refl (P:Nat->Prop)(w:World):aW P w w:=⟨bD _,λ_ _ _=>rfl⟩
theorem aW.trans {P:Nat->Prop}{a b c:World}(h:aW P a b)(k:aW P b c):aW P a c:=⟨jq h.1 k.1,λn hn hl=>(k.2 n hn (xw hl h.1)).trans (h.2 n hn hl)⟩
theorem aW.of (h:Below w.heap.size w w'):aW P w w':=⟨h.size,λb _ hb=>h.block b hb⟩
theorem aW.rV (h:Below B w w')(hP:∀ b,P b->b<B):aW P w w':=⟨h.size,λb hb _=>h.block b (hP b hb)⟩
theorem aW.grown {row:Option Nat}(h:w.grownBy w' row)(hP:∀ b,P b->some b≠row):aW P w w':=⟨h.size,λb hb hl=>h.block b hl (hP b hb)⟩
theorem aW.set {a:Addr}(u:Value)(hP:∀ b,P b->b≠a.block):aW P w (w.setCell a u):=⟨by simp,λb hb _=>qm _ _ _ _ (hP b hb)⟩
theorem oJ.frame (h:oJ P w v sz n cs)(ha:aW P w w'):oJ P w' v sz n cs:=by
 obtain⟨ao,cap,hv,hn,hl,hc⟩:=h;refine⟨ao,cap,hv,hn,hl,λh0=>?_⟩;obtain⟨b,off,e,hP,hlt,hcell⟩:=hc h0;exact⟨b,off,e,hP,xw hlt ha.1,λi hi=>(yK (a:=⟨b,off+i,none⟩) (ha.2 b hP hlt)).trans (hcell i hi)⟩
theorem oJ.imp {Q:Nat->Prop}(h:oJ P w v sz n cs)(hq:∀ b,P b->b<w.heap.size->Q b):oJ Q w v sz n cs:=by
 obtain⟨ao,cap,hv,hn,hl,hc⟩:=h;refine⟨ao,cap,hv,hn,hl,λh0=>?_⟩;obtain⟨b,off,e,hP,hlt,hcell⟩:=hc h0;exact⟨b,off,e,hq b hP hlt,hlt,hcell⟩
theorem oJ.nil (P:Nat->Prop)(w:World)(sz:Nat):oJ P w (.slice none 0 0) sz 0 []:=⟨none,0,rfl,bD _,by simp,λh=>absurd h (by omega)⟩
theorem oJ.fQ {P:Nat->Prop}{B:Nat}{w:World}{e sz:Nat}{v:Value}{n:Nat}{cs:List Value}(h:w.ownsRow B e sz v n cs)(hP:∀ b,B<=b->P b):oJ P w v sz n cs:=by
 obtain⟨ao,cap,hv,hn,hl,hc⟩:=Sl.fQ h;refine⟨ao,cap,hv,hn,hl,λh0=>?_⟩;obtain⟨b,off,e,hlt,hcell⟩:=hc h0;refine⟨b,off,e,hP b ?_,hlt,hcell⟩
 rcases h.2 with ⟨hv',h1⟩|⟨g,jw,cur,hv',hg,_⟩
 ·omega
 ·rw[hv,e] at hv'
  simp only[Value.slice.injEq,Option.some.injEq,Addr.mk.injEq] at hv';omega
theorem oJ.form (h:oJ P w v sz n cs):∃ ao cap,v=.slice ao n cap:=by
 obtain⟨ao,cap,hv,_⟩:=h;exact⟨ao,cap,hv⟩
structure Shape where
 sz:Nat
 cells:PE->Value->Value->List Value
 agg:PE->Value->Value->Value
 num:(Nat->Prop)->World->Int->Value->Prop
 len:∀ e m k,(cells e m k).length=sz
 frame:∀ {P:Nat->Prop} {w w':World} {n:Int} {m:Value},num P w n m->aW P w w'->num P w' n m
 imp:∀ {P Q:Nat->Prop} {w:World} {n:Int} {m:Value},num P w n m->(∀ b,P b->b<w.heap.size->Q b)->num Q w n m
def qZ (S:Shape):List PE->List (Value × Value)->List Value
 | e :: es,p :: l=>S.cells e p.1 p.2++qZ S es l
 | _,_=>[]
mutual
def pG (S:Shape)(P:Nat->Prop)(w:World)(mag kv:Value):PE->Prop
 | .mk _op _name acf num ai0 ahv aB _at_=>S.num P w num mag/\∃ l:List (Value × Value),oJ P w kv S.sz aB.length (qZ S aB l)/\jg S P w l aB
def jg (S:Shape)(P:Nat->Prop)(w:World)(l:List (Value × Value)):List PE->Prop
 | []=>l=[]
 | e :: es=>∃ p l',l=p :: l'/\pG S P w p.1 p.2 e/\jg S P w l' es
end
mutual
theorem pG.frame {S:Shape}{P:Nat->Prop}{w w':World}(ha:aW P w w'):∀ {e:PE} {m k:Value},pG S P w m k e->pG S P w' m k e
 | .mk op name module num txt yes aB at_,m,k,h=>by
  rw[pG] at h |-;obtain⟨h1,l,h2,h3⟩:=h;exact⟨S.frame h1 ha,l,h2.frame ha,jg.frame ha h3⟩
theorem jg.frame {S:Shape}{P:Nat->Prop}{w w':World}(ha:aW P w w'):∀ {es:List PE} {l:List (Value × Value)},jg S P w l es->jg S P w' l es
 | [],l,h=>by rw[jg] at h |-;exact h
 | e :: es,l,h=>by
  rw[jg] at h |-;obtain⟨p,l',h1,h2,h3⟩:=h;exact⟨p,l',h1,pG.frame ha h2,jg.frame ha h3⟩
end
mutual
theorem pG.imp {S:Shape}{P Q:Nat->Prop}{w:World}(hq:∀ b,P b->b<w.heap.size->Q b):∀ {e:PE} {m k:Value},pG S P w m k e->pG S Q w m k e
 | .mk op name module num txt yes aB at_,m,k,h=>by
  rw[pG] at h |-;obtain⟨h1,l,h2,h3⟩:=h;exact⟨S.imp h1 hq,l,h2.imp hq,jg.imp hq h3⟩
theorem jg.imp {S:Shape}{P Q:Nat->Prop}{w:World}(hq:∀ b,P b->b<w.heap.size->Q b):∀ {es:List PE} {l:List (Value × Value)},jg S P w l es->jg S Q w l es
 | [],l,h=>by rw[jg] at h |-;exact h
 | e :: es,l,h=>by
  rw[jg] at h |-;obtain⟨p,l',h1,h2,h3⟩:=h;exact⟨p,l',h1,pG.imp hq h2,jg.imp hq h3⟩
end
theorem jg.len {S:Shape}{P:Nat->Prop}{w:World}:∀ {es:List PE} {l:List (Value × Value)},jg S P w l es->l.length=es.length
 | [],l,h=>by rw[jg] at h;subst h;rfl
 | e :: es,l,h=>by
  rw[jg] at h;obtain⟨p,l',rfl,_,h3⟩:=h;simp[jg.len h3]
theorem jg.snoc {S:Shape}{P:Nat->Prop}{w:World}:∀ {es:List PE} {l:List (Value × Value)} {e:PE} {m k:Value},jg S P w l es->pG S P w m k e->jg S P w (l++[(m,k)]) (es++[e])
 | [],l,e,m,k,h,h2=>by
  rw[jg] at h;subst h;rw[uD,uD,jg];exact⟨(m,k),[],rfl,h2,by rw[jg]⟩
 | x :: es,l,e,m,k,h,h2=>by
  rw[jg] at h;obtain⟨p,l',rfl,h3,h4⟩:=h;rw[pJ,pJ,jg];exact⟨p,_,rfl,h3,h4.snoc h2⟩
theorem ET (S:Shape):∀ (es:List PE) (l:List (Value × Value)) (e:PE) (m k:Value),l.length=es.length->qZ S (es++[e]) (l++[(m,k)])=qZ S es l++S.cells e m k
 | [],[],e,m,k,_=>by simp[qZ]
 | x :: es,p :: l,e,m,k,h=>by
  simp only[pJ,qZ,ET S es l e m k (by simpa using h),om]
 | [],_ :: _,_,_,_,h=>by simp at h
 | _ :: _,[],_,_,_,h=>by simp at h
theorem MZ (S:Shape):∀ (es:List PE) (l:List (Value × Value)) (i j:Nat) (hl:l.length=es.length) (hi:i<es.length),j<S.sz->(qZ S es l)[i * S.sz+j]?=(S.cells es[i] (l[i]'(by omega)).1 (l[i]'(by omega)).2)[j]?
 | [],[],i,j,_,h,_=>absurd h (by simp)
 | x :: es,p :: l,0,j,_,_,hj=>by
  simp only[qZ,Nat.zero_mul,Nat.zero_add,List.getElem_cons_zero];rw[List.getElem?_append_left (by rw[S.len];exact hj)]
 | x :: es,p :: l,i+1,j,hl,hi,hj=>by
  simp only[qZ,H9];rw[abj (by rw[S.len,Nat.succ_mul];omega),S.len,show (i+1) * S.sz+j - S.sz=i * S.sz+j by rw[Nat.succ_mul];omega];exact MZ S es l i j (by simpa using hl) (by simpa using hi) hj
 | [],_ :: _,_,_,h,_,_=>by simp at h
 | _ :: _,[],_,_,h,_,_=>by simp at h
theorem jg.get {S:Shape}{P:Nat->Prop}{w:World}:∀ {es:List PE} {l:List (Value × Value)} (h:jg S P w l es) (i:Nat) (hi:i<es.length),pG S P w (l[i]'(by rw[h.len];exact hi)).1 (l[i]'(by rw[h.len];exact hi)).2 es[i]
 | [],l,h,i,hi=>absurd hi (by simp)
 | e :: es,l,h,i,hi=>by
  have h':=h;rw[jg] at h';obtain⟨p,l',rfl,h3,h4⟩:=h'
  cases i with
  | zero=>exact h3
  | succ i=>exact h4.get i (by simpa using hi)
theorem pG.form {S:Shape}{e:PE}{mag kv:Value}(h:pG S P w mag kv e):S.num P w e.num mag/\∃ ao cap,kv=.slice ao e.aB.length cap/\e.aB.length<=cap /\
  (0<e.aB.length->∃ b off,ao=some ⟨b,off,none⟩/\P b/\b<w.heap.size/\∀ i,(hi:i<e.aB.length)->∃ m k,pG S P w m k e.aB[i]/\∀ j u,(S.cells e.aB[i] m k)[j]?=some u->w.cell? ⟨b,off+i * S.sz+j,none⟩=some u):=by
 cases e with
 | mk op name module num txt yes aB at_ =>
  rw[pG] at h;obtain⟨h1,l,⟨ao,cap,hv,hn,hl,hc⟩,h3⟩:=h;refine⟨h1,ao,cap,hv,hn,λh0=>?_⟩;obtain⟨b,off,ha,hP,hlt,hcell⟩:=hc h0;refine⟨b,off,ha,hP,hlt,λi hi=>?_⟩;have hll:=h3.len;refine⟨_,_,h3.get i hi,λj u hu=>?_⟩
  have hj:j<S.sz:=by
   rcases Nat.lt_or_ge j S.sz with h'|h'
   ·exact h'
   ·rw[List.getElem?_eq_none (by rw[S.len];exact h')] at hu;cases hu
  have hr:=MZ S aB l i j hll hi hj;have hu':=hr.trans hu;obtain⟨h',e⟩:=pE hu';have:=hcell (i * S.sz+j) h';rw[e] at this;rw[vN];exact this
def nP (P:Nat->Prop)(w:World)(n:Int)(m:Value):Prop :=
 ∃ ws:List Nat,oJ P w m 1 ws.length (ws.map λd=>.int .u32 (d:Nat))/\dB ws=ws/\(∀ x∈ws,x<4294967296)/\jc ws=n.natAbs
def fC (l:aH):Value:=.string ⟨l.toArray⟩
def XA:Shape where
 sz:=8
 cells e m k:=[.int .i64 e.op,fC e.name,fC e.module,.bool (decide (e.num<0)),m,.bool e.yes,k,.int .i64 e.at_]
 agg e m k:=.agg #[.int .i64 e.op,fC e.name,fC e.module,.bool (decide (e.num<0)),m,.bool e.yes,k,.int .i64 e.at_]
 num:=nP
 len _ _ _:=rfl
 frame h ha:=by obtain⟨ws,h1,h2⟩:=h;exact⟨ws,h1.frame ha,h2⟩
 imp h hq:=by obtain⟨ws,h1,h2⟩:=h;exact⟨ws,h1.imp hq,h2⟩
theorem nP.zero (P:Nat->Prop)(w:World):nP P w 0 (.slice none 0 0):=⟨[],oJ.nil P w 1,rfl,λx h=>(by cases h),rfl⟩
def EPost (S:Shape)(e:PE)(w:World)(r:Ending)(w':World):Prop:=∃ m k,r=.returned (S.agg e m k)/\pG S (λb=>w.heap.size<=b) w' m k e/\Below w.heap.size w w'
theorem oH.Qu {n:Int}(h:oH aj n u .leaf):∃ i:Nat,n=i/\aj[i]?=some ⟨19,(u:Nat),[]⟩:=by
 rw[oH] at h;exact⟨n.toNat,by omega,h.2⟩
theorem bJ.tok (h:bJ B w (.agg #[tv,nv]) ah aj)(hu:u<ah.length) :
  ∃ b off cap,tv=.slice (some ⟨b,off,none⟩) ah.length cap/\b<B/\w.cell? ⟨b,off+u * 4,none⟩=some (.int .i64 ah[u].kind)/\w.cell? ⟨b,off+u * 4+1,none⟩=some (fC ah[u].lead)/\w.cell? ⟨b,off+u * 4+2,none⟩=some (fC ah[u].text)/\w.cell? ⟨b,off+u * 4+3,none⟩=some (.int .i64 ah[u].place):=by
 obtain⟨tv',nv',l,h1,h2,h3,h4,h5⟩:=h
 obtain⟨rfl,rfl⟩:tv=tv'/\nv=nv':=by simpa using h1
 obtain⟨ao,cap,rfl,_,hf⟩:=h2.form (λ_=>rfl);obtain⟨b,off,rfl,hb,hc⟩:=hf (by omega);exact⟨b,off,cap,rfl,hb,hc u 0 _ hu rfl,hc u 1 _ hu rfl,hc u 2 _ hu rfl,hc u 3 _ hu rfl⟩
def qw (t:Tok):Value:=.agg #[.int .i64 t.kind,fC t.lead,fC t.text,.int .i64 t.place]
theorem kP (B:Nat)(tv nv:Value)(ah:List Tok)(aj:List Nd)(i u:Nat)(w:World)(h:bJ B w (.agg #[tv,nv]) ah aj)(_hB:B<=w.heap.size)(hn:aj[i]?=some ⟨19,(u:Nat),[]⟩)(hu:u<ah.length) :
  Calls Tryz.prog 68 #[.agg #[tv,nv],.int .i64 i] w λe w'=>e=.returned (qw ah[u])/\Below w.heap.size w w':=by
 obtain⟨hi,hni⟩:=pE hn;obtain⟨b,off,cap,kv,rfl,hb,_,x1,_,_⟩:=h.node hi;obtain⟨b2,off2,cap2,rfl,hb2,t0,t1,t2,t3⟩:=h.tok hu;rw[hni] at x1;simp only at x1;generalize ah[u]=t at t0 t1 t2 t3;obtain⟨c,x,y,q⟩:=t;simp only[fC] at t0 t1 t2 t3;have hal:=((bQ w.heap.size w).alloc (bD _) (.cells #[.slice (some ⟨b2,off2,none⟩) ah.length cap2,.slice (some ⟨b,off,none⟩) aj.length cap] 154)).alloc (by simp) (.cells #[.int .i64 0,.string ⟨#[]⟩,.string ⟨#[]⟩,.int .i64 0] 159);have x1':=jo hal x1;have y0:=jo hal t0;have y1:=jo hal t1;have y2:=jo hal t2;have y3:=jo hal t3
 have i1:(i:Int)<(aj.length:Int):=by omega
 have i2:(u:Int)<(ah.length:Int):=by omega
 have hnr:((w.alloc (.cells #[.slice (some ⟨b2,off2,none⟩) ah.length cap2,.slice (some ⟨b,off,none⟩) aj.length cap] 154)).alloc (.cells #[.int .i64 0,.string ⟨#[]⟩,.string ⟨#[]⟩,.int .i64 0] 159)).heap[w.heap.size]?=some (.cells #[.slice (some ⟨b2,off2,none⟩) ah.length cap2,.slice (some ⟨b,off,none⟩) aj.length cap] 154 (0,0)):=(gZ _ _ _ (by simp)).trans (aX w _);have hnw:=aX (w.alloc (.cells #[.slice (some ⟨b2,off2,none⟩) ah.length cap2,.slice (some ⟨b,off,none⟩) aj.length cap] 154)) (.cells #[.int .i64 0,.string ⟨#[]⟩,.string ⟨#[]⟩,.int .i64 0] 159);rw[nG] at hnw;clear t0 t1 t2 t3 x1 hn hni h;go_enter Tryz.func68,Tryz.ntmps68;go_wp2;generalize (w.alloc _).alloc _=w1 at hnr hnw hal x1' y0 y1 y2 y3 |-
 have r0:w1.cell? ⟨w.heap.size,0,none⟩=some (.slice (some ⟨b2,off2,none⟩) ah.length cap2):=by rw[aZ hnr];rfl
 have r1:w1.cell? ⟨w.heap.size,1,none⟩=some (.slice (some ⟨b,off,none⟩) aj.length cap):=by rw[aZ hnr];rfl
 go_still_tail 12,(by kernel_rfl)
 change wpList _ _ _ _ _ w1.drew;have XW:=hal.drew;have yR:w1.drew.heap[w.heap.size+1]?=some (.cells #[.int .i64 0,.string ⟨#[]⟩,.string ⟨#[]⟩,.int .i64 0] 159 (0,0)):=hnw;generalize w1.drew=w2 at XW yR |-
 have f0:w2.cell? ⟨w.heap.size+1,0,none⟩=some (.int .i64 0):=by rw[aZ yR];rfl
 have f1:w2.cell? ⟨w.heap.size+1,1,none⟩=some (.string ⟨#[]⟩):=by rw[aZ yR];rfl
 have f2:w2.cell? ⟨w.heap.size+1,2,none⟩=some (.string ⟨#[]⟩):=by rw[aZ yR];rfl
 have f3:w2.cell? ⟨w.heap.size+1,3,none⟩=some (.int .i64 0):=by rw[aZ yR];rfl
 have z0:∀ j,w2.frozen? ⟨w.heap.size+1,j,none⟩=false:=by intro j;simp[World.frozen?,yR]
 clear hnw yR i1 i2 y0 y1 y2 y3 r0 r1 x1';go_wp2;refine nI (v:=.agg #[.int .i64 c,.string ⟨x.toArray⟩,.string ⟨y.toArray⟩,.int .i64 q]) (by simp[results,Tryz.results68,go_sem,f0,f1,f2,f3]) rfl ⟨rfl,?_⟩;exact(((XW.setCell (by simp) _).setCell (by simp) _).setCell (by simp) _).setCell (by simp) _
theorem Tryz.UY (a b c d:Value)(w:World):(Instr.field 159 (.agg #[a,b,c,d]) 2).run Tryz.prog w=.ok c w:=by kernel_rfl
theorem xG (B:Nat)(tv nv:Value)(ah:List Tok)(aj:List Nd)(i u:Nat)(w:World)(h:bJ B w (.agg #[tv,nv]) ah aj)(hB:B<=w.heap.size)(hn:aj[i]?=some ⟨19,(u:Nat),[]⟩)(hu:u<ah.length) :
  Calls Tryz.prog 113 #[.agg #[tv,nv],.int .i64 i] w λe w'=>e=.returned (fC ah[u].text)/\Below w.heap.size w w':=by
 have hb1:=(bQ w.heap.size w).alloc (bD _) (.cells #[tv,nv] 154);have HT:=ay (kP B tv nv ah aj i u _ (h.below (hb1.mono hB)) (by have:=hb1.size;omega) hn hu);obtain⟨a1,c1,a2,c2,e⟩:=h.slices
 obtain⟨rfl,rfl⟩:tv=_/\nv=_:=by simpa using e
 generalize ah[u]=t at HT |-
 have hf:=λw=>Tryz.UY (.int .i64 t.kind) (fC t.lead) (fC t.text) (.int .i64 t.place) w
 unfold qw at HT;clear h hn e;go_enter Tryz.func113,Tryz.ntmps113;go_wp2_with (go_at_call 68;refine HT.out.mono ?_;rintro e w1 ⟨rfl,hb2⟩);go_ret;exact⟨rfl,hb1.trans (hb2.mono hb1.size)⟩
