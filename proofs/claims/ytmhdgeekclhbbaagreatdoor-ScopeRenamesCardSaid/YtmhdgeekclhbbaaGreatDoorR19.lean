/- Walks and plain laws: OfW0, ScopeOf, SigMem, ScopeW9, ScopeInv, ScopeW10, ScopeFit, ScopeAnc. -/
import Derived.Test.YtmhdgeekclhbbaaGreatDoorR18
import Derived.Deep.RegionHeldLaw
set_option maxHeartbeats 16000000
set_option maxRecDepth 100000
set_option linter.unusedVariables false
set_option linter.unusedSimpArgs false
namespace Go.Proofs.YtmhdgeekclhbbaaGreatDoor
open Go.RowKit Go
theorem Wi {S:List UInt8}{ah:List Tok}(h:Laid S 0 ah)(v:Nat):dS ah v+(aN ah v).length≤S.length:=by
 have hs:=h.some
 have hi:min v (ah.length - 1)<ah.length:=by omega
 have hp:=h.place _ hi;have h1:=h.inside (min v (ah.length - 1)+1) (by omega);rw[kr ah _ hi,og] at h1
 have e:dh ah v=ah[min v (ah.length - 1)]:=by
  rw[dh,List.getD_eq_getElem?_getD,yV hi,Option.getD_some]
 unfold dS aN;rw[e,hp];omega
theorem adI {S:List UInt8}{ah:List Tok}{aj:List Nd}{p:kW}(F:nY S ah aj p)(B:Nat)(tv nv:Value):RdE B tv nv ah aj:=by
 have hL:=iL F.TL;have hs:=F.small;refine⟨fun v=>jc (Wi hL v) (by omega),F.good.aA,fun cl e u ho hl k W hr hT hW=>?_⟩;refine eG ⟨B,tv,nv,ah,aj,cl⟩ ⟨F.good.Vr,fun u hu hk W=>?_⟩ (SizeOf.sizeOf e+1) e u (by omega) ho hl k W hr ⟨hT,hW⟩;have h:=rZ F.TL _ (wu hL.some u) hk;obtain⟨X,hX,eX⟩:=jq (aN ah u);simp only;rw[eX,← hX]
 have h':uK X.data.toList:=by rw[hX];exact h
 refine QG X W ?_ ?_ h'.1 (fun q=>by rw[← aR];exact h'.2.2.2 q)
 ·rw[← aR];exact List.length_pos_iff.2 h'.2.1
 ·rw[← aR];exact h'.2.2.1
theorem Wj {S:List UInt8}{ah:List Tok}{aj:List Nd}{p:kW}(F:nY S ah aj p):∃ (r:Nat) (ks:List Int),aj.length=r+1∧aj[r]?=some ⟨(1:Nat),-1,ks⟩∧fJ aj ks 0 p.aA:=by
 have hr:=oo.em (pre:=[]) p.pt 0 0 rfl
 have hnd:aj.length=p.pt.nd:=by rw[F.FZ,PT.uq]
 have hp:=p.pt.gZ;rw[qc,Nat.zero_add,← F.FZ,← hnd] at hr
 obtain⟨r,hr1⟩:∃ r,aj.length=r+1:=⟨aj.length - 1,by omega⟩
 rw[hr1,show (((r+1:Nat):Int) - 1)=(r:Int) by omega,kW.pt] at hr;obtain⟨ks,h1,h2⟩:=fu hr;exact⟨r,ks,hr1,h1,h2⟩
def adJ (p:PP)(w:World)(e:Ending)(w':World):Prop :=
 ∃ ai ci ad cd,e=.returned (.tuple #[.agg #[.slice ai p.aG.length ci,.slice ad p.defs.length cd],.int .i64 0])∧(ai=none→ci=0)∧Km (fun b=>w.heap.size≤b) w' (.slice ai p.aG.length ci) (.slice ad p.defs.length cd) p∧Below w.heap.size w w'
def ZM (p:PP)(w:World)(e:Ending)(w':World):Prop :=
 ∃ ai ci ad cd,e=.returned (.tuple #[.agg #[.slice ai p.aG.length ci,.slice ad p.defs.length cd],.int .i64 0])∧(ai=none→ci=0)∧Km (fun b=>w.heap.size≤b) w' (.slice ai p.aG.length ci) (.slice ad p.defs.length cd) p∧Below w.heap.size w w'∧gF DA w.heap.size 66 w' (.slice ad p.defs.length cd) p.defs
theorem ZM.post {p:PP}{w:World}{e:Ending}{w':World}(h:ZM p w e w'):adJ p w e w':=by
 obtain⟨ai,ci,ad,cd,h1,h2,h3,h4,_⟩:=h;exact⟨ai,ci,ad,cd,h1,h2,h3,h4⟩
theorem gF.base {α β:Type}{K:RK α β}{C D e:Nat}{w:World}{v:Value}{zs:List α}(h:gF K C e w v zs)(hD:D≤C):gF K D e w v zs:=by
 obtain⟨l,h1,h2,h3⟩:=h;refine⟨l,h1,⟨h2.1,?_⟩,fun p hp=>K.imp (h3 p hp) fun b hb _=>⟨by omega,hb.2⟩⟩
 rcases h2.2 with h|⟨g,cap,cur,q1,q2,q3⟩
 ·exact .inl h
 ·exact .inr ⟨g,cap,cur,q1,by omega,q3⟩
def adK (IK:RK (List UInt8 × Nat) Unit)(DK:RK DD DV)(p:PP)(wl:World)(pb e1 e2 j:Nat)(W:World)(iv dv:Value):Prop :=
 (j≤p.aG.length∧gF IK wl.heap.size e1 W iv (p.aG.take j)∧dv=.slice none 0 0) ∨
 (p.aG.length≤j∧(∀ n c,iv=.slice none n c→c=0)∧∃ w2:World,wl.heap.size≤w2.heap.size∧aW (fun b=>b<wl.heap.size∧b≠pb) wl w2∧RowK IK (fun b=>wl.heap.size≤b) w2 iv p.aG∧aW (fun b=>b<w2.heap.size∧b≠pb) w2 W∧gF DK w2.heap.size e2 W dv (p.defs.take (j - p.aG.length)))
theorem gF.agJ {α β:Type}{K:RK α β}{C e:Nat}{w:World}{v:Value}{zs:List α}(h:gF K C e w v zs):∀ n c,v=.slice none n c→c=0:=by
 obtain⟨l,_,h2,_⟩:=h;intro n c hv
 rcases h2.2 with ⟨h3,_⟩|⟨g,cap,cur,h3,_⟩
 ·rw[hv] at h3;injection h3
 ·rw[hv] at h3;injection h3 with h4;cases h4
theorem adK.two {IK:RK (List UInt8 × Nat) Unit}{DK:RK DD DV}{p:PP}{wl:World}{pb e1 e2 j:Nat}{W:World}{iv dv:Value}(h:adK IK DK p wl pb e1 e2 j W iv dv)(hj:p.aG.length≤j)(ha:aW (fun b=>b<wl.heap.size∧b≠pb) wl W):(∀ n c,iv=.slice none n c→c=0)∧∃ w2:World,wl.heap.size≤w2.heap.size∧aW (fun b=>b<wl.heap.size∧b≠pb) wl w2∧RowK IK (fun b=>wl.heap.size≤b) w2 iv p.aG∧aW (fun b=>b<w2.heap.size∧b≠pb) w2 W∧gF DK w2.heap.size e2 W dv (p.defs.take (j - p.aG.length)):=by
 rcases h with ⟨h1,h2,rfl⟩|⟨_,h2,h3⟩
 ·obtain rfl:j=p.aG.length:=by omega
  rw[List.take_length] at h2;refine⟨h2.agJ,W,ha.1,ha,h2.row,aW.refl _ _,?_⟩;rw[Nat.sub_self,List.take_zero];exact gF.nil _ _ _ _
 ·exact⟨h2,h3⟩
def FF.z (f:FF):ZF:=⟨f.name,f.base,f.aC.map PE.z,f.at_,f.bare⟩
def DD.z (d:DD):ZD:=⟨d.pub,d.params.map FF.z,d.res.z,d.body.z⟩
def PP.z (p:PP):ZP:=⟨p.aG.map fun m=>(m.1,(m.2:Int)),p.defs.map DD.z⟩
section
variable {α β γ:Type}
theorem Gh {K:RK α β}{L:RK γ β}{g:α→γ}(hc:∀ a b,L.cells (g a) b=K.cells a b):∀ l:List (α × β),L.flat (l.map fun p=>(g p.1,p.2))=K.flat l
 | []=>rfl
 | p :: l=>by
  have:=Gh hc l;unfold RK.flat at this ⊢;rw[List.map_cons,List.flatMap_cons,List.flatMap_cons,this,hc]
theorem KZ (g:α→γ):∀ l:List (α × β),(l.map fun p=>(g p.1,p.2)).map Prod.fst=(l.map Prod.fst).map g
 | []=>rfl
 | p :: l=>by rw[List.map_cons,List.map_cons,KZ g l];rfl
theorem RowK.map {K:RK α β}{L:RK γ β}{g:α→γ}{P:Nat→Prop}{w:World}{v:Value}{zs:List α}(hs:L.sz=K.sz)(hc:∀ a b,L.cells (g a) b=K.cells a b)(hi:∀ a b,K.inn P w a b→L.inn P w (g a) b)(h:RowK K P w v zs):RowK L P w v (zs.map g):=by
 obtain⟨l,rfl,h2,h3⟩:=h;refine⟨l.map fun p=>(g p.1,p.2),KZ g l,?_,fun p hp=>?_⟩
 ·rw[Gh hc,hs,List.length_map];exact h2
 ·obtain⟨q,hq,rfl⟩:=List.mem_map.1 hp
  exact hi _ _ (h3 q hq)
theorem gF.map {K:RK α β}{L:RK γ β}{g:α→γ}{C e:Nat}{w:World}{v:Value}{zs:List α}(hs:L.sz=K.sz)(hc:∀ a b,L.cells (g a) b=K.cells a b)(hi:∀ P a b,K.inn P w a b→L.inn P w (g a) b)(h:gF K C e w v zs):gF L C e w v (zs.map g):=by
 obtain⟨l,rfl,h2,h3⟩:=h;refine⟨l.map fun p=>(g p.1,p.2),KZ g l,?_,fun p hp=>?_⟩
 ·rw[Gh hc,hs,List.length_map];exact h2
 ·obtain⟨q,hq,rfl⟩:=List.mem_map.1 hp
  exact hi _ _ _ (h3 q hq)
end
theorem TP {P:Nat→Prop}{w:World}{v:Value}{es:List PE}(h:RowK (EK XA) P w v es):RowK (ZK YA) P w v (es.map PE.z) :=
 RowK.map (K:=EK XA) (L:=ZK YA) (g:=PE.z) rfl (fun a b=>NS a b.1 b.2) (fun _ _ h=>nL.ofE h) h
theorem ab2 {P:Nat→Prop}{w:World}{v:Value}{es:List FF}(h:RowK (FK XA) P w v es):RowK ZFK P w v (es.map FF.z) :=
 RowK.map (K:=FK XA) (L:=ZFK) (g:=FF.z) rfl (fun _ _=>rfl) (fun _ _ h=>TP h) h
theorem ab3 {P:Nat→Prop}{w:World}{d:DD}{x:DV}(h:DA.inn P w d x):Py.inn P w d.z x:=⟨ab2 h.1,TP h.2.1,nL.ofE h.2.2⟩
theorem Wm (d:DD)(x:DV):Py.cells d.z x=DA.cells d x:=by
 obtain⟨pub,ps,res,body⟩:=d;cases body
 rfl
theorem ab4 {C e:Nat}{w:World}{v:Value}{es:List DD}(h:gF DA C e w v es):gF Py C e w v (es.map DD.z):=gF.map (K:=DA) (L:=Py) (g:=DD.z) rfl Wm (fun _ _ _ h=>ab3 h) h
mutual
theorem PE.ZN:∀ e:PE,e.z.size=e.j5
 | .mk _ _ _ _ _ _ aA _=>by rw[PE.z,PZ.size,PE.j5,OT aA];omega
theorem OT:∀ l:List PE,qd (SL l)=gP l
 | []=>rfl
 | e :: l=>by rw[SL,qd,gP,PE.ZN e,OT l]
end
theorem Gi:∀ l:List PE,l.length≤gP l
 | []=>bD _
 | e :: l=>by
  have:=Gi l
  have:1≤e.j5:=by cases e;rw[PE.j5];omega
  rw[gP,dR];omega
mutual
theorem PE.acD {M:Nat}(hM:M≤65536):∀ e:PE,e.fits M→e.j5≤65536→e.z.fit
 | .mk op nm md num txt yes aA a,h,hs=>by
  rw[PE.fits] at h;rw[PE.j5] at hs;have hl:=Gi aA;rw[PE.z,PZ.fit];exact⟨by omega,by omega,h.2.2.2.2.2.1,by rw[JY,List.length_map];omega,TQ hM aA h.2.2.2.2.2.2 (by omega)⟩
theorem TQ {M:Nat}(hM:M≤65536):∀ l:List PE,jf M l→gP l≤65536→Bj (SL l)
 | [],_,_=>by rw[SL,Bj];trivial
 | e :: l,h,hs=>by
  rw[jf] at h;rw[gP] at hs;rw[SL,Bj];exact⟨PE.acD hM e h.1 (by omega),TQ hM l h.2 (by omega)⟩
end
theorem gF.setHead {α β:Type}{K:RK α β}{C e g n cap j:Nat}{w:World}{zs:List α}{a a':α}{u:Value}(h:gF K C e w (.slice (some ⟨g,0,none⟩) n cap) (a :: zs))(hj:j<K.sz)(hc:∀ x,K.cells a' x=(K.cells a x).set j u)(hi:∀ P W x,K.inn P W a x→K.inn P W a' x) :
  gF K C e (w.setCell ⟨g,j,none⟩ u) (.slice (some ⟨g,0,none⟩) n cap) (a' :: zs):=by
 obtain⟨l,h1,h2,h3⟩:=h
 cases l with
 | nil=>cases h1
 | cons p l =>
  obtain⟨a0,x⟩:=p;rw[List.map_cons,List.cons.injEq] at h1;obtain⟨h1a,h1b⟩:=h1;simp only at h1a;subst h1a
  have hA:aW (fun b=>C≤b∧some b≠(Value.slice (some ⟨g,0,none⟩) n cap).ownBlock) w (w.setCell ⟨g,j,none⟩ u):=aW.set u fun b hb q=>hb.2 (by rw[q];rfl)
  refine⟨(a',x) :: l,by rw[List.map_cons,h1b],?_,fun p hp=>?_⟩
  ·obtain⟨hlen,hr⟩:=h2
   have hf:K.flat ((a',x) :: l)=(K.flat ((a0,x) :: l)).set j u:=by
    show K.cells a' x++K.flat l=(K.cells a0 x++K.flat l).set j u;rw[hc,List.set_append_left _ _ (by rw[K.len];exact hj)]
   refine⟨by rw[hf,List.length_set,hlen];rfl,?_⟩
   rcases hr with ⟨hv,_⟩|⟨g',jE,cur,hv,hg,hh,hn,hm,hs,ht⟩
   ·cases hv
   ·simp only[Value.slice.injEq,Option.some.injEq,Addr.mk.injEq,and_true] at hv
    obtain⟨rfl,rfl,rfl⟩:=hv;refine .inr ⟨g,cap,cur.setIfInBounds j u,rfl,hg,heap_setCell_same w g j _ _ u hh,hn,hm,by rw[Array.size_setIfInBounds];exact hs,?_⟩;rw[Array.toList_setIfInBounds,hf,← ht,List.take_set]
    rfl
  ·rcases List.mem_cons.1 hp with rfl|hp
   ·exact hi _ _ _ (K.frame (h3 _ vB) hA)
   ·exact K.frame (h3 p (wM _ hp)) hA
theorem gF.free {α β:Type}{K:RK α β}{C e g n cap:Nat}{w:World}{zs:List α}(h:gF K C e w (.slice (some ⟨g,0,none⟩) n cap) zs)(j:Nat):w.frozen? ⟨g,j,none⟩=false:=by
 obtain⟨l,h1,h2,h3⟩:=h
 rcases h2.2 with ⟨hv,_⟩|⟨g',jE,cur,hv,hg,hh,_⟩
 ·cases hv
 ·simp only[Value.slice.injEq,Option.some.injEq,Addr.mk.injEq,and_true] at hv
  obtain⟨rfl,-⟩:=hv;simp[World.frozen?,hh]
theorem gF.head {α β:Type}{K:RK α β}{C e:Nat}{w:World}{v:Value}{zs:List α}(h:gF K C e w v zs)(h0:0<zs.length):∃ g cap,v=.slice (some ⟨g,0,none⟩) zs.length cap∧C≤g∧g<w.heap.size:=by
 obtain⟨l,h1,h2,h3⟩:=h
 rcases h2.2 with ⟨_,hv⟩|⟨g',jE,cur,hv,hg,hh,_⟩
 ·omega
 ·exact⟨g',jE,hv,hg,(bS hh).1⟩
def ZD.TR (d:ZD)(b:Int):ZD:={ d with res:={ d.res with base:=b } }
theorem gF.TR {C e g n cap:Nat}{w:World}{d:ZD}{zs:List ZD}(h:gF Py C e w (.slice (some ⟨g,0,none⟩) n cap) (d :: zs))(b:Int):gF Py C e (w.setCell ⟨g,3,none⟩ (.int .i64 b)) (.slice (some ⟨g,0,none⟩) n cap) (d.TR b :: zs) :=
 h.setHead (by decide) (fun _=>rfl) fun _ _ _ h=>h
def OU:RK ZF Value where
 sz:=3
 cells f cv:=[dJ f.name,.int .i64 f.base,cv]
 inn P w f cv:=RowK (ZK YA) P w cv f.aC
 len _ _:=rfl
 frame h ha:=h.frame ha
 imp h hq:=h.imp hq
def OV (P:Nat→Prop)(w:World)(pv cv:Value)(ps:List ZF)(cl:List PZ):Prop:=RowK OU P w pv ps∧RowK (ZK YA) P w cv cl
theorem OV.frame {P:Nat→Prop}{w w':World}{pv cv:Value}{ps:List ZF}{cl:List PZ}(h:OV P w pv cv ps cl)(ha:aW P w w'):OV P w' pv cv ps cl:=⟨h.1.frame ha,h.2.frame ha⟩
theorem OV.imp {P Q:Nat→Prop}{w:World}{pv cv:Value}{ps:List ZF}{cl:List PZ}(h:OV P w pv cv ps cl)(hq:∀ b,P b→b<w.heap.size→Q b):OV Q w pv cv ps cl:=⟨h.1.imp hq,h.2.imp hq⟩
theorem Tryz.ZO:(Tryz.prog.info? 98).map (fun i=>(i.zero,i.size,i.bytes))=some (some (.agg #[.string ⟨#[]⟩,.int .i64 0,.slice none 0 0]),3,48):=by kernel_rfl
theorem Tryz.ZQ:∀ args w,(callFunc 63 args).run Tryz.prog w=.ok (.enter 63 args) w:=Go.Proofs.enters_of Tryz.func63 (by kernel_rfl) rfl
def TS (P:Nat→Prop)(d:ZD)(w:World)(e:Ending)(w':World):Prop:=∃ a c ac cc,e=.returned (.agg #[.string ⟨d.res.name.toArray⟩,.slice a d.params.length c,.int .i64 d.res.base,.slice ac d.res.aC.length cc])∧OV (fun b=>(P b∧b<w.heap.size)∨w.heap.size≤b) w' (.slice a d.params.length c) (.slice ac d.res.aC.length cc) d.params d.res.aC∧Below w.heap.size w w'
theorem OW {P:Nat→Prop}{w:World}{v:Value}{ks:List PZ}(h:RowK (ZK YA) P w v ks):∃ l:List (PZ × (Value × Value)),l.map Prod.fst=ks∧nV P w v 8 ks.length ((ZK YA).flat l)∧(∀ u∈(ZK YA).flat l,u.oneCell'=true)∧∀ p∈l,nL YA P w p.2.1 p.2.2 p.1:=by
 obtain⟨l,h1,h2,h3⟩:=h;refine⟨l,h1,h2,fun u hu=>?_,h3⟩;obtain⟨⟨e,m,k⟩,hp,hq⟩:=List.mem_flatMap.1 hu;have he:nL YA P w m k e:=h3 _ hp;obtain⟨am,wn,cm,ae,ce,rfl,rfl⟩:=he.slX;simp only[ZK,YA,List.mem_cons,List.not_mem_nil,or_false] at hq
 rcases hq with rfl|rfl|rfl|rfl|rfl|rfl|rfl|rfl<;>rfl
theorem Gj {P Q R:Nat→Prop}{w w':World}{v':Value}{ks:List PZ}{l:List (PZ × (Value × Value))}(h1:l.map Prod.fst=ks)(h2:nV Q w' v' 8 ks.length ((ZK YA).flat l))(h3:∀ p∈l,nL YA P w p.2.1 p.2.2 p.1)(hA:aW P w w')(hQ:∀ b,Q b→b<w'.heap.size→R b)(hP:∀ b,P b→b<w.heap.size→R b):RowK (ZK YA) R w' v' ks :=
 ⟨l,h1,h2.imp hQ,fun p hp=>((h3 p hp).imp (Q:=fun b=>P b∧R b) fun b hb hl=>⟨hb,hP b hb hl⟩).frame ⟨hA.1,fun b hb hl=>hA.2 b hb.1 hl⟩ |>.imp fun b hb _=>hb.2⟩
theorem Gl {P:Nat→Prop}{w:World}{b:Nat}(v0 v1 v2 v3:Value)(h:∀ k,P k→k≠b):aW P w (uY w b v0 v1 v2 v3) :=
 (((aW.set (a:=⟨b,0,none⟩) v0 h).trans (aW.set (a:=⟨b,1,none⟩) v1 h)).trans (aW.set (a:=⟨b,2,none⟩) v2 h)).trans (aW.set (a:=⟨b,3,none⟩) v3 h)
theorem Wn (P:Nat→Prop)(d:ZD)(ap:Option Addr)(cp:Nat)(ac:Option Addr)(cc:Nat)(am:Option Addr)(wn cm:Nat)(ae:Option Addr)(ce:Nat)(w:World)(hfit:d.tV)
  (hP:RowK ZFK P w (.slice ap d.params.length cp) d.params) (hC:RowK (ZK YA) P w (.slice ac d.res.aC.length cc) d.res.aC) :
  Calls Tryz.prog 32 #[.agg (jB d ap cp ac cc am wn cm ae ce)] w (TS P d w):=by
 have hal:=(aB w (.cells (jB d ap cp ac cc am wn cm ae ce) 66)).alloc (by simp) (.cells #[.string ⟨#[]⟩,.slice none 0 0,.int .i64 0,.slice none 0 0] 53);have g0:=(gY (w.alloc (.cells (jB d ap cp ac cc am wn cm ae ce) 66)) (.cells #[.string ⟨#[]⟩,.slice none 0 0,.int .i64 0,.slice none 0 0] 53) w.heap.size (by simp)).trans (aY w (.cells (jB d ap cp ac cc am wn cm ae ce) 66));have g1:=aY (w.alloc (.cells (jB d ap cp ac cc am wn cm ae ce) 66)) (.cells #[.string ⟨#[]⟩,.slice none 0 0,.int .i64 0,.slice none 0 0] 53);rw[oP] at g1;obtain⟨ae',ce',hv,_,hform⟩:=hP.form;simp only[Value.slice.injEq] at hv;obtain⟨rfl,-,rfl⟩:=hv;have hPR:=hP;obtain⟨lc,hlc,hcs1,hcs2,aft⟩:=OW hC
 obtain⟨cs,adL⟩:∃ cs,cs=(ZK YA).flat lc:=⟨_,rfl⟩
 rw[← adL] at hcs1 hcs2;have HCS:=ay (And.intro hlc (And.intro adL aft));have hpn:=hfit.lg;have hcn:=hfit.cl.1;have AU:=ay (fun W (hW:Below w.heap.size w W)=>FE P _ _ cs W (hcs1.frame (aW.of hW)) hcs2 (by omega));have HF:=ay hform;have FC:=ay hfit;clear hform hP hC hfit hcs1 hcs2 aft hlc adL hPR;go_enter Tryz.func32,Tryz.ntmps32
 go_upto_region 1 with fail
 change Code.wp _ _ _ _ ((w.alloc (.cells (jB d ap cp ac cc am wn cm ae ce) 66)).alloc (.cells #[.string ⟨#[]⟩,.slice none 0 0,.int .i64 0,.slice none 0 0] 53));generalize (w.alloc (.cells (jB d ap cp ac cc am wn cm ae ce) 66)).alloc (.cells #[.string ⟨#[]⟩,.slice none 0 0,.int .i64 0,.slice none 0 0] 53)=w1 at *;have hz1:=hal.size;have hl1:=(bS g1).1;obtain⟨y0,y1,y2,y3,y4,y5,y6,y7,y8,y9,rA,rC,rD,y13,VN⟩:=bB g0;have HG:=ay (And.intro g0 g1)
 have hn1:w.heap.size≠w1.heap.size:=by omega
 clear g0 g1
 go_cut [3] (fun p wc=>∃ (Y:Nat) (a3:Option Addr) (c3:Nat),p=.pointer (some ⟨Y,0,none⟩)∧wc.heap[Y]?=some (.cells #[.string ⟨d.res.name.toArray⟩,.slice none 0 0,.int .i64 d.res.base,.slice a3 d.res.aC.length c3] 53 (0,0))∧w1.heap.size≤Y∧Below w1.heap.size w1 wc∧nV (fun b=>w1.heap.size≤b∧b≠Y) wc (.slice a3 d.res.aC.length c3) 8 d.res.aC.length cs)
 case first =>
  go_region_held3 (fun W=>W.cell? ⟨w.heap.size,1,none⟩=some (.string ⟨d.res.name.toArray⟩)∧W.cell? ⟨w.heap.size,3,none⟩=some (.int .i64 d.res.base)∧W.cell? ⟨w.heap.size,4,none⟩=some (.slice ac d.res.aC.length cc))
   (first|(with_reducible exact p3)|(with_reducible exact And.intro ((mh w2 w1.heap.size w.heap.size 1 _ _ _ _ hn1).trans p3.1) (And.intro ((mh w2 w1.heap.size w.heap.size 3 _ _ _ _ hn1).trans p3.2.1) ((mh w2 w1.heap.size w.heap.size 4 _ _ _ _ hn1).trans p3.2.2)))|(go_keep;done))
   (first|(go_at_call 63;refine(AU.out _ ?_).mono ?_;(first|exact hal.drew|exact(hal.alloc hz1 _).drew);rintro e w2 ⟨a3,c3,rfl,hsl2,hb2⟩;have hq2:Below w1.heap.size w1 w2:=(by first|exact(bI _ _).drew.trans hb2|exact((bI _ _).alloc (bD _) _).drew.trans (hb2.mono (by simp)));have p3:=And.intro (iW hq2 y1) (And.intro (iW hq2 y3) (iW hq2 y4));try (have hT:=(hb2.block w1.heap.size (by simp)).trans (aY w1 (.cells #[.string ⟨#[]⟩,.slice none 0 0,.int .i64 0,.slice none 0 0] 53));obtain⟨⟨t0,t1,t2,t3⟩,g0,g1,g2,g3⟩:=qH hT)))
  ·clear p3
   go_wp2_with fail
   go_meet
   exact⟨w2.heap.size,a3,c3,rfl,aY w2 _,hq2.size,hq2.alloc hq2.size _,((hsl2.imp (Q:=fun b=>w1.heap.size≤b∧b≠w2.heap.size) fun b hb hl=>⟨hb,by omega⟩).frame (aW.of (aB w2 _)))⟩
  ·clear p3
   go_wp2_with fail
   go_meet
   exact⟨w1.heap.size,a3,c3,rfl,lW hT (.string ⟨d.res.name.toArray⟩) (.slice none 0 0) (.int .i64 d.res.base) (.slice a3 d.res.aC.length c3),bD _,jH hq2 (bD _) (.string ⟨d.res.name.toArray⟩) (.slice none 0 0) (.int .i64 d.res.base) (.slice a3 d.res.aC.length c3),((hsl2.imp (Q:=fun b=>w1.heap.size≤b∧b≠w1.heap.size) fun b hb hl=>by have h9:w1.heap.size+1≤b:=(by simpa using hb);omega).frame (Gl _ _ _ _ fun k hk=>hk.2))⟩
 case rest =>
  obtain⟨Y,a3,c3,rfl,hY,hYw,hqc,hsl⟩:=hcut
  obtain⟨w2,rfl⟩:∃ w2:World,w2=wc:=⟨_,rfl⟩
  clear y0 y1 y2 y3 y4 y5 y6 y7 y8 y9 rA rC rD y13 VN;have gd2:=(hqc.block _ (by omega)).trans HG.out.1;have gr2:=(hqc.block _ hl1).trans HG.out.2;have hzc:=hqc.size;have agK:=(bS hY).1;have lF:=hal.trans (hqc.mono hz1);obtain⟨y0,y1,y2,y3,y4,y5,y6,y7,y8,y9,rA,rC,rD,y13,VN⟩:=bB gd2;have WX:=ay gr2;have HY2:=ay hY;obtain⟨i0,hi,hz0,hz1',hz2⟩:=info_parts Tryz.ZO;clear gd2 gr2 hY HG;generalize hps:d.params=ps at *;generalize hrn:d.res.name=rn at *;generalize hrb:d.res.base=rb at *;generalize hrl:d.res.aC.length=rl at *;have HRN:=ay (And.intro hrn (And.intro hrb hrl));have HSL:=ay hsl;have agL:Y<w2.heap.size:=agK;clear hsl;clear hrn hrb hrl;go_wp2;clear y0 y1 y2 y3 y4 y5 y6 y7 y8 y9 rA rC rD y13 VN
  go_loopw [5,17] (fun _ q wr=>∃ (k:Nat) (ak:Option Addr) (ck:Nat),k≤ps.length∧q=.int .i64 k∧wr.heap[Y]?=some (.cells #[.string ⟨rn.toArray⟩,.slice ak k ck,.int .i64 rb,.slice a3 rl c3] 53 (0,0))∧oJ OU (fun b=>(P b∧b<w.heap.size)∨w2.heap.size≤b) w2.heap.size 98 wr (.slice ak k ck) (ps.take k)∧wr.heap[w.heap.size+1]?=some (.cells #[.string ⟨#[]⟩,.slice none 0 0,.int .i64 0,.slice none 0 0] 53 (0,0))∧Below w.heap.size w wr∧aW (fun b=>b<w2.heap.size∧b≠Y) w2 wr) (fun _ q _=>ps.length - (intOf q).toNat)
  case atStart=>exact⟨0,none,0,lI _,rfl,HY2.out,by rw[List.take_zero];exact oJ.nil _ _ _ _ _,WX.out,lF,aW.refl _ _⟩
  case round =>
   obtain⟨k,ak,ck,hk,rfl,hYr,acE,hgr,hbl,fF⟩:=hrel;have agM:=fF.1;have ahQ:w1.heap.size≤wr.heap.size:=jc hzc agM;have HQ:=ay acE;obtain⟨KY,hr1,hown,hes⟩:=acE
   have hlk:(ps.take k).length=k:=by rw[qZ,Nat.min_eq_left hk]
   rw[hlk] at hown;have hown:wr.ownsRow w2.heap.size 98 3 (.slice ak k ck) k (OU.flat KY):=hown;have HES:=ay (And.intro hr1 (And.intro hes (And.intro hlk fF)));generalize hxs:OU.flat KY=xs at hown;have HXS:=ay hxs;clear hes hr1 hlk fF hxs;have Fv:=hbl.size;have hYl:=(bS hYr).1;have hgl:=(bS hgr).1;have HYR:=ay hYr;have HO:=ay hown;have HOW:=HO;have ZR:=ay hgr;clear hYr hown hgr
   by_cases hlt:k<ps.length
   ·obtain⟨b,off,rfl,hPb,hbw,kL⟩:=HF.out (by omega)
    obtain⟨cv,hcl,hc⟩:=kL k hlt;obtain⟨a2,c2,rfl⟩:=RowK.slice hcl;obtain⟨l2,hl2,hs1,hs2,hs3⟩:=OW hcl
    obtain⟨cs2,ZT⟩:∃ cs2,cs2=(ZK YA).flat l2:=⟨_,rfl⟩
    rw[← ZT] at hs1 hs2;have htk:=Dg hlt;have HL2:=ay (And.intro hl2 (And.intro ZT (And.intro hs3 htk)));clear hl2 ZT hs3 htk;have hpf:=FC.out.pcl _ (by rw[hps];exact mX hlt);have x0:=(hbl.cell (p:=⟨b,off+k * 5+0,none⟩) hbw).trans (hc 0 _ rfl);have x1:=(hbl.cell (p:=⟨b,off+k * 5+1,none⟩) hbw).trans (hc 1 _ rfl);have x2:=(hbl.cell (p:=⟨b,off+k * 5+2,none⟩) hbw).trans (hc 2 _ rfl);have x3:=(hbl.cell (p:=⟨b,off+k * 5+3,none⟩) hbw).trans (hc 3 _ rfl);have x4:=(hbl.cell (p:=⟨b,off+k * 5+4,none⟩) hbw).trans (hc 4 _ rfl);rw[Nat.add_zero] at x0;simp only[dJ] at x0;have hpc:=hpf.1;clear kL hcl hc hpf;generalize ps[k]=p at *;have gW:=aB wr (.cells #[.string ⟨p.name.toArray⟩,.int .i64 p.base,.slice a2 p.aC.length c2,.int .i64 p.at_,.int .i64 p.bare] 68);have gk:=aY wr (.cells #[.string ⟨p.name.toArray⟩,.int .i64 p.base,.slice a2 p.aC.length c2,.int .i64 p.at_,.int .i64 p.bare] 68)
    have pR:(k:Int)<(ps.length:Int):=by omega
    go_upto_region 5 with fail
    change Code.wp _ _ _ _ (wr.alloc (.cells #[.string ⟨p.name.toArray⟩,.int .i64 p.base,.slice a2 p.aC.length c2,.int .i64 p.at_,.int .i64 p.bare] 68));clear x0 x1 x2 x3 x4
    have agN:wr.heap.size<(wr.alloc (.cells #[.string ⟨p.name.toArray⟩,.int .i64 p.base,.slice a2 p.aC.length c2,.int .i64 p.at_,.int .i64 p.bare] 68)).heap.size:=by simp
    generalize wr.alloc (.cells #[.string ⟨p.name.toArray⟩,.int .i64 p.base,.slice a2 p.aC.length c2,.int .i64 p.at_,.int .i64 p.bare] 68)=w3 at *;have hz3:=gW.size;have HCK:=ay (fun W (hW:Below w3.heap.size w3 W)=>FE P _ _ cs2 W (hs1.frame (aW.of (hbl.trans ((gW.trans (hW.mono hz3)).mono Fv)))) hs2 (by omega));have HY3:=ay ((gW.block Y hYl).trans HYR.out);have HO3:=ay (own_below HO.out gW);have HG3:=ay ((gW.block _ hgl).trans ZR.out);have HGK:=ay gk
    have HS:Hid (∀ W,aW (fun b=>b=wr.heap.size) w3 W→(W.cell? ⟨wr.heap.size,0,none⟩=some (.string ⟨p.name.toArray⟩)∧W.cell? ⟨wr.heap.size,1,none⟩=some (.int .i64 p.base)∧W.cell? ⟨wr.heap.size,2,none⟩=some (.slice a2 p.aC.length c2))):=ay fun W hW=>by
     obtain⟨q0,q1,q2,_,_⟩:=dX ((hW.2 _ rfl agN).trans HGK.out);exact⟨q0,q1,q2⟩
    have agO:some wr.heap.size≠(Value.slice ak k ck).ownBlock:=own_ne HO3.out HGK.out (by decide);have HC:=ay (HCK.out w3.drew (bI _ _).drew);have agP:=Tryz.ZQ;have p3:=HS.out w3.drew (aW.of (bI _ _).drew);obtain⟨t0,t1,t2,t3⟩:=(qH HY3.out).1
    have adr:Y<w3.heap.size:=by omega
    have agQ:w.heap.size+1<w3.heap.size:=by omega
    have hne:wr.heap.size≠Y:=by omega
    clear gk hs1 HYR HO ZR HCK;refine wp_region_held_drew (S:=(fun W=>W.cell? ⟨wr.heap.size,0,none⟩=some (.string ⟨p.name.toArray⟩)∧W.cell? ⟨wr.heap.size,1,none⟩=some (.int .i64 p.base)∧W.cell? ⟨wr.heap.size,2,none⟩=some (.slice a2 p.aC.length c2))) (by kernel_rfl) p3 (fun hHeld=>?_);refine wpAnyH_take (i:=0) (oi:=⟨some 21,_,_,_,_,_⟩) (v:=?_) rfl (by kernel_rfl) (by kernel_rfl) (by kernel_rfl) (fun _ _ _ h=>h) (Or.inl ⟨by rfl,?_⟩) hHeld ?_
    rotate_left
    ·intro w hSw;(try dsimp only at hSw);go_simp;try (with_reducible rfl)
    simp only[Act.put,List.setIfInBounds_toArray,List.set_cons_zero,List.set_cons_succ];refine wpAnyH_take (i:=2) (oi:=⟨some 23,_,_,_,_,_⟩) (v:=?_) rfl (by kernel_rfl) (by kernel_rfl) (by kernel_rfl) (fun _ _ _ h=>h) (Or.inl ⟨by rfl,?_⟩) hHeld ?_
    rotate_left
    ·intro w hSw;(try dsimp only at hSw);go_simp;try (with_reducible rfl)
    simp only[Act.put,List.setIfInBounds_toArray,List.set_cons_zero,List.set_cons_succ];refine wpAnyH_take (i:=3) (oi:=⟨some 24,_,_,_,_,_⟩) (v:=?_) rfl (by kernel_rfl) (by kernel_rfl) (by kernel_rfl) (fun _ _ _ h=>h) (Or.inl ⟨by rfl,?_⟩) hHeld ?_
    rotate_left
    ·intro w hSw;(try dsimp only at hSw);go_simp;try (with_reducible rfl)
    simp only[Act.put,List.setIfInBounds_toArray,List.set_cons_zero,List.set_cons_succ];refine wpAnyH_take (i:=4) (oi:=⟨some 25,_,_,_,_,_⟩) (v:=?_) rfl (by kernel_rfl) (by kernel_rfl) (by kernel_rfl) (fun _ _ _ h=>h) (Or.inl ⟨by rfl,?_⟩) hHeld ?_
    rotate_left
    ·intro w hSw;(try dsimp only at hSw);go_simp;try (with_reducible rfl)
    simp only[Act.put,List.setIfInBounds_toArray,List.set_cons_zero,List.set_cons_succ];refine wpAnyH_take (i:=5) (oi:=⟨some 26,_,_,_,_,_⟩) (v:=?_) rfl (by kernel_rfl) (by kernel_rfl) (by kernel_rfl) (fun _ _ _ h=>h) (Or.inl ⟨by rfl,?_⟩) hHeld ?_
    rotate_left
    ·intro w hSw;(try dsimp only at hSw);go_simp;try (with_reducible rfl)
    simp only[Act.put,List.setIfInBounds_toArray,List.set_cons_zero,List.set_cons_succ];refine wpAnyH_take (i:=6) (oi:=⟨some 27,_,_,_,_,_⟩) (v:=?_) rfl (by kernel_rfl) (by kernel_rfl) (by kernel_rfl) (fun _ _ _ h=>h) (Or.inl ⟨by rfl,?_⟩) hHeld ?_
    rotate_left
    ·intro w hSw;(try dsimp only at hSw);go_simp;try (with_reducible rfl)
    simp only[Act.put,List.setIfInBounds_toArray,List.set_cons_zero,List.set_cons_succ];refine wpAnyH_take (i:=7) (oi:=⟨some 28,_,_,_,_,_⟩) (v:=?_) rfl (by kernel_rfl) (by kernel_rfl) (by kernel_rfl) (fun _ _ _ h=>h) (Or.inl ⟨by rfl,?_⟩) hHeld ?_
    rotate_left
    ·intro w hSw;(try dsimp only at hSw);go_simp;try (with_reducible rfl)
    simp only[Act.put,List.setIfInBounds_toArray,List.set_cons_zero,List.set_cons_succ];refine wpAnyH_ready (rs:=[1,8]) (by kernel_rfl) (by simp) (AllReadyH.cons (o:=⟨some 22,_,_,_,_,_⟩) rfl (fun K hK=>?_) (AllReadyH.cons (o:=⟨some 29,_,_,_,_,_⟩) rfl (fun K hK=>?_) AllReadyH.nil));go_simp;refine hK.out _ _ (hHeld) (fun hHeld=>?_);clear hK K;refine wpAnyH_ready (rs:=[8]) (by kernel_rfl) (by simp) (AllReadyH.cons (o:=⟨some 29,_,_,_,_,_⟩) rfl (fun K hK=>?_) AllReadyH.nil)
    all_goals
     refine tq rfl 63 _ _ rfl HC.out (by rfl) (agP _ _) ?_;rintro e w5 ⟨a5,c5,rfl,agR,hb5⟩;refine⟨_,rfl,?_⟩;have xE:Below w3.heap.size w3 w5:=(bI w3.heap.size w3).drew.trans hb5;have hY5:=(xE.block Y adr).trans HY3.out;have r52:=(qH hY5).1.2.1;have r53:=fun o=>Lib.cell?_alloc_some o r52;have al5:aW (fun b=>b=wr.heap.size) w3 w5:=aW.of xE;have p3:=HS.out _ al5;have p3a:=fun o=>HS.out (w5.alloc o) (al5.trans (aW.of (aB w5 o)))
     refine hK.out _ _ (p3) (fun hHeld=>?_);clear hK K
    all_goals
     refine wpAnyH_take (i:=9) (oi:=⟨some 30,_,_,_,_,_⟩) (v:=?_) rfl (by kernel_rfl) (by kernel_rfl) (by kernel_rfl) (fun _ _ _ h=>h) (Or.inl ⟨by rfl,?_⟩) hHeld ?_;rotate_left
     ·intro w hSw;(try dsimp only at hSw);go_simp;try (with_reducible rfl)
     simp only[Act.put,List.setIfInBounds_toArray,List.set_cons_zero,List.set_cons_succ]
    rotate_left 1;refine wpAnyH_ready (rs:=[1,10]) (by kernel_rfl) (by simp) (AllReadyH.cons (o:=⟨some 22,_,_,_,_,_⟩) rfl (fun K hK=>?_) (AllReadyH.cons (o:=⟨some 31,_,_,_,_,_⟩) rfl (fun K hK=>?_) AllReadyH.nil));rotate_right 1
    rotate_left 1;go_simp;refine hK.out _ _ (hHeld) (fun hHeld=>?_);clear hK K;refine wpAnyH_ready (rs:=[10]) (by kernel_rfl) (by simp) (AllReadyH.cons (o:=⟨some 31,_,_,_,_,_⟩) rfl (fun K hK=>?_) AllReadyH.nil);rotate_right 1
    refine wpAnyH_ready (rs:=[10]) (by kernel_rfl) (by simp) (AllReadyH.cons (o:=⟨some 31,_,_,_,_,_⟩) rfl (fun K hK=>?_) AllReadyH.nil)
    all_goals
     go_simp;refine hK.out _ _ (p3a _) (fun hHeld=>?_);clear hK K
    rotate_left 2;refine wpAnyH_ready (rs:=[1]) (by kernel_rfl) (by simp) (AllReadyH.cons (o:=⟨some 22,_,_,_,_,_⟩) rfl (fun K hK=>?_) AllReadyH.nil);go_simp;refine hK.out _ _ (hHeld) (fun hHeld=>?_);clear hK K;rotate_right 2
    all_goals refine wpAnyH_ready (rs:=[11]) (by kernel_rfl) (by simp) (AllReadyH.cons (o:=⟨some 32,_,_,_,_,_⟩) rfl (fun K hK=>?_) AllReadyH.nil)
    all_goals
     refine step_append_lies _ (by rfl) _ _ _ (by rfl) w2.heap.size 98 i0 _ 3 48 Tryz.underlying50 hi hz0 hz1' hz2 rfl (by omega) (.slice ak k ck) k _ (by rfl) ((own_below HO3.out xE).alloc _) ⟨w5.heap.size,0,none⟩ 1 1 [.string ⟨p.name.toArray⟩,.int .i64 p.base,.slice a5 p.aC.length c5] (by rfl) (by rfl) (vv (cs:=#[.string ⟨p.name.toArray⟩,.int .i64 p.base,.slice a5 p.aC.length c5]) (t:=98) (fr:=(0,0)) (aY w5 _)) (by simp[Value.oneCell']) (by omega) (by unfold maxLen;omega) (by omega) (by have:=xE.size;simp;omega) (w5.heap.size+1) (by simp) ?_;intro gg cap6 w6 hown6 nI X3 X4;have hY6:=iI ((own_below HO3.out xE).alloc _) nI ((gY w5 _ Y (by have:=xE.size;omega)).trans hY5) (by decide);have hG6:=iI ((own_below HO3.out xE).alloc _) nI ((gY w5 _ _ (by have:=xE.size;omega)).trans ((xE.block _ agQ).trans HG3.out)) (by decide);have r65:=(qH hY6).1.2.1;have z65:=(qH hY6).2.2.1;have al6:=(al5.trans (aW.of (aB w5 _))).trans (aW.grown nI fun b hb q=>agO (by rw[← hb];exact q));have p3:=HS.out _ al6;have p3a:=fun v=>HS.out (w6.setCell ⟨Y,1,none⟩ v) (al6.trans (aW.set v fun b hb=>by rw[hb];exact hne))
     refine hK.out _ _ (p3) (fun hHeld=>?_);clear hK K
    all_goals
     refine wpAnyH_take (i:=12) (oi:=⟨some 33,_,_,_,_,_⟩) (v:=?_) rfl (by kernel_rfl) (by kernel_rfl) (by kernel_rfl) (fun _ _ _ h=>h) (Or.inl ⟨by rfl,?_⟩) hHeld ?_;rotate_left
     ·intro w hSw;(try dsimp only at hSw);go_simp;try (with_reducible rfl)
     simp only[Act.put,List.setIfInBounds_toArray,List.set_cons_zero,List.set_cons_succ]
    all_goals refine wpAnyH_ready (rs:=[13]) (by kernel_rfl) (by simp) (AllReadyH.cons (o:=⟨none,_,_,_,_,_⟩) rfl (fun K hK=>?_) AllReadyH.nil)
    all_goals
     go_simp;refine hK.out _ _ (p3a _) (fun hHeld=>?_);clear hK K
    all_goals refine wpAnyH_done (by kernel_rfl) ?_ _
    all_goals
     have hx5:RowK (ZK YA) (fun b=>((P b∧b<w.heap.size)∨w2.heap.size≤b)∧some b≠(Value.slice ak k ck).ownBlock) w5 (.slice a5 p.aC.length c5) p.aC :=
      Gj HL2.out.1 (by rw[← HL2.out.2.1];exact agR) HL2.out.2.2.1 (aW.of ((hbl.trans ((gW.trans (xE.mono hz3)).mono Fv)))) (fun b hb _=>⟨.inr (by have h9:w3.heap.size≤b:=hb;omega),fun q=>by have h8:=(HO3.out.lt b q.symm).2;have h9:w3.heap.size≤b:=hb;omega⟩) (fun b hb hl=>⟨.inl ⟨hb,hl⟩,fun q=>by have h8:=(HO3.out.lt b q.symm).1;omega⟩)
     obtain⟨q1,q2,q3⟩:=oJ.round (K:=OU) (Q:=fun b=>(P b∧b<w.heap.size)∨w2.heap.size≤b) (wr:=wr) (kv:=.slice ak k ck) (UU:=.slice (some ⟨gg,0,none⟩) (k+1) cap6) (acc:=ps.take k) (a:=p) (x:=.slice a5 p.aC.length c5) (l:=KY) HES.out.2.2.2 agL (fun q=>by rcases q with q|q<;>omega) HES.out.1 (by rw[HES.out.2.2.1];rw[← HXS.out] at HOW;exact HOW.out) HES.out.2.1 hx5 (gW.trans (xE.mono hz3)) (by rw[HES.out.2.2.1,HXS.out];exact hown6) nI rfl X3 1 (.slice (some ⟨gg,0,none⟩) (k+1) cap6);rw[← HL2.out.2.2.2] at q1;have HE:=ay (And.intro (heap_setCell_same w6 Y 1 _ _ (.slice (some ⟨gg,0,none⟩) (k+1) cap6) hY6) (And.intro q1 (And.intro ((heap_setCell_other w6 ⟨Y,1,none⟩ (w.heap.size+1) (.slice (some ⟨gg,0,none⟩) (k+1) cap6) (by show w.heap.size+1≠Y;omega)).trans hG6) (And.intro (q3 w.heap.size w (by omega) hbl) q2))));clear q1 q2 q3 hx5;clear p3 p3a al6 al5 r65 z65 r52 r53 hY6 hG6 nI hown6 X3 X4 hY5 hb5 t0 t1 t2 t3 hHeld;go_wp2_with fail
     go_roundw
     case rel=>exact⟨k+1,some ⟨gg,0,none⟩,cap6,by omega,by go_num,HE.out.1,HE.out.2.1,HE.out.2.2.1,HE.out.2.2.2.1,HE.out.2.2.2.2⟩
     case measure=>simp[intOf];omega
   ·obtain rfl:k=ps.length:=by omega
    have pR:decide ((ps.length:Int)<(ps.length:Int))=false:=dA (by omega);obtain⟨⟨t0,t1,t2,t3⟩,-⟩:=qH HYR.out;obtain⟨⟨c0,c1,c2,c3'⟩,f0,f1,f2,f3⟩:=qH ZR.out;have hP:=lW ZR.out (.string ⟨rn.toArray⟩) (.slice ak ps.length ck) (.int .i64 rb) (.slice a3 rl c3);have UC:=jH hbl (by omega:w.heap.size≤w.heap.size+1) (.string ⟨rn.toArray⟩) (.slice ak ps.length ck) (.int .i64 rb) (.slice a3 rl c3)
    have hSG:OV (fun b=>(P b∧b<w.heap.size)∨w.heap.size≤b) (uY wr (w.heap.size+1) (.string ⟨rn.toArray⟩) (.slice ak ps.length ck) (.int .i64 rb) (.slice a3 rl c3)) (.slice ak ps.length ck) (.slice a3 rl c3) ps d.res.aC:=by
     have h7:=HQ.out;rw[List.take_length] at h7;refine⟨((h7.row (R:=fun b=>(P b∧b<w.heap.size)∨w2.heap.size≤b) (fun _ q=>.inr q) (fun _ q _=>q)).frame (Gl _ _ _ _ fun k hk=>by rcases hk with hk|hk<;>omega)).imp fun b hb _=>by rcases hb with hb|hb;exact .inl hb;exact .inr (by omega),?_⟩
     have h81:nV (fun b=>(w1.heap.size≤b∧b≠Y)∧(b<w2.heap.size∧b≠Y)) w2 (.slice a3 rl c3) 8 rl cs:=HSL.out.imp fun b hb hl=>⟨hb,hl,hb.2⟩
     have h82:=h81.frame (w':=wr) ⟨HES.out.2.2.2.1,fun b hb hl=>HES.out.2.2.2.2 b hb.2 hl⟩
     have h8:nV (fun b=>w1.heap.size≤b∧b≠Y) wr (.slice a3 rl c3) 8 rl cs:=h82.imp fun b hb _=>hb.1
     have h9:RowK (ZK YA) (fun b=>(P b∧b<w.heap.size)∨w1.heap.size≤b) wr (.slice a3 rl c3) d.res.aC:=Gj (Q:=fun b=>w1.heap.size≤b∧b≠Y) HCS.out.1 (by rw[← HCS.out.2.1,HRN.out.2.2];exact h8) HCS.out.2.2 (aW.of hbl) (fun b hb _=>.inr hb.1) (fun b hb hl=>.inl ⟨hb,hl⟩)
     exact(h9.frame (Gl _ _ _ _ fun k hk=>by rcases hk with hk|hk<;>omega)).imp fun b hb _=>by rcases hb with hb|hb;exact .inl hb;exact .inr (by omega)
    have HSG:=ay hSG;clear hSG;have HP:=ay hP;have HB:=ay UC;clear hP UC HYR ZR HO;go_wp2;change bodyPost _ _ _ _ _ (uY wr (w.heap.size+1) (.string ⟨rn.toArray⟩) (.slice ak ps.length ck) (.int .i64 rb) (.slice a3 rl c3));generalize uY wr _ _ _ _ _=w4 at *;obtain⟨⟨d0,d1,d2,d3⟩,-⟩:=qH HP.out;exact bodyPost_ret (v:=.agg #[.string ⟨rn.toArray⟩,.slice ak ps.length ck,.int .i64 rb,.slice a3 rl c3]) (by simp[results,Tryz.results32,go_sem,d0,d1,d2,d3]) rfl ⟨ak,ck,a3,c3,by rw[HRN.out.1,HRN.out.2.1,HRN.out.2.2,hps],by rw[hps,HRN.out.2.2];exact HSG.out,HB.out⟩
theorem Ak (l:List ZD)(d:ZD)(nm:List UInt8):gQ (l++[d]) nm=(gQ l nm).or (if d.res.name=nm then some d.params.length else none):=by
 unfold gQ;rw[List.find?_append]
 cases l.find? fun d=>decide (d.res.name=nm) with
 | some x=>rfl
 | none =>
  rw[Option.none_or,List.find?_cons,List.find?_nil]
  by_cases h:d.res.name=nm
  ·rw[iX h,if_pos h];rfl
  ·rw[dA h,if_neg h];rfl
theorem La {l:List ZD}{nm:List UInt8}(h:nm ∉ l.map (fun d=>d.res.name)):gQ l nm=none:=by
 unfold gQ;rw[List.find?_eq_none.2 fun d hd=>by simpa using fun q=>h (by rw[← q];exact List.mem_map_of_mem hd)]
 rfl
theorem Lb {l:List ZD}{nm:List UInt8}(h:nm∈l.map (fun d=>d.res.name)):(gQ l nm).isSome=true:=by
 obtain⟨d,hd,rfl⟩:=List.mem_map.1 h;unfold gQ;rw[Option.isSome_map,List.find?_isSome];exact⟨d,hd,by simp⟩
structure nO (ml:ML) (l:List ZD):Prop where
 ar:∀ nm,adp (sK ml nm) (gQ l nm)
 has:∀ nm,rE ml nm=decide (nm∈l.map fun d=>d.res.name)
theorem nO.nil:nO [] []:=⟨fun _=>trivial,fun _=>rfl⟩
theorem nO.same {ml:ML}{l:List ZD}{d:ZD}(h:nO ml l)(hd:rE ml d.res.name=true):nO ml (l++[d]):=by
 have hm:d.res.name∈l.map fun d=>d.res.name:=by
  have:=h.has d.res.name;rw[hd] at this;exact of_decide_eq_true this.symm
 refine⟨fun nm=>?_,fun nm=>?_⟩
 ·rw[Ak]
  by_cases q:d.res.name=nm
  ·have:=Lb hm
   rw[← q];obtain⟨n,hn⟩:=Option.isSome_iff_exists.1 this;rw[hn,Option.some_or,← hn];exact h.ar _
  ·rw[if_neg q,Option.or_none]
   exact h.ar nm
 ·rw[h.has,List.map_append]
  apply decide_eq_decide.2
  rw[List.mem_append]
  constructor
  ·exact .inl
  ·rintro(q|q)
   ·exact q
   ·obtain rfl:nm=d.res.name:=by simpa using q
    exact hm
theorem nO.ins {ml:ML}{l:List ZD}{d:ZD}(h:nO ml l)(hd:rE ml d.res.name=false)(s b u:Value)(a:Option Addr)(c:Nat):nO (sj ml d.res.name [s,.slice a d.params.length c,b,u]) (l++[d]):=by
 have hm:d.res.name ∉ l.map fun d=>d.res.name:=by
  have:=h.has d.res.name;rw[hd] at this;exact of_decide_eq_false this.symm
 have hg:∀ nm,sK (sj ml d.res.name [s,.slice a d.params.length c,b,u]) nm=if nm=d.res.name then some [s,.slice a d.params.length c,b,u] else sK ml nm:=Xc _ hd
 refine⟨fun nm=>?_,fun nm=>?_⟩
 ·rw[hg,Ak]
  by_cases q:nm=d.res.name
  ·subst q
   rw[if_pos rfl,if_pos rfl,La hm,Option.none_or];exact⟨s,a,c,b,u,rfl⟩
  ·rw[if_neg q,if_neg (fun e=>q e.symm),Option.or_none]
   exact h.ar nm
 ·rw[← yY,hg,List.map_append]
  by_cases q:nm=d.res.name
  ·subst q
   rw[if_pos rfl];exact(iX (List.mem_append_right _ (by simp))).symm
  ·rw[if_neg q,yY,h.has]
   apply decide_eq_decide.2
   rw[List.mem_append]
   constructor
   ·exact .inl
   ·rintro(e|e)
    ·exact e
    ·exact absurd (by simpa using e) q
theorem ZU {l:ML}(hw:BX 4 l)(x:List UInt8):∃ v0 v1 v2 v3:Value,(∀ W e w',AX l x W e w'→e=.returned (.tuple #[.agg #[v0,v1,v2,v3],.bool (rE l x)])∧Below W.heap.size W w')∧∀ u∈[v0,v1,v2,v3],u.oneCell'=true:=by
 rw[← yY]
 cases hg:sK l x with
 | none =>
  refine⟨.string ⟨#[]⟩,.slice none 0 0,.int .i64 0,.slice none 0 0,fun W e w' q=>?_,by simp[Value.oneCell']⟩;unfold AX at q;rw[hg] at q;exact q
 | some vs =>
  have hp:∃ p∈l,p.2=vs:=by
   unfold sK at hg;obtain⟨p,hp,hq⟩:=Option.map_eq_some_iff.1 hg;exact⟨p,List.mem_of_find?_eq_some hp,hq⟩
  obtain⟨p,hp,rfl⟩:=hp;obtain⟨a,b,c,d,he⟩:=abo (hw.wid p hp);refine⟨a,b,c,d,fun W e w' q=>?_,by rw[← he];exact hw.one p hp⟩;unfold AX at q;rw[hg,he] at q;exact q
theorem RZ (w:World):Calls Tryz.prog 46 #[] w fun e w'=>e=.returned (.pointer (some ⟨w.heap.size,0,none⟩))∧w'=w.alloc (.cells #[.slice none 0 0] 161):=by
 go_enter Tryz.func46,Tryz.ntmps46;go_wp2;go_ret;exact⟨rfl,rfl⟩
def Lc (f:Fl)(w:World)(e:Ending)(w':World):Prop:=e=.returned (.agg #[.int .i64 (flE f),.int .i64 (flA f)])∧Below w.heap.size w w'
def ZP.check (p:ZP)(own:List UInt8)(ms:List (List UInt8)):Fl:=if (p.right && (bf own && Ae [] ms))=true then p.eO own (fun m=>decide (m∈ms)) (fun _ _=>none) else some (10,0)
theorem nP {w:World}{b:Nat}{u v:Value}(h:w.heap[b]?=some (.cells #[u,v] 71 (0,0))):(w.cell? ⟨b,0,none⟩=some u∧w.cell? ⟨b,1,none⟩=some v)∧w.frozen? ⟨b,0,none⟩=false∧w.frozen? ⟨b,1,none⟩=false:=by
 refine⟨⟨?_,?_⟩,?_,?_⟩
 ·rw[aV h];rfl
 ·rw[aV h];rfl
 ·simp[World.frozen?,h]
 ·simp[World.frozen?,h]
def Wo (w:World)(b:Nat)(v0 v1:Value):World:=(w.setCell ⟨b,0,none⟩ v0).setCell ⟨b,1,none⟩ v1
theorem Gm {B:Nat}{w0 w:World}(h:Below B w0 w){b:Nat}(hb:B≤b)(v0 v1:Value):Below B w0 (Wo w b v0 v1):=(h.setCell hb _).setCell hb _
theorem Gn {w:World}{b:Nat}{c0 c1:Value}{T:TypeId}(h:w.heap[b]?=some (.cells #[c0,c1] T (0,0)))(v0 v1:Value):(Wo w b v0 v1).heap[b]?=some (.cells #[v0,v1] T (0,0)) :=
 heap_setCell_same _ b 1 _ _ v1 (heap_setCell_same w b 0 _ _ v0 h)
theorem Gp:∀ (l:List ZD) (f:Fl) (seen:List (List UInt8)),iH f→iH (jl f seen l)
 | [],f,seen,h=>h
 | d :: l,f,seen,h=>Gp l _ _ (h.or (by split;exact iH.some (by decide);exact iH.none))
structure ZP.tV (p:ZP):Prop where
 fit:p.fit
 text:p.text.length≤1099511627776
 few:p.defs.length≤1000
 defs:∀ d∈p.defs,d.tV
theorem yU (own:List UInt8)(p:ZP)(ai:Option Addr)(ci:Nat)(ad:Option Addr)(cd:Nat)(af:Option Addr)(cf:Nat)(ms:List (List UInt8))(w:World)(hi:p.aG=[])(hfit:p.tV)(hown:own.length≤65536)
  (hD:RowK Py (fun b=>b<w.heap.size) w (.slice ad p.defs.length cd) p.defs) (hF:RowK Tz (fun b=>b<w.heap.size) w (.slice af ms.length cf) ms) (hms:ms.length≤1000∧∀ m∈ms,m.length≤65536) :
  Calls Tryz.prog 21 #[.string ⟨own.toArray⟩,.agg #[.slice ai p.aG.length ci,.slice ad p.defs.length cd],.slice af ms.length cf] w (Lc (p.check own ms) w):=by
 have hal:=(aB w (.cells #[.slice ai p.aG.length ci,.slice ad p.defs.length cd] 26)).alloc (by simp) (.cells #[.int .i64 0,.int .i64 0] 71);have g0:=(gY (w.alloc (.cells #[.slice ai p.aG.length ci,.slice ad p.defs.length cd] 26)) (.cells #[.int .i64 0,.int .i64 0] 71) w.heap.size (by simp)).trans (aY w (.cells #[.slice ai p.aG.length ci,.slice ad p.defs.length cd] 26));have g1:=aY (w.alloc (.cells #[.slice ai p.aG.length ci,.slice ad p.defs.length cd] 26)) (.cells #[.int .i64 0,.int .i64 0] 71);rw[oP] at g1;have HD:=ay hD;have HFC:=ay hF;have FC:=ay hfit;have HMS:=ay hms;have HI:=ay hi;have hdn:=hfit.few;have HIN:=ay (show p.aG.length=0 by rw[hi];rfl);clear hD hF hfit hms hi
 obtain⟨R,hR⟩:∃ R,R=p.check own ms:=⟨_,rfl⟩
 rw[← hR];have HRR:=ay hR;clear hR;go_enter Tryz.func21,Tryz.ntmps21
 go_upto_region 1 with fail
 change Code.wp _ _ _ _ ((w.alloc (.cells #[.slice ai p.aG.length ci,.slice ad p.defs.length cd] 26)).alloc (.cells #[.int .i64 0,.int .i64 0] 71));generalize (w.alloc (.cells #[.slice ai p.aG.length ci,.slice ad p.defs.length cd] 26)).alloc (.cells #[.int .i64 0,.int .i64 0] 71)=w1 at *;have hz1:=hal.size;have hl1:=(bS g1).1;obtain⟨y0,y1⟩:=eZ g0
 have hn0:w.heap.size<w1.heap.size:=by omega
 have HG:=ay (And.intro g0 g1);clear g0 g1
 go_cut [7] (fun q wc=>∃ lb db,q=.pointer (some ⟨lb,0,none⟩)∧l8 ⟨own,.slice ai p.aG.length ci,.slice ad p.defs.length cd,.slice af ms.length cf,db⟩ lb (.slice none 0 0) none wc∧yA w1.heap.size db (.slice none 0 0) [] wc∧Below w1.heap.size w1 wc∧w1.heap.size≤db∧w1.heap.size≤lb∧lb≠db)
 case first =>
  go_region_with (go_at_call 46;refine(RZ _).mono ?_;rintro e w2 ⟨rfl,rfl⟩)
  all_goals
   go_wp2_with fail
   go_meet
   have hA:=aY (w1.alloc (.cells #[.slice none 0 0] 161)) (.cells #[.string ⟨own.toArray⟩,.slice ai p.aG.length ci,.slice ad p.defs.length cd,.slice af ms.length cf,.slice none 0 0,.pointer (some ⟨w1.heap.size,0,none⟩),.int .i64 0,.int .i64 0] 109);rw[oP] at hA;have hB:=(gY (w1.alloc (.cells #[.slice none 0 0] 161)) (.cells #[.string ⟨own.toArray⟩,.slice ai p.aG.length ci,.slice ad p.defs.length cd,.slice af ms.length cf,.slice none 0 0,.pointer (some ⟨w1.heap.size,0,none⟩),.int .i64 0,.int .i64 0] 109) w1.heap.size (by simp)).trans (aY w1 (.cells #[.slice none 0 0] 161));exact⟨w1.heap.size+1,w1.heap.size,rfl,hA,⟨BX.nil 4,hB,World.ownsRow_nil _ _ _ _⟩,((aB w1 (.cells #[.slice none 0 0] 161)).alloc (by simp) (.cells #[.string ⟨own.toArray⟩,.slice ai p.aG.length ci,.slice ad p.defs.length cd,.slice af ms.length cf,.slice none 0 0,.pointer (some ⟨w1.heap.size,0,none⟩),.int .i64 0,.int .i64 0] 109)).drew,bD _,by omega,by omega⟩
 case rest =>
  obtain⟨lb,db,rfl,hL2,hM2,hqc,hdb,hlb,hne⟩:=hcut
  obtain⟨w2,rfl⟩:∃ w2:World,w2=wc:=⟨_,rfl⟩
  clear y0 y1;have hzc:=hqc.size;have lF:=hal.trans (hqc.mono hz1);have ahR:=hL2.lt;have gp2:=(hqc.block _ (by omega)).trans HG.out.1;have gr2:=(hqc.block _ hl1).trans HG.out.2
  have hpr:VT p w.heap.size ai ad w2:=by
   obtain⟨ao,cap,hv,hdz⟩:=VR (bD _) HD.out;simp only[Value.slice.injEq] at hv;obtain⟨rfl,-,rfl⟩:=hv;exact⟨fun h0=>absurd h0 (by have:=HIN.out;omega),hdz.ru lF,lF.size⟩
  have HRT:=ay (RJ own db lb w.heap.size (.slice none 0 0) none p ai ci ad cd af cf ms w2 hL2 FC.out.fit hpr FC.out.text ((RowK.frame HFC.out (aW.of lF)).imp fun _ _ _=>trivial) HMS.out hown);have HL2:=ay hL2;have GR:=ay hM2;have HG2:=ay (And.intro gp2 gr2);obtain⟨⟨r0,r1⟩,rz0,rz1⟩:=nP gr2;obtain⟨y0,y1⟩:=eZ gp2
  obtain⟨rt,hrt⟩:∃ rt,rt=(p.right && (bf own && Ae [] ms)):=⟨_,rfl⟩
  rw[← hrt] at HRT;have HRI:=ay hrt;clear hrt hL2 hM2 gp2 gr2 hpr HG
  cases rt with
  | false =>
   have HE:Hid (R=some (10,0)):=ay (by rw[HRR.out,ZP.check,← HRI.out];rfl);clear HRR
   go_upto_region 3 with (go_at_call 47;refine HRT.out.mono ?_;rintro e w3 ⟨rfl,hb3⟩)
   clear r0 r1 rz0 rz1 y0 y1;have gr3:=(hb3.block _ (by omega)).trans HG2.out.2;obtain⟨⟨r0,r1⟩,rz0,rz1⟩:=nP gr3;have UC:=Gm (lF.trans (hb3.mono lF.size)) (by omega:w.heap.size≤w.heap.size+1) (.int .i64 10) (.int .i64 0);have hP:=Gn gr3 (.int .i64 10) (.int .i64 0);have HP:=ay hP;have HB:=ay UC;clear hP UC gr3;go_wp2;change bodyPost _ _ _ _ _ (Wo w3 (w.heap.size+1) (.int .i64 10) (.int .i64 0));generalize Wo w3 _ _ _=w4 at *;obtain⟨⟨d0,d1⟩,-⟩:=nP HP.out;exact bodyPost_ret (v:=.agg #[.int .i64 10,.int .i64 0]) (by simp[results,Tryz.results21,go_sem,d0,d1]) rfl ⟨by rw[HE.out];rfl,HB.out⟩
  | true =>
   have HE:Hid (R=p.eO own (fun m=>decide (m∈ms)) (fun _ _=>none)):=ay (by rw[HRR.out,ZP.check,← HRI.out];rfl);clear HRR
   go_upto_region 4 with (go_at_call 47;refine HRT.out.mono ?_;rintro e w3 ⟨rfl,hb3⟩)
   clear r0 r1 rz0 rz1 y0 y1;have hz3:=hb3.size;have gp3:=(hb3.block _ (by omega)).trans HG2.out.1;have gr3:=(hb3.block _ (by omega)).trans HG2.out.2;have uZ:=lF.trans (hb3.mono lF.size);have Pz:=ay (HL2.out.below hb3);have HM3:=ay (GR.out.below hb3);have HG3:=ay (And.intro gp3 gr3);obtain⟨y0,y1⟩:=eZ gp3;clear gp3 gr3 HG2 HL2 GR HRT
   have agS:¬ ((0:Int)<(p.aG.length:Int)):=by have:=HIN.out;omega
   go_wp2
   go_loopw [9,29] (fun _ q wr=>q=.int .i64 0∧wr=w3) (fun _ _ _=>0)
   case atStart=>exact⟨rfl,rfl⟩
   case round =>
    obtain⟨rfl,rfl⟩:=hrel;clear y0 y1;obtain⟨y0,y1⟩:=eZ HG3.out.1
    have hL0:∃ ml,nO ml ([]:List ZD)∧ml.length≤0:=⟨[],nO.nil,bD _⟩
    clear hL0
    obtain⟨b0,hb0⟩:∃ n:Nat,n=p.defs.length:=⟨_,rfl⟩
    go_upto_region 10 with fail
    clear y0 y1 agS hb0 b0
    rename ¬ (0<p.aG.length)=>hq0
    clear hq0
    go_loopw [11,12,13,40] (fun _ _ _ q wr=>∃ (k:Nat) (mv:Value) (ml:ML) (f1:Fl),k≤p.defs.length∧q=.int .i64 k∧f1=jl none [] (p.defs.take k)∧l8 ⟨own,.slice ai p.aG.length ci,.slice ad p.defs.length cd,.slice af ms.length cf,db⟩ lb (.slice none 0 0) f1 wr∧yA w1.heap.size db mv ml wr∧ml.length≤k∧nO ml (p.defs.take k)∧wr.heap[w.heap.size]?=some (.cells #[.slice ai p.aG.length ci,.slice ad p.defs.length cd] 26 (0,0))∧wr.heap[w.heap.size+1]?=some (.cells #[.int .i64 0,.int .i64 0] 71 (0,0))∧Below w.heap.size w wr∧w1.heap.size≤wr.heap.size) (fun _ _ _ q _=>p.defs.length - (intOf q).toNat)
    case atStart=>exact⟨0,_,[],none,lI _,rfl,rfl,Pz.out,HM3.out,bD _,nO.nil,HG3.out.1,HG3.out.2,uZ,jc hzc hz3⟩
    case round =>
     obtain⟨k,mv,ml,f1,hk,rfl,hf1,hlr,hmr,hml,hinv,gp,gr,hbl,hw1⟩:=hrel;have Fv:=hbl.size;have Dq:=ay hlr;have HMR:=ay hmr;have Wp:=ay hinv;have WX:=ay (And.intro gp gr);have Jl:=ay hf1;have VK:=hlr.lt;have ahS:=(bS hmr.box).1
     have Ox:iH f1:=by rw[hf1];exact Gp _ _ _ iH.none
     have VJ:=ay Ox;clear hlr hmr hinv gp gr hf1 Ox
     by_cases hlt:k<p.defs.length
     ·obtain⟨_,_,hvv,_,hdf⟩:=HD.out.form
      simp only[Value.slice.injEq] at hvv;obtain⟨rfl,-,rfl⟩:=hvv;obtain⟨b,off,rfl,hPb,hbw,kL⟩:=hdf (by omega);obtain⟨⟨pv,cv,mg,kv⟩,⟨h5,h7,h8⟩,hc⟩:=kL k hlt;obtain⟨ap,cp,rfl⟩:=RowK.slice h5;obtain⟨ac,cc,rfl⟩:=RowK.slice h7;obtain⟨am,wn,cm,ae,ce,rfl,rfl⟩:=nL.slX h8
      have mW:∀ (j:Nat) (u:Value),w.cell? ⟨b,off+k * 15+j,none⟩=some u→wr.cell? ⟨b,off+k * 15+j,none⟩=some u:=fun j u h=>(hbl.cell (p:=⟨b,off+k * 15+j,none⟩) hbw).trans h
      have x0:=mW 0 _ (hc 0 _ rfl);have x1:=mW 1 _ (hc 1 _ rfl);have x2:=mW 2 _ (hc 2 _ rfl);have x3:=mW 3 _ (hc 3 _ rfl);have x4:=mW 4 _ (hc 4 _ rfl);have x5:=mW 5 _ (hc 5 _ rfl);have x6:=mW 6 _ (hc 6 _ rfl);have x7:=mW 7 _ (hc 7 _ rfl);have x8:=mW 8 _ (hc 8 _ rfl);have x9:=mW 9 _ (hc 9 _ rfl);have x10:=mW 10 _ (hc 10 _ rfl);have x11:=mW 11 _ (hc 11 _ rfl);have x12:=mW 12 _ (hc 12 _ rfl);have x13:=mW 13 _ (hc 13 _ rfl);have x14:=mW 14 _ (hc 14 _ rfl);rw[Nat.add_zero] at x0;simp only[dJ] at x1 x6 x7;have hfd:=FC.out.defs _ (mX hlt);have htk:=Dg hlt;have htw:=KJ none hlt;have Wh:=ay (And.intro htk htw);have HFD:=ay hfd;have H57:=ay (And.intro h5 h7);clear kL h5 h7 h8 hc mW hdf hfd htk htw;generalize p.defs[k]=d at *;have BO:=aB wr (.cells (jB d ap cp ac cc am wn cm ae ce) 66);have gd:=aY wr (.cells (jB d ap cp ac cc am wn cm ae ce) 66)
      have pR:(k:Int)<(p.defs.length:Int):=by omega
      go_upto_region 12 with fail
      change Code.wp _ _ _ _ (wr.alloc (.cells (jB d ap cp ac cc am wn cm ae ce) 66));clear x0 x1 x2 x3 x4 x5 x6 x7 x8 x9 x10 x11 x12 x13 x14
      have hdl:wr.heap.size<(wr.alloc (.cells (jB d ap cp ac cc am wn cm ae ce) 66)).heap.size:=by simp
      generalize wr.alloc (.cells (jB d ap cp ac cc am wn cm ae ce) 66)=w4 at *;have zF:=BO.size;have hL4:=Dq.out.below BO;have hM4:=HMR.out.below BO;have HL4:=ay hL4;have HM4:=ay hM4;have HGD:=ay gd;have HG4:=ay (And.intro ((BO.block _ (by omega)).trans WX.out.1) ((BO.block _ (by omega)).trans WX.out.2));have hb4:=hbl.trans (BO.mono Fv);obtain⟨u0,u1,u2,u3,hgf,hone⟩:=ZU hM4.wf d.res.name;have adM:=ay (fun W (hW:Below w4.heap.size w4 W)=>(MJ w1.heap.size db mv ml d.res.name W (hM4.below hW) (by omega)).mono fun e w' q=>hgf W e w' q)
      have s0:=fun a m W=>run_store Tryz.prog W a u0 m (hone u0 (by simp))
      have s1:=fun a m W=>run_store Tryz.prog W a u1 m (hone u1 (by simp))
      have s2:=fun a m W=>run_store Tryz.prog W a u2 m (hone u2 (by simp))
      have s3:=fun a m W=>run_store Tryz.prog W a u3 m (hone u3 (by simp))
      obtain⟨m,hm⟩:∃ m,m=rE ml d.res.name:=⟨_,rfl⟩
      rw[← hm] at adM;have wD:=ay hm;have k5:=hL4.cells.1.2.2.2.2.2.1;have y1:=(bB gd).2.1
      have hne1:lb≠w4.heap.size:=by omega
      have hne2:wr.heap.size≠w4.heap.size:=by omega
      clear hL4 hM4 gd hgf hone hm Dq HMR WX
      go_cut [12,13] (fun _ v wc=>v=.bool m∧Below w4.heap.size w4 wc)
      case first =>
       go_region_held3 (fun W=>W.cell? ⟨lb,5,none⟩=some (.pointer (some ⟨db,0,none⟩))∧W.cell? ⟨wr.heap.size,1,none⟩=some (.string ⟨d.res.name.toArray⟩))
        (first|(with_reducible exact p3)|(with_reducible exact And.intro ((mh w5 w4.heap.size lb 5 _ _ _ _ hne1).trans p3.1) ((mh w5 w4.heap.size wr.heap.size 1 _ _ _ _ hne2).trans p3.2))|(go_keep;done))
        (first|(go_at_call 49;refine(adM.out _ ?_).mono ?_;(first|exact(bI _ _).drew|exact((bI _ _).alloc (bD _) _).drew);rintro e w5 ⟨rfl,hb5⟩;have xE:Below w4.heap.size w4 w5:=(by first|exact(bI _ _).drew.trans hb5|exact((bI _ _).alloc (bD _) _).drew.trans (hb5.mono (by simp)));have p3:=And.intro (iW xE k5) (iW xE y1);try (have hT:=(hb5.block w4.heap.size (by simp)).trans (aY w4 (.cells #[.string ⟨#[]⟩,.slice none 0 0,.int .i64 0,.slice none 0 0] 53));obtain⟨⟨t0,t1,t2,t3⟩,g0,g1,g2,g3⟩:=qH hT)))
       ·clear s0 s1 s2 s3 p3
        go_wp2_with fail
        go_meet
        exact⟨rfl,xE.alloc xE.size _⟩
       ·clear s0 s1 s2 s3 p3
        go_wp2_with fail
        go_meet
        exact⟨rfl,jH xE (bD _) u0 u1 u2 u3⟩
      case rest =>
       obtain⟨rfl,xE⟩:=hcut
       obtain⟨w5,rfl⟩:∃ w5:World,w5=wc:=⟨_,rfl⟩
       clear k5 y1 s0 s1 s2 s3 adM;have SH:=xE.size;have VO:=ay (HL4.out.below xE);have ZV:=ay (HM4.out.below xE);have adN:=(xE.block _ hdl).trans HGD.out;have HG5:=ay (And.intro ((xE.block _ (by omega)).trans HG4.out.1) ((xE.block _ (by omega)).trans HG4.out.2));have hb5:=hb4.trans (xE.mono hb4.size);obtain⟨y0,y1,y2,y3,y4,y5,y6,y7,y8,y9,rA,rC,rD,y13,VN⟩:=bB adN;have Zc:=ay adN;have k5:=VO.out.cells.1.2.2.2.2.2.1;clear adN HL4 HM4 HG4 HGD
       have RD:w.heap.size≠lb:=by omega
       have ae1:w.heap.size+1≠lb:=by omega
       cases m with
       | true =>
        have TA:=ay (xw _ lb _ f1 30 d.res.at_ w5 VO.out VJ.out)
        have hnx:nR f1 (some (30,d.res.at_))=jl none [] (p.defs.take (k+1)):=by
         have hh:=Wp.out.has d.res.name;rw[← wD.out] at hh;rw[Wh.out.2,← Jl.out,if_pos (of_decide_eq_true hh.symm)]
        have hiv:nO ml (p.defs.take (k+1)):=by rw[Wh.out.1];exact Wp.out.same wD.out.symm
        have Da:=ay (And.intro hnx hiv);clear hnx hiv;go_wp2_with (go_at_call 50;refine TA.out.mono ?_;rintro e w6 ⟨rfl,hl6,vw⟩)
        go_roundw
        case rel=>exact⟨k+1,mv,ml,_,by omega,by go_num,Da.out.1,hl6,ZV.out.alk vw.2 (fun q=>hne q.symm) (fun b hb q=>by subst q;exact own_ne ZV.out.own VO.out (by decide) hb),by omega,Da.out.2,(vw.2.2 _ RD (by omega)).trans HG5.out.1,(vw.2.2 _ ae1 (by omega)).trans HG5.out.2,hb5.trans (vw.1 _ (by omega)),jc (jc hw1 (jc zF SH)) vw.2.1⟩
        case measure=>simp[intOf];omega
       | false =>
        have HOF:=ay (fun W (hW:Below w5.heap.size w5 W)=>Wn (fun b=>b<w.heap.size) d ap cp ac cc am wn cm ae ce W HFD.out (RowK.frame H57.out.1 (aW.of (hb5.trans (hW.mono hb5.size)))) (RowK.frame H57.out.2 (aW.of (hb5.trans (hW.mono hb5.size)))));unfold TS jB at HOF;have agT:=ay (fun (W:World) (hW:Below w5.heap.size w5 W) (a6:Option Addr) (c6:Nat) (a7:Option Addr) (c7:Nat)=>XG w1.heap.size db mv ml d.res.name (.string ⟨d.res.name.toArray⟩) (.slice a6 d.params.length c6) (.int .i64 d.res.base) (.slice a7 d.res.aC.length c7) W (ZV.out.below hW) (by have:=hW.size;omega) hdb (by omega) wD.out.symm (by simp[Value.oneCell']));have ahT:db<w5.heap.size:=(bS ZV.out.box).1
        have hwd:wr.heap.size≠db:=by omega
        have hOL:some lb≠mv.ownBlock:=own_ne ZV.out.own VO.out (by decide);have hOD:some wr.heap.size≠mv.ownBlock:=own_ne ZV.out.own Zc.out (by decide);have hOP:some w.heap.size≠mv.ownBlock:=own_ne ZV.out.own HG5.out.1 (by decide);have hOR:some (w.heap.size+1)≠mv.ownBlock:=own_ne ZV.out.own HG5.out.2 (by decide)
        have HS:Hid (∀ W,aW (fun b=>b≠db∧some b≠mv.ownBlock) w5 W→((W.cell? ⟨wr.heap.size,0,none⟩=some (.bool d.pub)∧W.cell? ⟨wr.heap.size,1,none⟩=some (.string ⟨d.res.name.toArray⟩)∧W.cell? ⟨wr.heap.size,2,none⟩=some (.slice ap d.params.length cp)∧W.cell? ⟨wr.heap.size,3,none⟩=some (.int .i64 d.res.base)∧W.cell? ⟨wr.heap.size,4,none⟩=some (.slice ac d.res.aC.length cc)∧W.cell? ⟨wr.heap.size,5,none⟩=some (.int .i64 d.body.op)∧W.cell? ⟨wr.heap.size,6,none⟩=some (.string ⟨d.body.name.toArray⟩)∧W.cell? ⟨wr.heap.size,7,none⟩=some (.string ⟨d.body.module.toArray⟩)∧W.cell? ⟨wr.heap.size,8,none⟩=some (.bool (decide (d.body.num<0)))∧W.cell? ⟨wr.heap.size,9,none⟩=some (.slice am wn cm)∧W.cell? ⟨wr.heap.size,10,none⟩=some (.bool d.body.yes)∧W.cell? ⟨wr.heap.size,11,none⟩=some (.slice ae d.body.aA.length ce)∧W.cell? ⟨wr.heap.size,12,none⟩=some (.int .i64 d.body.at_)∧W.cell? ⟨wr.heap.size,13,none⟩=some (.int .i64 d.res.at_)∧W.cell? ⟨wr.heap.size,14,none⟩=some (.int .i64 d.res.bare))∧W.cell? ⟨lb,5,none⟩=some (.pointer (some ⟨db,0,none⟩)))):=ay fun W hW=>⟨bB ((hW.2 _ ⟨hwd,hOD⟩ (by omega)).trans Zc.out),((World.cell?_of_block (a:=⟨lb,5,none⟩) (hW.2 lb ⟨hne,hOL⟩ (by omega))).trans k5)⟩
        go_upto_region 15 with fail
        go_region_held3 (fun W=>(W.cell? ⟨wr.heap.size,0,none⟩=some (.bool d.pub)∧W.cell? ⟨wr.heap.size,1,none⟩=some (.string ⟨d.res.name.toArray⟩)∧W.cell? ⟨wr.heap.size,2,none⟩=some (.slice ap d.params.length cp)∧W.cell? ⟨wr.heap.size,3,none⟩=some (.int .i64 d.res.base)∧W.cell? ⟨wr.heap.size,4,none⟩=some (.slice ac d.res.aC.length cc)∧W.cell? ⟨wr.heap.size,5,none⟩=some (.int .i64 d.body.op)∧W.cell? ⟨wr.heap.size,6,none⟩=some (.string ⟨d.body.name.toArray⟩)∧W.cell? ⟨wr.heap.size,7,none⟩=some (.string ⟨d.body.module.toArray⟩)∧W.cell? ⟨wr.heap.size,8,none⟩=some (.bool (decide (d.body.num<0)))∧W.cell? ⟨wr.heap.size,9,none⟩=some (.slice am wn cm)∧W.cell? ⟨wr.heap.size,10,none⟩=some (.bool d.body.yes)∧W.cell? ⟨wr.heap.size,11,none⟩=some (.slice ae d.body.aA.length ce)∧W.cell? ⟨wr.heap.size,12,none⟩=some (.int .i64 d.body.at_)∧W.cell? ⟨wr.heap.size,13,none⟩=some (.int .i64 d.res.at_)∧W.cell? ⟨wr.heap.size,14,none⟩=some (.int .i64 d.res.bare))∧W.cell? ⟨lb,5,none⟩=some (.pointer (some ⟨db,0,none⟩)))
         (first|(with_reducible exact p3)|(go_keep;done))
         (first
          | (go_at_call 32;refine(HOF.out _ (bI _ _).drew).mono ?_;rintro e w6 ⟨a6,c6,a7,c7,rfl,-,hb6⟩;have hq6:Below w5.heap.size w5 w6:=(bI _ _).drew.trans hb6;have p3:=HS.out w6 (aW.of hq6))
          | (go_at_call 51;refine(agT.out w6 hq6 a6 c6 a7 c7).mono ?_;rintro e w7 ⟨rfl,⟨mv',hM7⟩,wR,ha7⟩;have hq7:=(aW.of (P:=fun b=>b≠db∧some b≠mv.ownBlock) hq6).trans ha7;have p3:=HS.out w7 hq7))
        all_goals
         have hnx:f1=jl none [] (p.defs.take (k+1)):=by
          have hh:=Wp.out.has d.res.name;rw[← wD.out] at hh;rw[Wh.out.2,← Jl.out,if_neg (of_decide_eq_false hh.symm),pF]
         have hiv:nO (sj ml d.res.name [.string ⟨d.res.name.toArray⟩,.slice a6 d.params.length c6,.int .i64 d.res.base,.slice a7 d.res.aC.length c7]) (p.defs.take (k+1)):=by rw[Wh.out.1];exact Wp.out.ins wD.out.symm _ _ _ _ _
         have Da:=ay (And.intro hnx hiv);have HM7:=ay hM7;clear hnx hiv hM7 p3 y0 y1 y2 y3 y4 y5 y6 y7 y8 y9 rA rC rD y13 VN k5 HS;go_wp2_with fail
         go_roundw
         case rel=>exact⟨k+1,mv',_,f1,by omega,by go_num,Da.out.1,(hq7.2 lb ⟨hne,hOL⟩ (by omega)).trans VO.out,HM7.out,by rw[LG];omega,Da.out.2,(hq7.2 _ ⟨by omega,hOP⟩ (by omega)).trans HG5.out.1,(hq7.2 _ ⟨by omega,hOR⟩ (by omega)).trans HG5.out.2,(hb5.trans (hq6.mono hb5.size)).trans (wR.mono hz1),jc (jc hw1 (jc zF SH)) hq7.1⟩
         case measure=>simp[intOf];omega
     ·obtain rfl:k=p.defs.length:=by omega
      obtain⟨wq,rfl⟩:∃ wq:World,wq=wr:=⟨_,rfl⟩
      have abN:decide ((p.defs.length:Int)<(p.defs.length:Int))=false:=dA (by omega);have adO:=Jl.out;rw[List.take_length] at adO;have ZW:=Wp.out;rw[List.take_length] at ZW
      have hSC:ScM ⟨[],gQ p.defs,fun _ _=>none⟩ ⟨own,.slice ai p.aG.length ci,.slice ad p.defs.length cd,.slice af ms.length cf,db⟩ lb w1.heap.size (.slice none 0 0) wq:=⟨⟨mv,ml,HMR.out,by omega,ZW.ar⟩,gD.nil _ _,List.Pairwise.nil,lI _,⟨ms,jc HMS.out.1 (by decide),(RowK.frame HFC.out (aW.of hbl)).imp fun b hb _=>by omega⟩,rfl⟩
      have HSC:=ay hSC;have HE2:Hid (R=sG ⟨[],gQ p.defs,fun _ _=>none⟩ f1 p.defs):=ay (by rw[HE.out,adO,ZP.eO,ZP.se,HI.out];rfl);obtain⟨y0,y1⟩:=eZ WX.out.1;clear hSC adO ZW Wp HE Jl
      go_upto_region 18 with fail
      clear y0 y1
      go_loopw [15,72] (fun _ q wx=>∃ (k:Nat) (fk:Fl),k≤p.defs.length∧q=.int .i64 k∧fk=sG ⟨[],gQ p.defs,fun _ _=>none⟩ f1 (p.defs.take k)∧iH fk∧l8 ⟨own,.slice ai p.aG.length ci,.slice ad p.defs.length cd,.slice af ms.length cf,db⟩ lb (.slice none 0 0) fk wx∧dK lb wq wx) (fun _ q _=>p.defs.length - (intOf q).toNat)
      case atStart=>exact⟨0,f1,lI _,rfl,rfl,VJ.out,Dq.out,dK.refl _ _⟩
      case round =>
       obtain⟨k,fk,hk2,rfl,Rh,hfo,hlx,hkx⟩:=hrel;have hzx:=hkx.2.1;have HLX:=ay hlx;have HFK:=ay Rh;have HFO:=ay hfo;have agU:=hlx.lt;have adP:Below w.heap.size w wr:=hbl.trans (hkx.1 _ (by omega));clear hlx Rh hfo
       by_cases hlt:k<p.defs.length
       ·obtain⟨_,_,hvv,_,hdf⟩:=HD.out.form
        simp only[Value.slice.injEq] at hvv;obtain⟨rfl,-,rfl⟩:=hvv;obtain⟨b,off,rfl,hPb,hbw,kL⟩:=hdf (by omega);obtain⟨⟨pv,cv,mg,kv⟩,⟨h5,h7,h8⟩,hc⟩:=kL k hlt;obtain⟨ap,cp,rfl⟩:=RowK.slice h5;obtain⟨ac,cc,rfl⟩:=RowK.slice h7;obtain⟨am,wn,cm,ae,ce,rfl,rfl⟩:=nL.slX h8
        have mW:∀ (j:Nat) (u:Value),w.cell? ⟨b,off+k * 15+j,none⟩=some u→wr.cell? ⟨b,off+k * 15+j,none⟩=some u:=fun j u h=>(adP.cell (p:=⟨b,off+k * 15+j,none⟩) hbw).trans h
        have x0:=mW 0 _ (hc 0 _ rfl);have x1:=mW 1 _ (hc 1 _ rfl);have x2:=mW 2 _ (hc 2 _ rfl);have x3:=mW 3 _ (hc 3 _ rfl);have x4:=mW 4 _ (hc 4 _ rfl);have x5:=mW 5 _ (hc 5 _ rfl);have x6:=mW 6 _ (hc 6 _ rfl);have x7:=mW 7 _ (hc 7 _ rfl);have x8:=mW 8 _ (hc 8 _ rfl);have x9:=mW 9 _ (hc 9 _ rfl);have x10:=mW 10 _ (hc 10 _ rfl);have x11:=mW 11 _ (hc 11 _ rfl);have x12:=mW 12 _ (hc 12 _ rfl);have x13:=mW 13 _ (hc 13 _ rfl);have x14:=mW 14 _ (hc 14 _ rfl);rw[Nat.add_zero] at x0;simp only[dJ] at x1 x6 x7;have HFD:=ay (FC.out.defs _ (mX hlt));have Wh:=ay (Ou ⟨[],gQ p.defs,fun _ _=>none⟩ f1 hlt);have adQ:aW (fun b=>b<w.heap.size) w wr:=aW.of adP
        have h5':=(RowK.frame h5 adQ).imp (Q:=fun b=>b≠lb) fun b hb _=>by omega
        have h7':=(RowK.frame h7 adQ).imp (Q:=fun b=>b≠lb) fun b hb _=>by omega
        have h8':=nL.imp (Q:=fun b=>b≠lb) (fun b hb _=>by omega) (nL.frame adQ h8);have adR:=ay (And.intro h5' (And.intro h7' h8'));clear kL h5 h7 h8 hc mW hdf h5' h7' h8';generalize p.defs[k]=d at *;have BO:=aB wr (.cells (jB d ap cp ac cc am wn cm ae ce) 66);have gd:=aY wr (.cells (jB d ap cp ac cc am wn cm ae ce) 66)
        have pR:(k:Int)<(p.defs.length:Int):=by omega
        go_upto_region 20 with fail
        change Code.wp _ _ _ _ (wr.alloc (.cells (jB d ap cp ac cc am wn cm ae ce) 66));clear x0 x1 x2 x3 x4 x5 x6 x7 x8 x9 x10 x11 x12 x13 x14;generalize wr.alloc (.cells (jB d ap cp ac cc am wn cm ae ce) 66)=w4 at *;have zF:=BO.size;have hk4:=hkx.trans (dK.of BO agU);have hL4:=HLX.out.below BO;have HDF:=ay (Zb _ _ lb w1.heap.size (.slice none 0 0) fk d ap cp ac cc am wn cm ae ce w4 hL4 (HSC.out.keep Dq.out hk4.2) HFO.out HFD.out (RowK.frame adR.out.1 (aW.of BO)) (RowK.frame adR.out.2.1 (aW.of BO)) (nL.frame (aW.of BO) adR.out.2.2));unfold jB at HDF;obtain⟨y0,y1,y2,y3,y4,y5,y6,y7,y8,y9,rA,rC,rD,y13,VN⟩:=bB gd;have hfd:iH (Aa ⟨[],gQ p.defs,fun _ _=>none⟩ fk d):=((BG _ _ _ HFO.out).or (qU _ _ _ _)).or (PZ.tT _ _ _ _);have Da:=ay (And.intro (show Aa ⟨[],gQ p.defs,fun _ _=>none⟩ fk d=sG ⟨[],gQ p.defs,fun _ _=>none⟩ f1 (p.defs.take (k+1)) by rw[Wh.out,← HFK.out]) hfd);clear hL4 gd hfd;go_wp2_with (go_at_call 52;refine HDF.out.mono ?_;rintro e w6 ⟨rfl,hl6,vw⟩)
        go_roundw
        case rel=>exact⟨k+1,_,by omega,by go_num,Da.out.1,Da.out.2,hl6,hk4.trans vw⟩
        case measure=>simp[intOf];omega
       ·obtain rfl:k=p.defs.length:=by omega
        have pR:decide ((p.defs.length:Int)<(p.defs.length:Int))=false:=dA (by omega);have HE3:Hid (R=fk):=ay (by rw[HE2.out,HFK.out,List.take_length]);have agV:=(bS WX.out.2).1;have gr9:=(hkx.2.2 (w.heap.size+1) (by omega) agV).trans WX.out.2;obtain⟨⟨r0,r1⟩,rz0,rz1⟩:=nP gr9;obtain⟨⟨k0,k1,k2,k3,k4,k5,k6,k7⟩,-⟩:=HLX.out.cells;have HP:=ay (Gn gr9 (.int .i64 (flE fk)) (.int .i64 (flA fk)));have HB:=ay (Gm adP (by omega:w.heap.size≤w.heap.size+1) (.int .i64 (flE fk)) (.int .i64 (flA fk)));clear gr9 HFK;go_wp2;change bodyPost _ _ _ _ _ (Wo wr (w.heap.size+1) (.int .i64 (flE fk)) (.int .i64 (flA fk)));generalize Wo wr _ _ _=w9 at *;obtain⟨⟨d0,d1⟩,-⟩:=nP HP.out;exact bodyPost_ret (v:=.agg #[.int .i64 (flE fk),.int .i64 (flA fk)]) (by simp[results,Tryz.results21,go_sem,d0,d1]) rfl ⟨by rw[HE3.out],HB.out⟩
end Go.Proofs.YtmhdgeekclhbbaaGreatDoor

namespace Go.Proofs.YtmhdgeekclhbbaaGreatDoor
theorem Gq {α β:Type}(f:α→List β)(K:Nat):∀ l:List α,(∀ x∈l,(f x).length≤K)→(l.flatMap f).length≤l.length * K
 | [],_=>by simp
 | x :: l,h=>by
  rw[List.flatMap_cons,bN,dR,Nat.succ_mul];have h1:=h x vB
  have h2:=Gq f K l fun y hy=>h y (wM _ hy)
  omega
theorem Gr (K:Nat):∀ l:List (List UInt8),(∀ x∈l,x.length≤K)→(bM l).length≤l.length * (K+2)
 | [],_=>by simp[bM]
 | [x],h=>by
  have:=h x vB;simp only[bM,dR,gX];omega
 | x :: y :: l,h=>by
  have h1:=h x vB
  have h2:=Gr K (y :: l) fun z hz=>h z (wM _ hz)
  rw[bM,bN,bN,dR (a:=x),Nat.succ_mul];simp only[dR,gX] at h2 ⊢;omega
theorem Wq (b:Int):(uW b).length≤4:=by unfold uW;split<;>simp
theorem CO (K:Nat):∀ l:List PZ,(∀ e∈l,e.text.length≤K)→(gI l).length≤l.length * (K+3)
 | [],_=>by simp[gI]
 | e :: l,h=>by
  have h1:=h e vB
  have h2:=CO K l fun z hz=>h z (wM _ hz)
  rw[gI,dR,Nat.succ_mul];simp only[bN,dR,gX];omega
theorem Gs (b:Int)(l:List PZ)(hl:l.length≤1)(h:∀ e∈l,e.text.length≤750000000):(kN b l).length≤750000007:=by
 have h1:=Wq b;have h2:=CO _ l h;have h3:l.length * (750000000+3)≤1 * (750000000+3):=Nat.mul_le_mul_right _ hl;rw[kN,bN];omega
def Ws (e:PZ):Prop:=e.fit∧e.size≤2500
theorem Ws.text {e:PZ}(h:Ws e):e.text.length≤750000000:=by
 have h1:=PZ.FI e h.1;have h2:=h.2;omega
structure ZF.mid (f:ZF):Prop where
 name:f.name.length≤65536
 few:f.aC.length≤1
 all:∀ e∈f.aC,Ws e
structure ZD.mid (d:ZD):Prop where
 lg:∀ f∈d.params,f.mid
 few:d.params.length≤8
 res:d.res.mid
 body:Ws d.body
structure ZP.mid (p:ZP):Prop where
 imps:∀ m∈p.aG,m.1.length≤65536
 QV:p.aG.length≤16
 defs:∀ d∈p.defs,d.mid
 Kl:p.defs.length≤64
theorem ZF.mid.text {f:ZF}(h:f.mid):f.text.length≤750065545:=by
 have h1:=Gs f.base f.aC h.few fun e he=>(h.all e he).text
 have h2:=h.name;rw[ZF.text];simp only[bN,dR,gX];omega
theorem ZD.mid.text {d:ZD}(h:d.mid):d.text.length≤7700000000:=by
 have h1:=Gs d.res.base d.res.aC h.res.few fun e he=>(h.res.all e he).text
 have h2:=h.res.name;have h3:=h.body.text
 have h4:=Gr 750065545 (d.params.map ZF.text) fun x hx=>by
  obtain⟨f,hf,rfl⟩:=List.mem_map.1 hx;exact(h.lg f hf).text
 have h5:(d.params.map ZF.text).length * (750065545+2)≤8 * (750065545+2):=Nat.mul_le_mul_right _ (by rw[List.length_map];exact h.few)
 have h6:(if d.pub=true then [112,117,98,32] else []:List UInt8).length≤4:=by split<;>simp
 rw[ZD.text];simp only[bN,dR,gX];omega
theorem ZP.mid.text {p:ZP}(h:p.mid):p.text.length≤1099511627776:=by
 have h1:=Gq sF 65545 p.aG fun m hm=>by
  have:=h.imps m hm;rw[sF];simp only[bN,dR,gX];omega
 have h2:=Gq ZD.text 7700000000 p.defs fun d hd=>(h.defs d hd).text
 have h3:p.aG.length * 65545≤16 * 65545:=Nat.mul_le_mul_right _ h.QV;have h4:p.defs.length * 7700000000≤64 * 7700000000:=Nat.mul_le_mul_right _ h.Kl;rw[ZP.text,bN];omega
theorem ZF.mid.fit {f:ZF}(h:f.mid):f.fit:=⟨h.name,by have:=h.few;omega,fun e he=>(h.all e he).1⟩
theorem ZD.mid.fit {d:ZD}(h:d.mid):d.fit:=⟨by have:=h.few;omega,fun f hf=>(h.lg f hf).fit,h.res.fit,h.body.1⟩
theorem ZD.mid.tV {d:ZD}(h:d.mid):d.tV :=
 ⟨by have:=h.few;omega,fun f hf=>⟨by have:=(h.lg f hf).few;omega,fun e he=>by have:=((h.lg f hf).all e he).2;omega⟩,⟨by have:=h.res.few;omega,fun e he=>by have:=(h.res.all e he).2;omega⟩,by have:=h.body.2;omega⟩
theorem ZP.mid.tV {p:ZP}(h:p.mid):p.tV :=
 ⟨⟨by have:=h.QV;omega,h.imps,by have:=h.Kl;omega,fun d hd=>(h.defs d hd).fit⟩,h.text,by have:=h.Kl;omega,fun d hd=>(h.defs d hd).tV⟩
theorem FF.small.mid {M:Nat}{f:FF}(h:f.small M)(hM:M≤65536)(ha:f.all fun e=>Ws e.z):f.z.mid :=
 ⟨jc h.name hM,by show (f.aC.map PE.z).length≤1;rw[List.length_map];exact h.aC,fun e he=>by obtain⟨x,hx,rfl⟩:=List.mem_map.1 he;exact ha x hx⟩
theorem PP.small.mid {M:Nat}{p:PP}(h:p.small M)(hM:M≤65536)(ha:p.all fun e=>Ws e.z):p.z.mid:=by
 refine⟨fun m hm=>?_,by show (p.aG.map _).length≤16;rw[List.length_map];exact h.QV,fun d hd=>?_,by show (p.defs.map _).length≤64;rw[List.length_map];exact h.Kl⟩
 ·obtain⟨x,hx,rfl⟩:=List.mem_map.1 hm
  exact jc (h.aG x hx) hM
 ·obtain⟨x,hx,rfl⟩:=List.mem_map.1 hd
  have h1:=h.defs x hx;have h2:=ha x hx;refine⟨fun f hf=>?_,by show (x.params.map _).length≤8;rw[List.length_map];exact h1.few,h1.res.mid hM h2.2.1,h2.2.2⟩;obtain⟨y,hy,rfl⟩:=List.mem_map.1 hf;exact(h1.params y hy).mid hM (h2.1 y hy)
theorem nY.mid {S:List UInt8}{ah:List Tok}{aj:List Nd}{p:kW}(F:nY S ah aj p)(hs:S.length≤1200):(p.pp ah).z.mid :=
 F.Zz.mid (by omega) (PP.TM F.fits F.few F.few fun e h1 h2 _=>by
  have h3:=F.nd;have h4:=F.count
  exact⟨PE.acD (by omega) e h1 (by omega),by rw[PE.ZN];omega⟩)
theorem Al {S:List UInt8}{d:Nat}{ah:List Tok}{aj:List Nd}{p:kW}(hd:d≤200)(h:je S d=.good ah aj)(hl:bO S=.ok ah)(he:aj=p.pt.em 0 0)(hok:p.ok ah)(hlv:p.pt.lv=ah.length)(hn:aj.length≤2 * ah.length):nY S ah aj p:=by
 have hs:S.length≤65536:=by
  unfold bO at hl
  split at hl
  ·cases hl
  ·omega
 have hL:=iL hl
 have hM:∀ u,(aN ah u).length≤S.length+1:=fun u=>Nat.le_succ_of_le (FY hl u)
 have hN:=rZ hl
 have hnd:aj.length=p.pt.nd:=by rw[he,PT.uq]
 exact⟨hs,hl,he,hok,hlv,hL.count,by omega,OO hl he p.wf hlv (by omega),hL.MQ,zQ hd h,kW.Bf (fun cl e u ho _=>CE.fits hL.some hN hM (by omega) e u ho) hok,kW.Bf (fun cl e u ho _=>CE.told (xL hl) e u ho) hok,kW.Bf (fun cl e u ho hn=>jc (CE.iC ah e u) hn) hok,kW.NP hM hok⟩
def anS (c:UInt8):List UInt8:=[102,117,110,32,102,40,120,58,105,110,116,41,58,105,110,116,61,c,59]
def W9 (c:UInt8):List Tok:=[⟨2,[],[102,117,110],0⟩,⟨1,[32],[102],4⟩,⟨4,[],[40],5⟩,⟨1,[],[120],6⟩,⟨4,[],[58],7⟩,⟨2,[],[105,110,116],8⟩,⟨4,[],[41],11⟩,⟨4,[],[58],12⟩,⟨2,[],[105,110,116],13⟩,⟨4,[],[61],16⟩,⟨1,[],[c],17⟩,⟨4,[],[59],18⟩,⟨5,[],[],19⟩]
def TT:kW:=⟨0,[⟨false,[⟨none⟩],⟨none⟩,.PO⟩]⟩
theorem ab5:bO (anS 121)=.ok (W9 121):=by rfl
theorem ab6:bO (anS 120)=.ok (W9 120):=by rfl
theorem OX:je (anS 121) 60=.good (W9 121) (TT.pt.em 0 0):=by kernel_rfl
theorem OY:je (anS 120) 60=.good (W9 120) (TT.pt.em 0 0):=by kernel_rfl
theorem acF (c:UInt8):TT.ok (W9 c):=by
 refine⟨by decide,by decide,trivial,⟨fun h=>?_,rfl,rfl,by decide,⟨⟨rfl,?_,trivial⟩,trivial⟩,⟨?_,trivial⟩,?_⟩,trivial⟩
 ·cases h
 ·exact .head _
 ·exact .head _
 ·simp only[CE.ok];rfl
theorem OZ:nY (anS 121) (W9 121) (TT.pt.em 0 0) TT:=Al (d:=60) (by omega) OX ab5 rfl (acF _) (by decide) (by decide)
theorem O1:nY (anS 120) (W9 120) (TT.pt.em 0 0) TT:=Al (d:=60) (by omega) OY ab6 rfl (acF _) (by decide) (by decide)
def anZ (c:UInt8):ZP:=⟨[],[⟨false,[⟨[120],1,[],6,11⟩],⟨[102],1,[],4,16⟩,.mk 3 [c] [] 0 false [] 17⟩]⟩
theorem adS (c:UInt8):(TT.pp (W9 c)).z=anZ c:=by rfl
theorem Wt:(anZ 121).check [109] []=some (31,17):=by kernel_rfl
theorem Wu:(anZ 120).check [109] []=none:=by kernel_rfl
