/- Walks and plain laws: TreeW1, ExprMem, ReadW1, ReadW2, ParseW7. -/
import Derived.Test.YtknicmmigbhpcaaGreatDoorF07
set_option maxHeartbeats 16000000
set_option maxRecDepth 100000
set_option linter.unusedVariables false
set_option linter.unusedSimpArgs false
namespace Go.Proofs.YtknicmmigbhpcaaGreatDoor
open Go.RowKit
def QA (p:Nd × Value):List Value:=[.int .i64 p.1.kind,.int .i64 p.1.tok,p.2]
def Ints (B:Nat)(w:World)(v:Value)(ks:List Int):Prop:=Sl B w v 1 ks.length (ks.map (Value.int .i64))
def aP (B:Nat)(w:World)(v:Value)(toks:List Tok)(nodes:List Nd):Prop :=
 ∃ (tv nv:Value) (l:List (Nd × Value)),v=.agg #[tv,nv]∧Rec B w tv 4 bV toks∧l.map Prod.fst=nodes∧Rec B w nv 3 QA l∧∀ p∈l,Ints B w p.2 p.1.kids
theorem Ints.below {B:Nat}{w w':World}{v:Value}{ks:List Int}(h:Ints B w v ks)(hb:Below B w w'):Ints B w' v ks:=Sl.below h hb
theorem Ints.mono {B B':Nat}{w:World}{v:Value}{ks:List Int}(h:Ints B w v ks)(hB:B≤B'):Ints B' w v ks:=Sl.mono h hB
theorem aP.below {B:Nat}{w w':World}{v:Value}{toks:List Tok}{nodes:List Nd}(h:aP B w v toks nodes)(hb:Below B w w'):aP B w' v toks nodes:=by
 obtain⟨tv,nv,l,h1,h2,h3,h4,h5⟩:=h;exact⟨tv,nv,l,h1,h2.below hb,h3,h4.below hb,fun p hp=>(h5 p hp).below hb⟩
theorem aP.mono {B B':Nat}{w:World}{v:Value}{toks:List Tok}{nodes:List Nd}(h:aP B w v toks nodes)(hB:B≤B'):aP B' w v toks nodes:=by
 obtain⟨tv,nv,l,h1,h2,h3,h4,h5⟩:=h;exact⟨tv,nv,l,h1,h2.mono hB,h3,h4.mono hB,fun p hp=>(h5 p hp).mono hB⟩
theorem Ints.form {B:Nat}{w:World}{v:Value}{ks:List Int}(h:Ints B w v ks):∃ ao cap,v=.slice ao ks.length cap∧ks.length≤cap ∧
  (0<ks.length→∃ b off,ao=some ⟨b,off,none⟩∧b<B∧∀ j,(hj:j<ks.length)→w.cell? ⟨b,off+j,none⟩=some (.int .i64 ks[j])):=by
 obtain⟨ao,cap,hv,hn,hl,hc⟩:=h;refine⟨ao,cap,hv,hn,fun h0=>?_⟩;obtain⟨b,off,ha,hB,hcell⟩:=hc h0;exact⟨b,off,ha,hB,fun j hj=>by rw[hcell j (by simpa using hj)];simp⟩
theorem aP.node {B:Nat}{w:World}{tv nv:Value}{toks:List Tok}{nodes:List Nd}(h:aP B w (.agg #[tv,nv]) toks nodes){i:Nat}(hi:i<nodes.length) :
  ∃ b off cap kv,nv=.slice (some ⟨b,off,none⟩) nodes.length cap∧b<B∧w.cell? ⟨b,off+i * 3,none⟩=some (.int .i64 nodes[i].kind)∧w.cell? ⟨b,off+i * 3+1,none⟩=some (.int .i64 nodes[i].tok)∧w.cell? ⟨b,off+i * 3+2,none⟩=some kv∧Ints B w kv nodes[i].kids:=by
 obtain⟨tv',nv',l,h1,h2,h3,h4,h5⟩:=h;simp only[Value.agg.injEq] at h1
 obtain⟨rfl,rfl⟩:tv=tv'∧nv=nv':=by simpa using h1
 subst h3;rw[List.length_map] at hi ⊢;obtain⟨ao,cap,rfl,_,hf⟩:=h4.form (fun _=>rfl);obtain⟨b,off,rfl,hb,hc⟩:=hf (by omega);refine⟨b,off,cap,l[i].2,rfl,hb,?_,?_,?_,?_⟩
 ·rw[show off+i * 3=off+i * 3+0 by rfl,hc i 0 (.int .i64 l[i].1.kind) hi rfl];simp
 ·rw[hc i 1 (.int .i64 l[i].1.tok) hi rfl];simp
 ·rw[hc i 2 l[i].2 hi rfl]
 ·rw[List.getElem_map];exact h5 _ (List.getElem_mem hi)
theorem aP.slices {B:Nat}{w:World}{v:Value}{toks:List Tok}{nodes:List Nd}(h:aP B w v toks nodes) :
  ∃ at_ ct an cn,v=.agg #[.slice at_ toks.length ct,.slice an nodes.length cn]:=by
 obtain⟨tv,nv,l,h1,h2,h3,h4,h5⟩:=h;obtain⟨a1,c1,rfl,_,_⟩:=h2.form (fun _=>rfl);obtain⟨a2,c2,rfl,_,_⟩:=h4.form (fun _=>rfl);subst h3;rw[List.length_map];exact⟨a1,c1,a2,c2,h1⟩
theorem Bz (i g:Nat)(k:Int)(w:World)(hg:w.cell? ⟨g,0,none⟩=some (.int .i64 i)) :
  Calls Tryz.prog 300 #[.int .i64 k,.pointer (some ⟨g,0,none⟩)] w fun e w'=>e=.returned (.bool (decide (k<0) || decide ((i:Int)≤k)))∧w'=w:=by
 by_cases hk:k<0
 ·have d1:decide (k<0)=true:=decide_eq_true hk
  go_enter Tryz.func300,Tryz.ntmps300;go_wp2
  all_goals (go_ret;refine⟨aX ?_,rfl⟩;simp[*])
 ·have d1:decide (k<0)=false:=decide_eq_false hk
  go_enter Tryz.func300,Tryz.ntmps300;go_wp2
  all_goals (go_ret;refine⟨aX ?_,rfl⟩;simp[*])
def BA (i:Nat)(k:Int):Bool:=decide (k<0) || decide ((i:Int)≤k)
def abW (p:Bool)(w:World)(e:Ending)(w':World):Prop:=(∃ r:Int,e=.returned (.int .i64 r)∧(0≤r↔p=true)∧-1≤r)∧w'=w
theorem Am (i g B:Nat)(v:Value)(ks:List Int)(w:World)(hg:w.cell? ⟨g,0,none⟩=some (.int .i64 i))(hv:Ints B w v ks)(hn:ks.length≤1099511627776) :
  Calls Tryz.prog 278 #[v,.func (.func 300) #[] #[.pointer (some ⟨g,0,none⟩)]] w (abW (ks.any (BA i)) w):=by
 obtain⟨ao,cap,rfl,_,hf⟩:=hv.form;have HT:=ah (fun k=>Bz i g k w hg);have HF:=ah hf;clear hf hv hg;go_enter Tryz.func278,Tryz.ntmps278;go_wp2
 go_loop [8] (fun q=>∃ k:Nat,k≤ks.length∧q=.int .i64 k∧∀ j,(hj:j<ks.length)→j<k→BA i ks[j]=false) (fun q=>ks.length - (intOf q).toNat)
 case atStart=>exact⟨0,Nat.zero_le _,rfl,fun j _ h=>absurd h (by omega)⟩
 case round =>
  obtain⟨k,hk,rfl,hj⟩:=hrel
  by_cases hlt:k<ks.length
  ·obtain⟨b,off,rfl,_,hc⟩:=HF.out (by omega)
   have hx:=hc k hlt
   have hI:(k:Int)<(ks.length:Int):=by omega
   have hT:=HT.out ks[k]
   cases ht:BA i ks[k] with
   | true =>
    have hany:ks.any (BA i)=true:=List.any_eq_true.2 ⟨_,List.getElem_mem hlt,ht⟩;unfold BA at ht;rw[ht] at hT;generalize ks[k]=x at hx hT;have H1:=ah hT;have H2:=ah hany;clear hc hj ht hT hany;go_wp2_with (go_at_call 300;refine H1.out.mono ?_;rintro e w1 ⟨rfl,rfl⟩);go_ret;exact⟨⟨k,rfl,⟨fun _=>H2.out,fun _=>by omega⟩,by omega⟩,rfl⟩
   | false =>
    have HJ:Hid (∀ j,(hj:j<ks.length)→j<k+1→BA i ks[j]=false):=ah (fun j hjl hjk=>by
     by_cases hkj:j=k
     ·subst hkj;exact ht
     ·exact hj j hjl (by omega))
    unfold BA at ht;rw[ht] at hT;generalize ks[k]=x at hx hT;have H1:=ah hT;clear hc hj ht hT;go_wp2_with (go_at_call 300;refine H1.out.mono ?_;rintro e w1 ⟨rfl,rfl⟩)
    go_round
    case rel=>exact⟨k+1,by omega,by go_num,HJ.out⟩
    case measure=>simp[intOf];omega
  ·have hany:ks.any (BA i)=false:=by
    rw[← Bool.not_eq_true,List.any_eq_true];rintro⟨x,hx,hb⟩;obtain⟨j,hjl,e⟩:=List.mem_iff_getElem.1 hx;rw[← e,hj j hjl (by omega)] at hb;cases hb
   have hI:decide ((k:Int)<(ks.length:Int))=false:=decide_eq_false (by omega);have H2:=ah hany;clear hany hj;go_wp2;go_ret;exact⟨⟨-1,rfl,⟨fun h=>by omega,fun h=>by rw[H2.out] at h;cases h⟩,by omega⟩,rfl⟩
theorem vE (i g B:Nat)(v:Value)(ks:List Int)(w:World)(hg:w.cell? ⟨g,0,none⟩=some (.int .i64 i))(hv:Ints B w v ks)(hn:ks.length≤1099511627776) :
  Calls Tryz.prog 235 #[v,.func (.func 300) #[] #[.pointer (some ⟨g,0,none⟩)]] w fun e w'=>e=.returned (.bool (ks.any (BA i)))∧w'=w:=by
 have H:=ah (Am i g B v ks w hg hv hn);clear hg hv;go_enter Tryz.func235,Tryz.ntmps235;go_wp2_with (go_at_call 278;refine H.out.mono ?_);rintro e w1 ⟨⟨r,rfl,hr,_⟩,rfl⟩
 have hq:(ks.any (BA i))=decide (0≤r):=by
  by_cases h:0≤r
  ·rw[decide_eq_true h];exact hr.1 h
  ·rw[decide_eq_false h,← Bool.not_eq_true];exact fun q=>h (hr.2 q)
 have HQ:=ah hq;clear hq hr;go_wp2;go_ret;exact⟨aX HQ.out.symm,rfl⟩
theorem Mt (at_ an:Option Addr)(nt ct nn cn i B:Nat)(n:Nd)(kv:Value)(w:World)(hk:Ints B w kv n.kids)(hB:B≤w.heap.size)(hn:n.kids.length≤1099511627776) :
  Calls Tryz.prog 279 #[.agg #[.slice at_ nt ct,.slice an nn cn],.int .i64 i,.agg #[.int .i64 n.kind,.int .i64 n.tok,kv]] w fun e w'=>e=.returned (.bool (iB nt i n))∧Below w.heap.size w w':=by
 obtain⟨kind,tok,ks⟩:=n;simp only at hk hn ⊢;obtain⟨ak,ck,rfl,_,_⟩:=hk.form
 by_cases h1:kind<1
 ·have hq:iB nt i ⟨kind,tok,ks⟩=false:=by simp[iB,h1]
  rw[hq];clear hq;have d1:decide (kind<1)=true:=decide_eq_true h1;go_enter Tryz.func279,Tryz.ntmps279;go_wp2;go_ret;exact⟨rfl,(((Below.refl _ _).alloc (Nat.le_refl _) _).alloc (by simp) _).alloc (by simp;omega) _⟩
 by_cases h2:19<kind
 ·have hq:iB nt i ⟨kind,tok,ks⟩=false:=by simp[iB,h2]
  rw[hq];clear hq;have d1:decide (kind<1)=false:=decide_eq_false h1;have d2:decide (19<kind)=true:=decide_eq_true h2;go_enter Tryz.func279,Tryz.ntmps279;go_wp2;go_ret;exact⟨rfl,(((Below.refl _ _).alloc (Nat.le_refl _) _).alloc (by simp) _).alloc (by simp;omega) _⟩
 have d1:decide (kind<1)=false:=decide_eq_false h1;have d2:decide (19<kind)=false:=decide_eq_false h2
 by_cases h3:kind=19
 ·subst h3
  have hq:iB nt i ⟨19,tok,ks⟩=(decide ((ks.length:Int)=0) && (decide (0≤tok) && decide (tok<nt))):=by simp[iB]
  rw[hq];clear hq hk d1 d2
  by_cases h4:ks.length=0
  ·obtain rfl:ks=[]:=List.length_eq_zero_iff.1 h4
   clear h4
   by_cases h5:0≤tok
   ·have d5:decide (0≤tok)=true:=decide_eq_true h5
    cases d6:decide (tok<(nt:Int)) with
    | true =>
     go_enter Tryz.func279,Tryz.ntmps279;go_wp2;go_ret;exact⟨aX (by simp[*]),(((Below.refl _ _).alloc (Nat.le_refl _) _).alloc (by simp) _).alloc (by simp;omega) _⟩
    | false =>
     go_enter Tryz.func279,Tryz.ntmps279;go_wp2;go_ret;exact⟨aX (by simp[*]),(((Below.refl _ _).alloc (Nat.le_refl _) _).alloc (by simp) _).alloc (by simp;omega) _⟩
   ·have d5:decide (0≤tok)=false:=decide_eq_false h5
    go_enter Tryz.func279,Tryz.ntmps279;go_wp2;go_ret;exact⟨aX (by simp[*]),(((Below.refl _ _).alloc (Nat.le_refl _) _).alloc (by simp) _).alloc (by simp;omega) _⟩
  ·have d4:((ks.length:Int) == 0)=false:=by simp[h4]
   have d5:decide ((ks.length:Int)=0)=false:=decide_eq_false (by omega);rw[d5,Bool.false_and];clear d5;go_enter Tryz.func279,Tryz.ntmps279;go_wp2;go_ret;exact⟨rfl,(((Below.refl _ _).alloc (Nat.le_refl _) _).alloc (by simp) _).alloc (by simp;omega) _⟩
 ·have d3:(kind == 19)=false:=by simp[h3]
  by_cases h4:tok=-1
  ·subst h4
   have hq:iB nt i ⟨kind,-1,ks⟩=!(ks.any (BA i)):=by
    unfold iB;rw[if_neg (by simp only;omega),if_neg h3]
    rfl
   rw[hq];clear hq;have HK:=ah hk;clear hk;go_enter Tryz.func279,Tryz.ntmps279;go_wp2_with (go_at_call 235;refine(vE i (w.heap.size+1) B _ ks _ ?c1 (HK.out.below ?c2) hn).mono ?_)
   case c2=>exact(((Below.refl _ _).alloc hB _).alloc (by simp;omega) _).alloc (by simp;omega) _
   go_ret;exact⟨rfl,(((Below.refl _ _).alloc (Nat.le_refl _) _).alloc (by simp) _).alloc (by simp;omega) _⟩
  ·have hq:iB nt i ⟨kind,tok,ks⟩=false:=by
    unfold iB;rw[if_neg (by simp only;omega),if_neg h3];simp[h4]
   rw[hq];clear hq hk
   have d4:(tok == -1)=false:=by simp[h4]
   go_enter Tryz.func279,Tryz.ntmps279;go_wp2;go_ret;exact⟨rfl,(((Below.refl _ _).alloc (Nat.le_refl _) _).alloc (by simp) _).alloc (by simp;omega) _⟩
def lS (P:Nat→Prop)(w:World)(v:Value)(sz n:Nat)(cs:List Value):Prop :=
 ∃ ao cap,v=.slice ao n cap∧n≤cap∧cs.length=n * sz ∧
  (0<n→∃ b off,ao=some ⟨b,off,none⟩∧P b∧b<w.heap.size∧∀ i,(h:i<cs.length)→w.cell? ⟨b,off+i,none⟩=some cs[i])
def aQ (P:Nat→Prop)(w w':World):Prop:=w.heap.size≤w'.heap.size∧∀ b,P b→b<w.heap.size→w'.heap[b]?=w.heap[b]?
theorem aQ.refl (P:Nat→Prop)(w:World):aQ P w w:=⟨Nat.le_refl _,fun _ _ _=>rfl⟩
theorem aQ.trans {P:Nat→Prop}{a b c:World}(h:aQ P a b)(k:aQ P b c):aQ P a c:=⟨Nat.le_trans h.1 k.1,fun n hn hl=>(k.2 n hn (Nat.lt_of_lt_of_le hl h.1)).trans (h.2 n hn hl)⟩
theorem aQ.of {P:Nat→Prop}{w w':World}(h:Below w.heap.size w w'):aQ P w w':=⟨h.size,fun b _ hb=>h.block b hb⟩
theorem aQ.sI {P:Nat→Prop}{B:Nat}{w w':World}(h:Below B w w')(hP:∀ b,P b→b<B):aQ P w w':=⟨h.size,fun b hb _=>h.block b (hP b hb)⟩
theorem aQ.grown {P:Nat→Prop}{w w':World}{row:Option Nat}(h:w.grownBy w' row)(hP:∀ b,P b→some b≠row):aQ P w w':=⟨h.size,fun b hb hl=>h.block b hl (hP b hb)⟩
theorem aQ.set {P:Nat→Prop}{w:World}{a:Addr}(u:Value)(hP:∀ b,P b→b≠a.block):aQ P w (w.setCell a u):=⟨by simp,fun b hb _=>heap_setCell_other _ _ _ _ (hP b hb)⟩
theorem lS.frame {P:Nat→Prop}{w w':World}{v:Value}{sz n:Nat}{cs:List Value}(h:lS P w v sz n cs)(ha:aQ P w w'):lS P w' v sz n cs:=by
 obtain⟨ao,cap,hv,hn,hl,hc⟩:=h;refine⟨ao,cap,hv,hn,hl,fun h0=>?_⟩;obtain⟨b,off,e,hP,hlt,hcell⟩:=hc h0;exact⟨b,off,e,hP,Nat.lt_of_lt_of_le hlt ha.1,fun i hi=>(World.cell?_of_block (a:=⟨b,off+i,none⟩) (ha.2 b hP hlt)).trans (hcell i hi)⟩
theorem lS.imp {P Q:Nat→Prop}{w:World}{v:Value}{sz n:Nat}{cs:List Value}(h:lS P w v sz n cs)(hq:∀ b,P b→b<w.heap.size→Q b):lS Q w v sz n cs:=by
 obtain⟨ao,cap,hv,hn,hl,hc⟩:=h;refine⟨ao,cap,hv,hn,hl,fun h0=>?_⟩;obtain⟨b,off,e,hP,hlt,hcell⟩:=hc h0;exact⟨b,off,e,hq b hP hlt,hlt,hcell⟩
theorem lS.nil (P:Nat→Prop)(w:World)(sz:Nat):lS P w (.slice none 0 0) sz 0 []:=⟨none,0,rfl,Nat.le_refl _,by simp,fun h=>absurd h (by omega)⟩
theorem lS.fF {P:Nat→Prop}{B:Nat}{w:World}{e sz:Nat}{v:Value}{n:Nat}{cs:List Value}(h:w.ownsRow B e sz v n cs)(hP:∀ b,B≤b→P b):lS P w v sz n cs:=by
 obtain⟨ao,cap,hv,hn,hl,hc⟩:=Sl.fF h;refine⟨ao,cap,hv,hn,hl,fun h0=>?_⟩;obtain⟨b,off,e,hlt,hcell⟩:=hc h0;refine⟨b,off,e,hP b ?_,hlt,hcell⟩
 rcases h.2 with ⟨hv',h1⟩|⟨g,cap',cur,hv',hg,_⟩
 ·omega
 ·rw[hv,e] at hv'
  simp only[Value.slice.injEq,Option.some.injEq,Addr.mk.injEq] at hv';omega
theorem lS.form {P:Nat→Prop}{w:World}{v:Value}{sz n:Nat}{cs:List Value}(h:lS P w v sz n cs):∃ ao cap,v=.slice ao n cap:=by
 obtain⟨ao,cap,hv,_⟩:=h;exact⟨ao,cap,hv⟩
structure Shape where
 sz:Nat
 cells:PE→Value→Value→List Value
 agg:PE→Value→Value→Value
 num:(Nat→Prop)→World→Int→Value→Prop
 len:∀ e m k,(cells e m k).length=sz
 frame:∀ {P:Nat→Prop} {w w':World} {n:Int} {m:Value},num P w n m→aQ P w w'→num P w' n m
 imp:∀ {P Q:Nat→Prop} {w:World} {n:Int} {m:Value},num P w n m→(∀ b,P b→b<w.heap.size→Q b)→num Q w n m
def nV (S:Shape):List PE→List (Value × Value)→List Value
 | e :: es,p :: l=>S.cells e p.1 p.2++nV S es l
 | _,_=>[]
mutual
def kI (S:Shape)(P:Nat→Prop)(w:World)(mag kv:Value):PE→Prop
 | .mk _op _name Ym num afb adD kids _at_=>S.num P w num mag∧∃ l:List (Value × Value),lS P w kv S.sz kids.length (nV S kids l)∧fJ S P w l kids
def fJ (S:Shape)(P:Nat→Prop)(w:World)(l:List (Value × Value)):List PE→Prop
 | []=>l=[]
 | e :: es=>∃ p l',l=p :: l'∧kI S P w p.1 p.2 e∧fJ S P w l' es
end
mutual
theorem kI.frame {S:Shape}{P:Nat→Prop}{w w':World}(ha:aQ P w w'):∀ {e:PE} {m k:Value},kI S P w m k e→kI S P w' m k e
 | .mk op name module num txt yes kids at_,m,k,h=>by
  rw[kI] at h ⊢;obtain⟨h1,l,h2,h3⟩:=h;exact⟨S.frame h1 ha,l,h2.frame ha,fJ.frame ha h3⟩
theorem fJ.frame {S:Shape}{P:Nat→Prop}{w w':World}(ha:aQ P w w'):∀ {es:List PE} {l:List (Value × Value)},fJ S P w l es→fJ S P w' l es
 | [],l,h=>by rw[fJ] at h ⊢;exact h
 | e :: es,l,h=>by
  rw[fJ] at h ⊢;obtain⟨p,l',h1,h2,h3⟩:=h;exact⟨p,l',h1,kI.frame ha h2,fJ.frame ha h3⟩
end
mutual
theorem kI.imp {S:Shape}{P Q:Nat→Prop}{w:World}(hq:∀ b,P b→b<w.heap.size→Q b):∀ {e:PE} {m k:Value},kI S P w m k e→kI S Q w m k e
 | .mk op name module num txt yes kids at_,m,k,h=>by
  rw[kI] at h ⊢;obtain⟨h1,l,h2,h3⟩:=h;exact⟨S.imp h1 hq,l,h2.imp hq,fJ.imp hq h3⟩
theorem fJ.imp {S:Shape}{P Q:Nat→Prop}{w:World}(hq:∀ b,P b→b<w.heap.size→Q b):∀ {es:List PE} {l:List (Value × Value)},fJ S P w l es→fJ S Q w l es
 | [],l,h=>by rw[fJ] at h ⊢;exact h
 | e :: es,l,h=>by
  rw[fJ] at h ⊢;obtain⟨p,l',h1,h2,h3⟩:=h;exact⟨p,l',h1,kI.imp hq h2,fJ.imp hq h3⟩
end
theorem fJ.len {S:Shape}{P:Nat→Prop}{w:World}:∀ {es:List PE} {l:List (Value × Value)},fJ S P w l es→l.length=es.length
 | [],l,h=>by rw[fJ] at h;subst h;rfl
 | e :: es,l,h=>by
  rw[fJ] at h;obtain⟨p,l',rfl,_,h3⟩:=h;simp[fJ.len h3]
theorem fJ.snoc {S:Shape}{P:Nat→Prop}{w:World}:∀ {es:List PE} {l:List (Value × Value)} {e:PE} {m k:Value},fJ S P w l es→kI S P w m k e→fJ S P w (l++[(m,k)]) (es++[e])
 | [],l,e,m,k,h,h2=>by
  rw[fJ] at h;subst h;rw[List.nil_append,List.nil_append,fJ];exact⟨(m,k),[],rfl,h2,by rw[fJ]⟩
 | x :: es,l,e,m,k,h,h2=>by
  rw[fJ] at h;obtain⟨p,l',rfl,h3,h4⟩:=h;rw[List.cons_append,List.cons_append,fJ];exact⟨p,_,rfl,h3,h4.snoc h2⟩
theorem BD (S:Shape):∀ (es:List PE) (l:List (Value × Value)) (e:PE) (m k:Value),l.length=es.length→nV S (es++[e]) (l++[(m,k)])=nV S es l++S.cells e m k
 | [],[],e,m,k,_=>by simp[nV]
 | x :: es,p :: l,e,m,k,h=>by
  simp only[List.cons_append,nV,BD S es l e m k (by simpa using h),List.append_assoc]
 | [],_ :: _,_,_,_,h=>by simp at h
 | _ :: _,[],_,_,_,h=>by simp at h
theorem JA (S:Shape):∀ (es:List PE) (l:List (Value × Value)) (i j:Nat) (hl:l.length=es.length) (hi:i<es.length),j<S.sz→(nV S es l)[i * S.sz+j]?=(S.cells es[i] (l[i]'(by omega)).1 (l[i]'(by omega)).2)[j]?
 | [],[],i,j,_,h,_=>absurd h (by simp)
 | x :: es,p :: l,0,j,_,_,hj=>by
  simp only[nV,Nat.zero_mul,Nat.zero_add,List.getElem_cons_zero];rw[List.getElem?_append_left (by rw[S.len];exact hj)]
 | x :: es,p :: l,i+1,j,hl,hi,hj=>by
  simp only[nV,List.getElem_cons_succ];rw[List.getElem?_append_right (by rw[S.len,Nat.succ_mul];omega),S.len,show (i+1) * S.sz+j - S.sz=i * S.sz+j by rw[Nat.succ_mul];omega];exact JA S es l i j (by simpa using hl) (by simpa using hi) hj
 | [],_ :: _,_,_,h,_,_=>by simp at h
 | _ :: _,[],_,_,h,_,_=>by simp at h
theorem fJ.get {S:Shape}{P:Nat→Prop}{w:World}:∀ {es:List PE} {l:List (Value × Value)} (h:fJ S P w l es) (i:Nat) (hi:i<es.length),kI S P w (l[i]'(by rw[h.len];exact hi)).1 (l[i]'(by rw[h.len];exact hi)).2 es[i]
 | [],l,h,i,hi=>absurd hi (by simp)
 | e :: es,l,h,i,hi=>by
  have h':=h;rw[fJ] at h';obtain⟨p,l',rfl,h3,h4⟩:=h'
  cases i with
  | zero=>exact h3
  | succ i=>exact h4.get i (by simpa using hi)
theorem kI.form {S:Shape}{P:Nat→Prop}{w:World}{e:PE}{mag kv:Value}(h:kI S P w mag kv e):S.num P w e.num mag∧∃ ao cap,kv=.slice ao e.kids.length cap∧e.kids.length≤cap ∧
  (0<e.kids.length→∃ b off,ao=some ⟨b,off,none⟩∧P b∧b<w.heap.size∧∀ i,(hi:i<e.kids.length)→∃ m k,kI S P w m k e.kids[i]∧∀ j u,(S.cells e.kids[i] m k)[j]?=some u→w.cell? ⟨b,off+i * S.sz+j,none⟩=some u):=by
 cases e with
 | mk op name module num txt yes kids at_ =>
  rw[kI] at h;obtain⟨h1,l,⟨ao,cap,hv,hn,hl,hc⟩,h3⟩:=h;refine⟨h1,ao,cap,hv,hn,fun h0=>?_⟩;obtain⟨b,off,ha,hP,hlt,hcell⟩:=hc h0;refine⟨b,off,ha,hP,hlt,fun i hi=>?_⟩;have hll:=h3.len;refine⟨_,_,h3.get i hi,fun j u hu=>?_⟩
  have hj:j<S.sz:=by
   rcases Nat.lt_or_ge j S.sz with h'|h'
   ·exact h'
   ·rw[List.getElem?_eq_none (by rw[S.len];exact h')] at hu;cases hu
  have hr:=JA S kids l i j hll hi hj;have hu':=hr.trans hu;obtain⟨h',e⟩:=mR hu';have:=hcell (i * S.sz+j) h';rw[e] at this;rw[Nat.add_assoc];exact this
def kN (P:Nat→Prop)(w:World)(n:Int)(m:Value):Prop :=
 ∃ ws:List Nat,lS P w m 1 ws.length (ws.map fun d=>.int .u32 (d:Nat))∧bN ws=ws∧(∀ x∈ws,x<4294967296)∧gM ws=n.natAbs
def bY (l:List UInt8):Value:=.string ⟨l.toArray⟩
def XA:Shape where
 sz:=8
 cells e m k:=[.int .i64 e.op,bY e.name,bY e.module,.bool (decide (e.num<0)),m,.bool e.yes,k,.int .i64 e.at_]
 agg e m k:=.agg #[.int .i64 e.op,bY e.name,bY e.module,.bool (decide (e.num<0)),m,.bool e.yes,k,.int .i64 e.at_]
 num:=kN
 len _ _ _:=rfl
 frame h ha:=by obtain⟨ws,h1,h2⟩:=h;exact⟨ws,h1.frame ha,h2⟩
 imp h hq:=by obtain⟨ws,h1,h2⟩:=h;exact⟨ws,h1.imp hq,h2⟩
def XR:Shape where
 sz:=7
 cells e _ k:=[.int .i64 e.op,bY e.name,bY e.module,bY e.txt,.bool e.yes,k,.int .i64 e.at_]
 agg e _ k:=.agg #[.int .i64 e.op,bY e.name,bY e.module,bY e.txt,.bool e.yes,k,.int .i64 e.at_]
 num _ _ _ _:=True
 len _ _ _:=rfl
 frame _ _:=trivial
 imp _ _:=trivial
theorem kN.zero (P:Nat→Prop)(w:World):kN P w 0 (.slice none 0 0):=⟨[],lS.nil P w 1,rfl,fun x h=>(by cases h),rfl⟩
def EPost (S:Shape)(e:PE)(w:World)(r:Ending)(w':World):Prop:=∃ m k,r=.returned (S.agg e m k)∧kI S (fun b=>w.heap.size≤b) w' m k e∧Below w.heap.size w w'
theorem lM.Mv {nodes:List Nd}{n:Int}{u:Nat}(h:lM nodes n u .leaf):∃ i:Nat,n=i∧nodes[i]?=some ⟨19,(u:Nat),[]⟩:=by
 rw[lM] at h;exact⟨n.toNat,by omega,h.2⟩
theorem aP.tok {B:Nat}{w:World}{tv nv:Value}{toks:List Tok}{nodes:List Nd}(h:aP B w (.agg #[tv,nv]) toks nodes){u:Nat}(hu:u<toks.length) :
  ∃ b off cap,tv=.slice (some ⟨b,off,none⟩) toks.length cap∧b<B∧w.cell? ⟨b,off+u * 4,none⟩=some (.int .i64 toks[u].kind)∧w.cell? ⟨b,off+u * 4+1,none⟩=some (bY toks[u].lead)∧w.cell? ⟨b,off+u * 4+2,none⟩=some (bY toks[u].text)∧w.cell? ⟨b,off+u * 4+3,none⟩=some (.int .i64 toks[u].place):=by
 obtain⟨tv',nv',l,h1,h2,h3,h4,h5⟩:=h
 obtain⟨rfl,rfl⟩:tv=tv'∧nv=nv':=by simpa using h1
 obtain⟨ao,cap,rfl,_,hf⟩:=h2.form (fun _=>rfl);obtain⟨b,off,rfl,hb,hc⟩:=hf (by omega);exact⟨b,off,cap,rfl,hb,hc u 0 _ hu rfl,hc u 1 _ hu rfl,hc u 2 _ hu rfl,hc u 3 _ hu rfl⟩
def mV (t:Tok):Value:=.agg #[.int .i64 t.kind,bY t.lead,bY t.text,.int .i64 t.place]
theorem jC (B:Nat)(tv nv:Value)(toks:List Tok)(nodes:List Nd)(i u:Nat)(w:World)(h:aP B w (.agg #[tv,nv]) toks nodes)(_hB:B≤w.heap.size)(hn:nodes[i]?=some ⟨19,(u:Nat),[]⟩)(hu:u<toks.length) :
  Calls Tryz.prog 67 #[.agg #[tv,nv],.int .i64 i] w fun e w'=>e=.returned (mV toks[u])∧Below w.heap.size w w':=by
 obtain⟨hi,hni⟩:=mR hn;obtain⟨b,off,cap,kv,rfl,hb,_,x1,_,_⟩:=h.node hi;obtain⟨b2,off2,cap2,rfl,hb2,t0,t1,t2,t3⟩:=h.tok hu;rw[hni] at x1;simp only at x1;generalize toks[u]=t at t0 t1 t2 t3;obtain⟨c,x,y,q⟩:=t;simp only[bY] at t0 t1 t2 t3;have hal:=((Below.refl w.heap.size w).alloc (Nat.le_refl _) (.cells #[.slice (some ⟨b2,off2,none⟩) toks.length cap2,.slice (some ⟨b,off,none⟩) nodes.length cap] 132)).alloc (by simp) (.cells #[.int .i64 0,.string ⟨#[]⟩,.string ⟨#[]⟩,.int .i64 0] 136);have x1':=cell_later hal x1;have y0:=cell_later hal t0;have y1:=cell_later hal t1;have y2:=cell_later hal t2;have y3:=cell_later hal t3
 have i1:(i:Int)<(nodes.length:Int):=by omega
 have i2:(u:Int)<(toks.length:Int):=by omega
 have hnr:((w.alloc (.cells #[.slice (some ⟨b2,off2,none⟩) toks.length cap2,.slice (some ⟨b,off,none⟩) nodes.length cap] 132)).alloc (.cells #[.int .i64 0,.string ⟨#[]⟩,.string ⟨#[]⟩,.int .i64 0] 136)).heap[w.heap.size]?=some (.cells #[.slice (some ⟨b2,off2,none⟩) toks.length cap2,.slice (some ⟨b,off,none⟩) nodes.length cap] 132 (0,0)):=(Lib.alloc_old _ _ _ (by simp)).trans (heap_alloc_new w _);have hnw:=heap_alloc_new (w.alloc (.cells #[.slice (some ⟨b2,off2,none⟩) toks.length cap2,.slice (some ⟨b,off,none⟩) nodes.length cap] 132)) (.cells #[.int .i64 0,.string ⟨#[]⟩,.string ⟨#[]⟩,.int .i64 0] 136);rw[World.size_alloc] at hnw;clear t0 t1 t2 t3 x1 hn hni h;go_enter Tryz.func67,Tryz.ntmps67;go_wp2;generalize (w.alloc _).alloc _=w1 at hnr hnw hal x1' y0 y1 y2 y3 ⊢
 have r0:w1.cell? ⟨w.heap.size,0,none⟩=some (.slice (some ⟨b2,off2,none⟩) toks.length cap2):=by rw[Lib.cell_of_heap hnr];rfl
 have r1:w1.cell? ⟨w.heap.size,1,none⟩=some (.slice (some ⟨b,off,none⟩) nodes.length cap):=by rw[Lib.cell_of_heap hnr];rfl
 go_still_tail 12,(by kernel_rfl)
 change wpList _ _ _ _ _ w1.drew;have TV:=hal.drew;have vC:w1.drew.heap[w.heap.size+1]?=some (.cells #[.int .i64 0,.string ⟨#[]⟩,.string ⟨#[]⟩,.int .i64 0] 136 (0,0)):=hnw;generalize w1.drew=w2 at TV vC ⊢
 have f0:w2.cell? ⟨w.heap.size+1,0,none⟩=some (.int .i64 0):=by rw[Lib.cell_of_heap vC];rfl
 have f1:w2.cell? ⟨w.heap.size+1,1,none⟩=some (.string ⟨#[]⟩):=by rw[Lib.cell_of_heap vC];rfl
 have f2:w2.cell? ⟨w.heap.size+1,2,none⟩=some (.string ⟨#[]⟩):=by rw[Lib.cell_of_heap vC];rfl
 have f3:w2.cell? ⟨w.heap.size+1,3,none⟩=some (.int .i64 0):=by rw[Lib.cell_of_heap vC];rfl
 have z0:∀ j,w2.frozen? ⟨w.heap.size+1,j,none⟩=false:=by intro j;simp[World.frozen?,vC]
 clear hnw vC i1 i2 y0 y1 y2 y3 r0 r1 x1';go_wp2;refine bodyPost_ret (v:=.agg #[.int .i64 c,.string ⟨x.toArray⟩,.string ⟨y.toArray⟩,.int .i64 q]) (by simp[results,Tryz.results67,go_sem,f0,f1,f2,f3]) rfl ⟨rfl,?_⟩;exact(((TV.setCell (by simp) _).setCell (by simp) _).setCell (by simp) _).setCell (by simp) _
theorem Tryz.QB (a b c d:Value)(w:World):(Instr.field 136 (.agg #[a,b,c,d]) 2).run Tryz.prog w=.ok c w:=by kernel_rfl
theorem uw (B:Nat)(tv nv:Value)(toks:List Tok)(nodes:List Nd)(i u:Nat)(w:World)(h:aP B w (.agg #[tv,nv]) toks nodes)(hB:B≤w.heap.size)(hn:nodes[i]?=some ⟨19,(u:Nat),[]⟩)(hu:u<toks.length) :
  Calls Tryz.prog 110 #[.agg #[tv,nv],.int .i64 i] w fun e w'=>e=.returned (bY toks[u].text)∧Below w.heap.size w w':=by
 have hb1:=(Below.refl w.heap.size w).alloc (Nat.le_refl _) (.cells #[tv,nv] 132);have HT:=ah (jC B tv nv toks nodes i u _ (h.below (hb1.mono hB)) (by have:=hb1.size;omega) hn hu);obtain⟨a1,c1,a2,c2,e⟩:=h.slices
 obtain⟨rfl,rfl⟩:tv=_∧nv=_:=by simpa using e
 generalize toks[u]=t at HT ⊢
 have hf:=fun w=>Tryz.QB (.int .i64 t.kind) (bY t.lead) (bY t.text) (.int .i64 t.place) w
 unfold mV at HT;clear h hn e;go_enter Tryz.func110,Tryz.ntmps110;go_wp2_with (go_at_call 67;refine HT.out.mono ?_;rintro e w1 ⟨rfl,hb2⟩);go_ret;exact⟨rfl,hb1.trans (hb2.mono hb1.size)⟩
theorem Tryz.kP:(Tryz.prog.info? 3).map (fun i=>(i.zero,i.size,i.bytes))=some (some (.int .i64 0),1,8):=by kernel_rfl
theorem JB (nodes:List Nd)(ks:List Int)(k:Int):fG nodes (ks++[k])=fG nodes ks++if (nodes[k.toNat]?.map (·.kind)).getD 19 != 19 then [k] else []:=by
 unfold fG;rw[List.filter_append]
 congr 1
 rw[List.filter_cons,List.filter_nil]
def abX (ks:List Int)(w:World)(e:Ending)(w':World):Prop:=∃ v,e=.returned v∧lS (fun b=>w.heap.size≤b) w' v 1 ks.length (ks.map (Value.int .i64))∧Below w.heap.size w w'
theorem lS.ints {P:Nat→Prop}{w:World}{v:Value}{ks:List Int}(h:lS P w v 1 ks.length (ks.map (Value.int .i64))):∃ ao cap,v=.slice ao ks.length cap∧ks.length≤cap ∧
  (0<ks.length→∃ b off,ao=some ⟨b,off,none⟩∧P b∧b<w.heap.size∧∀ j,(hj:j<ks.length)→w.cell? ⟨b,off+j,none⟩=some (.int .i64 ks[j])):=by
 obtain⟨ao,cap,hv,hn,hl,hc⟩:=h;refine⟨ao,cap,hv,hn,fun h0=>?_⟩;obtain⟨b,off,ha,hP,hlt,hcell⟩:=hc h0;exact⟨b,off,ha,hP,hlt,fun j hj=>by rw[hcell j (by simpa using hj)];simp⟩
theorem Mw (B:Nat)(tv nv:Value)(toks:List Tok)(nodes:List Nd)(i:Nat)(w:World)(h:aP B w (.agg #[tv,nv]) toks nodes)(hB:B≤w.heap.size)(hi:i<nodes.length)
  (hk:∀ k∈nodes[i].kids,0≤k∧k<(nodes.length:Int)) (hl:nodes[i].kids.length≤1099511627776) :
  Calls Tryz.prog 240 #[.agg #[tv,nv],.int .i64 i] w (abX (fG nodes nodes[i].kids) w):=by
 obtain⟨i0,aaB,hz0,hz1,hz2⟩:=info_parts Tryz.kP;have HT:=ah h;obtain⟨a1,c1,_,_,e⟩:=h.slices;obtain⟨b,off,cap,kv,rfl,hb,_,_,x2,hkv⟩:=h.node hi
 obtain⟨rfl,-⟩:tv=.slice a1 toks.length c1∧_:=by simpa using e
 generalize nodes[i].kids=ks at hk hl hkv ⊢;obtain⟨ak,ck,rfl,_,hf⟩:=hkv.form;have HF:=ah hf;have HK:=ah hk;have hal:=(Below.refl w.heap.size w).alloc (Nat.le_refl _) (.cells #[.slice a1 toks.length c1,.slice (some ⟨b,off,none⟩) nodes.length cap] 132);have x2':=cell_later hal x2;have hnr:=heap_alloc_new w (.cells #[.slice a1 toks.length c1,.slice (some ⟨b,off,none⟩) nodes.length cap] 132)
 have r0:(w.alloc (.cells #[.slice a1 toks.length c1,.slice (some ⟨b,off,none⟩) nodes.length cap] 132)).cell? ⟨w.heap.size,1,none⟩=some (.slice (some ⟨b,off,none⟩) nodes.length cap):=by rw[Lib.cell_of_heap hnr];rfl
 have i1:(i:Int)<(nodes.length:Int):=by omega
 clear hf hk h e hkv x2;go_enter Tryz.func240,Tryz.ntmps240;go_wp2;generalize w.alloc _=w1 at hnr hal r0 x2' ⊢;have hsz1:=hal.size
 go_loopw [5,16] (fun v k wr=>∃ j:Nat,j≤ks.length∧k=.int .i64 j∧wr.ownsRow w.heap.size 3 1 v (fG nodes (ks.take j)).length ((fG nodes (ks.take j)).map (Value.int .i64))∧wr.heap[w.heap.size]?=some (.cells #[.slice a1 toks.length c1,.slice (some ⟨b,off,none⟩) nodes.length cap] 132 (0,0))∧Below w.heap.size w wr) (fun _ k _=>ks.length - (intOf k).toNat)
 case atStart=>exact⟨0,Nat.zero_le _,rfl,World.ownsRow_nil _ _ _ _,hnr,hal⟩
 case round =>
  obtain⟨j,hj,rfl,hown,hrr,hbl⟩:=hrel;have hz:=hbl.size;have hlt:=(bG hrr).1
  by_cases hjl:j<ks.length
  ·obtain⟨bk,ok,rfl,hbk,hcell⟩:=HF.out (by omega)
   have hx:=(hbl.cell (p:=⟨bk,ok+j,none⟩) (by show bk<_;omega)).trans (hcell j hjl);have hkj:=HK.out ks[j] (List.getElem_mem hjl);have hsn:=JB nodes (ks.take j) ks[j];rw[← List.take_succ_eq_append_getElem hjl] at hsn
   have JC:(j:Int)<(ks.length:Int):=by omega
   generalize ks[j]=q at hx hkj hsn
   obtain⟨m,rfl⟩:∃ m:Nat,q=(m:Int):=⟨q.toNat,by omega⟩
   have hm:m<nodes.length:=by omega
   obtain⟨b',off',cap',kv',e',_,y0,_,_,_⟩:=HT.out.node hm;simp only[Value.slice.injEq,Option.some.injEq,Addr.mk.injEq,and_true] at e'
   obtain⟨⟨rfl,rfl⟩,rfl⟩:(b=b'∧off=off')∧cap=cap':=by simpa using e'
   have y0':=(hbl.cell (p:=⟨b,off+m * 3,none⟩) (by show b<_;omega)).trans y0
   have Tg:(m:Int)<(nodes.length:Int):=by omega
   have r1:wr.cell? ⟨w.heap.size,1,none⟩=some (.slice (some ⟨b,off,none⟩) nodes.length cap):=by rw[Lib.cell_of_heap hrr];rfl
   have hlen:(fG nodes (ks.take j)).length≤j:=by
    have:=List.length_filter_le (fun k:Int=>(nodes[k.toNat]?.map (·.kind)).getD 19 != 19) (ks.take j);rw[List.length_take] at this;show (List.filter _ _).length≤j;omega
   simp only[Int.toNat_natCast,List.getElem?_eq_getElem hm,Option.map_some,Option.getD_some] at hsn;generalize nodes[m].kind=kd at y0' hsn;clear y0 hcell e'
   by_cases hd:kd=19
   ·subst hd
    simp only[bne_self_eq_false,Bool.false_eq_true,if_false,List.append_nil] at hsn;have HS:=ah hsn;clear hsn;go_wp2
    go_roundw
    case rel=>exact⟨j+1,by omega,by go_num,by rw[HS.out];exact hown,hrr,hbl⟩
    case measure=>simp[intOf];omega
   ·have hd1:(kd != 19)=true:=by simp[hd]
    have hd2:(kd == 19)=false:=by simp[hd]
    rw[hd1] at hsn;simp only[if_true] at hsn;have HS:=ah hsn;clear hsn;generalize fG nodes (ks.take j)=acc at hown hlen HS;go_wp2_with (at_builtin;refine wpList_append_own _ rfl _ _ 51 rfl w.heap.size 3 i0 (.int .i64 0) 1 8 Tryz.underlying51 aaB hz0 hz1 hz2 rfl (by decide) _ _ _ rfl (hown.alloc _) ⟨wr.heap.size,0,none⟩ 1 1 [.int .i64 m] rfl rfl ?c1 ?c2 ?c3 ?c4 ?c5 ?_)
    case c1 =>
     intro j' u hj';have:=World.news_of_block (cs:=#[.int .i64 (m:Int)]) (t:=3) (fr:=(0,0)) (heap_alloc_new wr _) j' u (by simpa using hj');exact this
    case c2=>simp[Value.oneCell']
    case c3=>unfold maxLen;omega
    case c4=>omega
    case c5=>simp;omega
    intro v' w2 hown2 hgrow2 _;have hb2:Below w.heap.size w w2:=(hbl.alloc hz _).grown hgrow2 (by simp;omega) (fun q hq=>by have:=(hown.lt q hq).1;omega);have QC:=fU (hown.alloc _) hgrow2 ((Lib.alloc_old wr (.cells #[.int .i64 m] 3) _ hlt).trans hrr) (by decide);have H2:=ah hown2;clear hgrow2 hown2 hown;go_wp2
    go_roundw
    case rel=>exact⟨j+1,by omega,by go_num,by rw[HS.out,bP,List.map_append];exact H2.out,QC,hb2⟩
    case measure=>simp[intOf];omega
  ·have:j=ks.length:=by omega
   subst this;rw[List.take_length] at hown;have JC:decide ((ks.length:Int)<(ks.length:Int))=false:=decide_eq_false (by omega);go_wp2;go_ret;exact⟨_,rfl,lS.fF hown (fun b hb=>hb),hbl⟩
theorem QD (E:aT)(hE:E.ok)(g:Nat)(ih:Al E g)(nest:Nat)(st:aB)(r:Int × aB)(w:World)(h:run E.toks E.depth (g+1) (.expr nest) st=some r)(hw:PW E st w)(hn:r.2.nodes.length+1≤1099511627776)(aaC:nest≤E.depth+1) :
  Calls Tryz.prog 172 #[.pointer (some ⟨E.pb,0,none⟩),.int .i64 nest] w (dh E r w):=by
 have rT:=hE.2.2;have HD:=ah (Bv E hE nest st w hw)
 have hnd:(aM E.toks E.depth nest st).fE=0→nest≤E.depth:=fun q=>by
  unfold aM at q
  split at q
  ·exact(kK (by decide) _ q).elim
  ·omega
 rw[run] at h;generalize aM E.toks E.depth nest st=s at HD h hnd
 by_cases hf:s.fE=0
 ·rw[if_neg (by simp[hf])] at h
  have Ud:=hnd hf;have hok:okB s=true:=decide_eq_true hf;have HD':Hid (Calls Tryz.prog 233 #[.pointer (some ⟨E.pb,0,none⟩),.int .i64 nest] w (ql E s false w)):=ah (HD.out.mono fun e w' ⟨he,hp⟩=>⟨by rw[he,hok];rfl,hp⟩);clear HD hnd hok
  by_cases hcl:s.clause=true
  ·rw[if_pos hcl] at h
   have HI:=ah (fun w' hp=>ih _ _ _ w' h hp hn Ud);clear h;go_enter Tryz.func172,Tryz.ntmps172;go_wp2_with (go_at_call 233;refine HD'.out.mono ?_);rintro e w1 ⟨rfl,hp1,hk1⟩;obtain⟨_,_,c2,_,_,_⟩:=hp1.cells;rw[hcl] at c2;clear hcl;go_wp2_with (go_at_call 234;refine(HI.out _ hp1).mono ?_);rintro e w2 ⟨rfl,hp2,hk2⟩;go_wp2;go_ret;exact⟨rfl,hp2,hk1.trans hk2⟩
  ·rw[if_neg hcl] at h
   have hcl':s.clause=false:=by simpa using hcl
   clear hcl
   have hHI:∀ (t:Task) (st:aB) (r:Int × aB),run E.toks E.depth g t st=some r→r.2.nodes.length+1≤1099511627776→vD E t→∀ w,PW E st w→lQ E r w t:=fun t st r h1 h2 h3 w h4=>ih t st r w h1 h4 h2 h3
   have ex:=aN E.toks E.depth g
   have fin:∀ a b:aB,bX a b→b.nodes.length+1≤1099511627776→a.nodes.length+1≤1099511627776:=fun a b h1 h2=>by have:=h1.2.2.2;omega
   have N1:=ah (fun w hp=>sH E hE ⟨#[108,101,116]⟩ s w hp);have N2:=ah (fun w hp=>sH E hE ⟨#[105,102]⟩ s w hp);have N3:=ah (fun w hp=>sH E hE ⟨#[97,115,115,101,114,116]⟩ s w hp)
   by_cases hl:aS E.toks s [abO]=true
   ·rw[if_pos hl] at h
    have e1:aS E.toks s [(⟨#[108,101,116]⟩:ByteArray).data.toList]=true:=hl;obtain⟨d,h1,h⟩:=bH h;obtain⟨f,h2,h⟩:=bH h
    injection h with h;subst h
    have n6:=fin _ _ (aD _ _ _) hn;have n5:=fin _ _ (ex _ _ _ h2) n6;have n4:=fin _ _ (aF _ _ _) n5;have n3:=fin _ _ (ex _ _ _ h1) n4;have n2:=fin _ _ (aF _ _ _) n3;have n1:=fin _ _ (dO _ _ _) n2;have n0:=fin _ _ (aJ _ _) n1;have C1:=ah (fun w hp=>bA E s w hp hE.1 hE.2.1 n0);have C2:=ah (fun w hp=>qj E hE 1 (ay E.toks s).2 w hp n1);have C3:=ah (fun w hp=>dx E hE ⟨#[61]⟩ (aO E.toks 1 (ay E.toks s).2).2 w hp n2);have C4:=ah (hHI _ _ _ h1 n4 (by show nest+1≤_;omega));have C5:=ah (fun w hp=>dx E hE ⟨#[105,110]⟩ d.2 w hp n4);have C6:=ah (hHI _ _ _ h2 n6 (by show nest+1≤_;omega));have C7:=ah (fun w hp=>gP E 7 [(ay E.toks s).1,(aO E.toks 1 (ay E.toks s).2).1,(aA E.toks [[61]] (aO E.toks 1 (ay E.toks s).2).2).1,d.1,(aA E.toks [Td] d.2).1,f.1] 6 _ f.2 w hp rfl rfl (by omega) n6);have E1:=ah e1;clear h1 h2 hl e1 n0 n1 n2 n3 n4 n5 n6 hHI ex fin ih hn;go_enter Tryz.func172,Tryz.ntmps172;go_wp2_with (go_at_call 233;refine HD'.out.mono ?_);rintro e w1 ⟨rfl,hp1,hk1⟩;obtain⟨_,_,c2,_,_,_⟩:=hp1.cells;rw[hcl'] at c2;go_wp2_with (go_at_call 165;refine(N1.out w1 hp1).mono ?_);rintro e w2 ⟨rfl,hp2,hk2⟩;rw[E1.out];obtain⟨d0,_,_,_,_,_⟩:=hp2.cells;clear c2;go_wp2_with (go_at_call 167;refine(C1.out w2 hp2).mono ?_);rintro e w3 ⟨rfl,hp3,hk3⟩;go_wp2_with (go_at_call 107;refine(C2.out w3 hp3).mono ?_);rintro e w4 ⟨rfl,nW,hk4⟩;go_wp2_with (go_at_call 168;refine(C3.out w4 nW).mono ?_);rintro e w5 ⟨rfl,rX,hk5⟩;go_wp2_with (go_at_call 172;refine(C4.out w5 rX).mono ?_);rintro e w6 ⟨rfl,BF,yB⟩;go_wp2_with (go_at_call 168;refine(C5.out w6 BF).mono ?_);rintro e w7 ⟨rfl,En,AA⟩;go_wp2_with (go_at_call 172;refine(C6.out w7 En).mono ?_);rintro e w8 ⟨rfl,QE,Ue⟩;go_wp2_with (go_at_call 106;refine(C7.out w8 QE).mono ?_);rintro e w9 ⟨rfl,Yn,Yo⟩;go_wp2;go_ret;exact⟨rfl,Yn,((((((hk1.trans hk2).trans hk3).trans hk4).trans hk5).trans yB).trans AA).trans (Ue.trans Yo)⟩
   ·rw[if_neg hl] at h
    have e1:aS E.toks s [(⟨#[108,101,116]⟩:ByteArray).data.toList]=false:=eq_false_of_ne_true hl;clear hl
    by_cases hi:aS E.toks s [tIf]=true
    ·rw[if_pos hi] at h
     have e2:aS E.toks s [(⟨#[105,102]⟩:ByteArray).data.toList]=true:=hi;obtain⟨b,h0,h⟩:=bH h;obtain⟨d,h1,h⟩:=bH h;obtain⟨f,h2,h⟩:=bH h
     injection h with h;subst h
     have n6:=fin _ _ (aD _ _ _) hn;have n5:=fin _ _ (ex _ _ _ h2) n6;have n4:=fin _ _ (aF _ _ _) n5;have n3:=fin _ _ (ex _ _ _ h1) n4;have n2:=fin _ _ (aF _ _ _) n3;have n1:=fin _ _ (ex _ _ _ h0) n2;have n0:=fin _ _ (aJ _ _) n1;have C1:=ah (fun w hp=>bA E s w hp hE.1 hE.2.1 n0);have C2:=ah (hHI _ _ _ h0 n2 (by show nest+1≤_;omega));have C3:=ah (fun w hp=>dx E hE ⟨#[116,104,101,110]⟩ b.2 w hp n2);have C4:=ah (hHI _ _ _ h1 n4 (by show nest+1≤_;omega));have C5:=ah (fun w hp=>dx E hE ⟨#[101,108,115,101]⟩ d.2 w hp n4);have C6:=ah (hHI _ _ _ h2 n6 (by show nest+1≤_;omega));have C7:=ah (fun w hp=>gP E 8 [(ay E.toks s).1,b.1,(aA E.toks [EI] b.2).1,d.1,(aA E.toks [EJ] d.2).1,f.1] 6 _ f.2 w hp rfl rfl (by omega) n6);have E1:=ah e1;have E2:=ah e2;clear h0 h1 h2 hi e1 e2 n0 n1 n2 n3 n4 n5 n6 hHI ex fin ih hn;go_enter Tryz.func172,Tryz.ntmps172;go_wp2_with (go_at_call 233;refine HD'.out.mono ?_);rintro e w1 ⟨rfl,hp1,hk1⟩;obtain⟨_,_,c2,_,_,_⟩:=hp1.cells;rw[hcl'] at c2;go_wp2_with (go_at_call 165;refine(N1.out w1 hp1).mono ?_);rintro e w2 ⟨rfl,hp2,hk2⟩;rw[E1.out];obtain⟨_,_,d2,_,_,_⟩:=hp2.cells;rw[hcl'] at d2;clear c2;go_wp2_with (go_at_call 165;refine(N2.out w2 hp2).mono ?_);rintro e w3 ⟨rfl,hp3,hk3⟩;rw[E2.out];obtain⟨d0,_,_,_,_,_⟩:=hp3.cells;clear d2;go_wp2_with (go_at_call 167;refine(C1.out w3 hp3).mono ?_);rintro e w4 ⟨rfl,nW,hk4⟩;go_wp2_with (go_at_call 172;refine(C2.out w4 nW).mono ?_);rintro e w5 ⟨rfl,rX,hk5⟩;go_wp2_with (go_at_call 168;refine(C3.out w5 rX).mono ?_);rintro e w6 ⟨rfl,BF,yB⟩;go_wp2_with (go_at_call 172;refine(C4.out w6 BF).mono ?_);rintro e w7 ⟨rfl,En,AA⟩;go_wp2_with (go_at_call 168;refine(C5.out w7 En).mono ?_);rintro e w8 ⟨rfl,QE,Ue⟩;go_wp2_with (go_at_call 172;refine(C6.out w8 QE).mono ?_);rintro e w9 ⟨rfl,Yn,Yo⟩;go_wp2_with (go_at_call 106;refine(C7.out w9 Yn).mono ?_);rintro e jR ⟨rfl,Yp,hk10⟩;go_wp2;go_ret
     exact⟨rfl,Yp,((((((((hk1.trans hk2).trans hk3).trans hk4).trans hk5).trans yB).trans AA).trans Ue).trans Yo).trans hk10⟩
    ·rw[if_neg hi] at h
     have e2:aS E.toks s [(⟨#[105,102]⟩:ByteArray).data.toList]=false:=eq_false_of_ne_true hi;clear hi
     by_cases ha:aS E.toks s [OW]=true
     ·rw[if_pos ha] at h
      have e3:aS E.toks s [(⟨#[97,115,115,101,114,116]⟩:ByteArray).data.toList]=true:=ha;obtain⟨b,h0,h⟩:=bH h;obtain⟨d,h1,h⟩:=bH h
      injection h with h;subst h
      have n4:=fin _ _ (aD _ _ _) hn;have n3:=fin _ _ (ex _ _ _ h1) n4;have n2:=fin _ _ (aF _ _ _) n3;have n1:=fin _ _ (ex _ _ _ h0) n2;have n0:=fin _ _ (aJ _ _) n1;have C1:=ah (fun w hp=>bA E s w hp hE.1 hE.2.1 n0);have C2:=ah (hHI _ _ _ h0 n2 (by show nest+1≤_;omega));have C3:=ah (fun w hp=>dx E hE ⟨#[105,110]⟩ b.2 w hp n2);have C4:=ah (hHI _ _ _ h1 n4 (by show nest+1≤_;omega));have C5:=ah (fun w hp=>gP E 9 [(ay E.toks s).1,b.1,(aA E.toks [Td] b.2).1,d.1] 4 _ d.2 w hp rfl rfl (by omega) n4);have E1:=ah e1;have E2:=ah e2;have E3:=ah e3;clear h0 h1 ha e1 e2 e3 n0 n1 n2 n3 n4 hHI ex fin ih hn;go_enter Tryz.func172,Tryz.ntmps172;go_wp2_with (go_at_call 233;refine HD'.out.mono ?_);rintro e w1 ⟨rfl,hp1,hk1⟩;obtain⟨_,_,c2,_,_,_⟩:=hp1.cells;rw[hcl'] at c2;go_wp2_with (go_at_call 165;refine(N1.out w1 hp1).mono ?_);rintro e w2 ⟨rfl,hp2,hk2⟩;rw[E1.out];go_wp2_with (go_at_call 165;refine(N2.out w2 hp2).mono ?_);rintro e w3 ⟨rfl,hp3,hk3⟩;rw[E2.out];go_wp2_with (go_at_call 165;refine(N3.out w3 hp3).mono ?_);rintro e w4 ⟨rfl,nW,hk4⟩;rw[E3.out];obtain⟨d0,_,_,_,_,_⟩:=nW.cells;clear c2;go_wp2_with (go_at_call 167;refine(C1.out w4 nW).mono ?_);rintro e w5 ⟨rfl,rX,hk5⟩;go_wp2_with (go_at_call 172;refine(C2.out w5 rX).mono ?_);rintro e w6 ⟨rfl,BF,yB⟩;go_wp2_with (go_at_call 168;refine(C3.out w6 BF).mono ?_);rintro e w7 ⟨rfl,En,AA⟩;go_wp2_with (go_at_call 172;refine(C4.out w7 En).mono ?_);rintro e w8 ⟨rfl,QE,Ue⟩;go_wp2_with (go_at_call 106;refine(C5.out w8 QE).mono ?_);rintro e w9 ⟨rfl,Yn,Yo⟩;go_wp2;go_ret;exact⟨rfl,Yn,(((((((hk1.trans hk2).trans hk3).trans hk4).trans hk5).trans yB).trans AA).trans Ue).trans Yo⟩
     ·rw[if_neg ha] at h
      have e3:aS E.toks s [(⟨#[97,115,115,101,114,116]⟩:ByteArray).data.toList]=false:=eq_false_of_ne_true ha;have HI:=ah (hHI _ _ _ h hn Ud);have E1:=ah e1;have E2:=ah e2;have E3:=ah e3;clear h ha e1 e2 e3 hHI ex fin ih hn;go_enter Tryz.func172,Tryz.ntmps172;go_wp2_with (go_at_call 233;refine HD'.out.mono ?_);rintro e w1 ⟨rfl,hp1,hk1⟩;obtain⟨_,_,c2,_,_,_⟩:=hp1.cells;rw[hcl'] at c2;go_wp2_with (go_at_call 165;refine(N1.out w1 hp1).mono ?_);rintro e w2 ⟨rfl,hp2,hk2⟩;rw[E1.out];go_wp2_with (go_at_call 165;refine(N2.out w2 hp2).mono ?_);rintro e w3 ⟨rfl,hp3,hk3⟩;rw[E2.out];go_wp2_with (go_at_call 165;refine(N3.out w3 hp3).mono ?_);rintro e w4 ⟨rfl,nW,hk4⟩;rw[E3.out];go_wp2_with (go_at_call 234;refine(HI.out w4 nW).mono ?_);rintro e w5 ⟨rfl,rX,hk5⟩;go_wp2;go_ret;exact⟨rfl,rX,(((hk1.trans hk2).trans hk3).trans hk4).trans hk5⟩
 ·rw[if_pos hf] at h
  injection h with h
  subst h;have hok:okB s=false:=decide_eq_false hf;have HD':Hid (Calls Tryz.prog 233 #[.pointer (some ⟨E.pb,0,none⟩),.int .i64 nest] w (ql E s true w)):=ah (HD.out.mono fun e w' ⟨he,hp⟩=>⟨by rw[he,hok];rfl,hp⟩);clear HD hnd hok hf;go_enter Tryz.func172,Tryz.ntmps172;go_wp2_with (go_at_call 233;refine HD'.out.mono ?_);rintro e w1 ⟨rfl,hp1,hk1⟩;go_wp2;go_ret;exact⟨rfl,hp1,hk1⟩
end Go.Proofs.YtknicmmigbhpcaaGreatDoor
