/- Walks and plain laws: Open, ShowArgs, TypedArgs, Law. -/
import Derived.Deep.Slices
import Derived.Deep.Fields
import Derived.ChangeSame
import Derived.Test.YtdednahplodojaaGreatDoorB34
import Derived.Test.YtdednahplodojaaGreatDoorRows
import Derived.ProofKit
import Derived.OpenShut
import Derived.OpenVars
set_option maxHeartbeats 16000000
set_option maxRecDepth 100000
set_option linter.unusedVariables false
set_option linter.unusedSimpArgs false
namespace Go.Proofs.YtdednahplodojaaGreatDoor
open Go.ChangeShapes Go.WideShapes Go.Deep Go.RowKit
theorem exists_list {α:Type}{Q:Nat→α→Prop}:∀ (n:Nat),(∀ i,i<n→∃ a,Q i a)→∃ l:List α,l.length=n∧∀ i (h:i<l.length),Q i l[i]
 | 0,_=>⟨[],rfl,fun i h=>absurd h (by simp)⟩
 | n+1,h=>by
  obtain ⟨l,hl,hq⟩:=exists_list n (fun i hi=>h i (by omega))
  obtain ⟨a,ha⟩:=h n (by omega)
  refine ⟨l++[a],by simp [hl],fun i hi=>?_⟩
  rcases Nat.lt_or_ge i l.length with h'|h'
  ·rw [List.getElem_append_left h'];exact hq i h'
  ·have:i=n:=by simp at hi;omega
   subst this
   rw [List.getElem_append_right h']
   simp only [hl,Nat.sub_self]
   exact ha
theorem Rec.of {α:Type}{B b off len cap sz:Nat}{w:World}{f:α→List Value}{l:List α}(hf:∀ x,(f x).length=sz)(hl:l.length=len)(hcap:len≤cap)(hb:b<B)(hsz:0<sz)
  (hc:∀ i (h:i<l.length),∀ j u,(f l[i])[j]?=some u→w.cell? ⟨b,off+(i * sz+j),none⟩=some u) :
  Rec B w (.slice (some ⟨b,off,none⟩) len cap) sz f l:=by
 subst hl
 refine ⟨some ⟨b,off,none⟩,cap,rfl,hcap,flat_length hf l,fun _=>⟨b,off,rfl,hb,fun i hi=>?_⟩⟩
 rw [flat_length hf] at hi
 have h1:i / sz<l.length:=Nat.div_lt_of_lt_mul (by rw [Nat.mul_comm];exact hi)
 have h2:i % sz<sz:=Nat.mod_lt _ hsz
 have h3:i / sz * sz+i % sz=i:=by rw [Nat.mul_comm];exact Nat.div_add_mod i sz
 have h4:=flat_at hf l (i / sz) (i % sz) h1 h2
 rw [h3] at h4
 have h5:(f l[i / sz])[i % sz]?=some ((f l[i / sz])[i % sz]'(by rw [hf];exact h2)):=List.getElem?_eq_getElem _
 have h6:=hc (i / sz) h1 (i % sz) _ h5
 rw [h3] at h6
 rw [h6]
 rw [h5] at h4
 obtain ⟨h7,h8⟩:=List.getElem?_eq_some_iff.1 h4
 rw [h8]
theorem Rec.nil {α:Type}{B cap sz:Nat}{w:World}{f:α→List Value}{ao:Option Addr}:Rec B w (.slice ao 0 cap) sz f [] :=
 ⟨ao,cap,rfl,Nat.zero_le _,by simp,fun h=>absurd h (by simp)⟩
theorem add_none (b off n:Nat):(⟨b,off,none⟩:Addr).add n=⟨b,off+n,none⟩:=by
 unfold Addr.add
 split
 ·rename_i h;subst h;rfl
 ·rfl
theorem open_recs {H:Type}{enc:TypeId × Value→H}{P:Program}{w:World}{base:Nat}{spare:Nat→Bool}{held:Bool}{α:Type}{g:α→List Value}{Good:α→Prop}{sz:Nat}{t e:TypeId}{fs:Array Field}{fuel:Nat}{v:Value}{x:DataW H × List MemPlace}
  (ht:P.underlying t=some (.slice e)) (he:P.underlying e=some (.struct fs)) (hone:oneCellFields P fs=true) (hC:P.cellsOf e=sz) (hfs:fs.size=sz) (hg:∀ a,(g a).length=sz) (hsz:0<sz)
  (take:∀ us:List Value,us.length=sz→(∀ (j:Nat) (f:Field),fs[j]?=some f→∃ u n y,us[j]?=some u∧DataW.trod enc P w base spare held n f.type [u]=some y)→∃ a,g a=us∧Good a)
  (h:DataW.trod enc P w base spare held fuel t [v]=some x) :
  ∃ l:List α,Rec w.heap.size w v sz g l∧l.length≤maxLen∧∀ k (hk:k<l.length),Good l[k]:=by
 rcases open_slice ht h with ⟨hcs,_⟩|⟨a,len,cap,m,n,D,Pl,hcs,_,hlc,hcm,hm,_,hi⟩
 ·obtain rfl:v=.slice none 0 0:=by simpa using hcs
  exact ⟨[],Rec.nil,Nat.zero_le _,fun k hk=>absurd hk (by simp)⟩
 obtain rfl:v=.slice (some a) len cap:=by simpa using hcs
 have hlm:len≤m:=by rw [hm];split <;> omega
 have hrow:∀ i,i<len→∃ r:α,(∀ j u,(g r)[j]?=some u→w.cell? ((a.add (i * sz)).add j)=some u)∧Good r:=by
  intro i hil
  obtain ⟨cs,hc,htr⟩:=hi i (by omega)
  rw [hC] at hc
  obtain ⟨_,hlen,hat⟩:=World.cells?_some hc
  obtain ⟨ys,n',_,_,_,hyl,hf⟩:=DataW.trod_struct he htr
  obtain ⟨r,hr,hgood⟩:=take cs hlen (by
   intro j f hj
   have hjl:j<fs.size:=(Array.getElem?_eq_some_iff.1 hj).1
   obtain ⟨ho,hk⟩:=hone_of hone j f hj
   have h1:=hf j f hj
   rw [ho,hk,List.drop_eq_getElem_cons (by omega)] at h1
   refine ⟨cs[j]'(by omega),n',ys[j]'(by omega),List.getElem?_eq_getElem _,?_⟩
   rw [← List.getElem?_eq_getElem]
   exact h1)
  refine ⟨r,fun j u hu=>?_,hgood⟩
  rw [hr] at hu
  obtain ⟨hj,_⟩:=List.getElem?_eq_some_iff.1 hu
  rw [hat j (by omega),hu]
 rcases Nat.eq_zero_or_pos len with h0|h0
 ·subst h0
  exact ⟨[],Rec.nil,Nat.zero_le _,fun k hk=>absurd hk (by simp)⟩
 obtain ⟨b,off,spot⟩:=a
 obtain ⟨r0,hr0,_⟩:=hrow 0 h0
 have hc0:=hr0 0 ((g r0)[0]'(by rw [hg];exact hsz)) (List.getElem?_eq_getElem _)
 rw [Nat.zero_mul] at hc0
 have hc0:w.cell? ⟨b,off,spot⟩=some ((g r0)[0]'(by rw [hg];exact hsz)):=by simpa [Addr.add] using hc0
 have hspot:spot=none:=World.cell?_spot hc0
 subst hspot
 have hb:b<w.heap.size:=World.block_lt_of_cell? w _ hc0
 obtain ⟨l,hl,hq⟩:=exists_list len hrow
 refine ⟨l,Rec.of hg hl hlc hb hsz (fun i h' j u hu=>?_),by omega,fun k hk=>(hq k hk).2⟩
 have:=(hq i h').1 j u hu
 rw [add_none,add_none,Nat.add_assoc] at this
 exact this
theorem open_term {H:Type}{enc:TypeId × Value→H}{w:World}{base:Nat}{spare:Nat→Bool}{held:Bool}{fuel:Nat}{a0:Option Addr}{n0 c0:Nat}{x:DataW H × List MemPlace}
  (h:DataW.trod enc Tryz.prog w base spare held fuel 52 [.slice a0 n0 c0]=some x) :
  ∃ (t:List CellZ) (n:Nat),Value.slice a0 n0 c0=.slice a0 t.length c0∧TermAt w.heap.size w a0 t:=by
 obtain ⟨l,h1,_,_⟩:=open_recs (g:=fun c=>(cellC c).toList) (Good:=fun _:CellZ=>True) Tryz.underlying52 Tryz.underlying104 (by kernel_rfl) (by kernel_rfl) rfl (fun _=>rfl) (by decide) (by
  intro us hlen hf
  obtain ⟨u0,n0,y0,h0,t0⟩:=hf 0 _ rfl
  obtain ⟨u1,n1,y1,h1,t1⟩:=hf 1 _ rfl
  obtain ⟨u2,n2,y2,h2,t2⟩:=hf 2 _ rfl
  obtain ⟨u3,n3,y3,h3,t3⟩:=hf 3 _ rfl
  obtain ⟨u4,n4,y4,h4,t4⟩:=hf 4 _ rfl
  obtain ⟨u5,n5,y5,h5,t5⟩:=hf 5 _ rfl
  obtain ⟨i0,e0,_,_⟩:=DataW.trod_int Tryz.underlying3 t0
  obtain ⟨i1,e1,_,_⟩:=DataW.trod_int Tryz.underlying3 t1
  obtain ⟨s2,e2,_,_⟩:=DataW.trod_string Tryz.underlying9 t2
  obtain ⟨s3,e3,_,_⟩:=DataW.trod_string Tryz.underlying9 t3
  obtain ⟨s4,e4,_,_⟩:=DataW.trod_string Tryz.underlying9 t4
  obtain ⟨b5,e5,_⟩:=DataW.trod_bool Tryz.underlying4 t5
  match us,hlen with
  | [c0,c1,c2,c3,c4,c5],_ =>
   simp only [List.cons.injEq,and_true] at e0 e1 e2 e3 e4 e5
   simp at h0 h1 h2 h3 h4 h5
   subst h0 h1 h2 h3 h4 h5 e0 e1 e2 e3 e4 e5
   exact ⟨⟨i0,i1,s2.data.toList,s3.data.toList,s4.data.toList,b5⟩,rfl,trivial⟩) h
 obtain ⟨ao,cap,hv,_,hc⟩:=Rec.form h1 (fun _=>rfl)
 simp only [Value.slice.injEq] at hv
 obtain ⟨rfl,rfl,rfl⟩:=hv
 refine ⟨l,0,rfl,fun h0=>?_⟩
 obtain ⟨b,off,h2,h3,h4⟩:=hc h0
 exact ⟨b,off,h2,h3,h3,fun i hi j u hu=>h4 i j u hi (by rw [Array.getElem?_toList];exact hu)⟩
theorem open_term1 {H:Type}{enc:TypeId × Value→H}{w:World}{base:Nat}{spare:Nat→Bool}{held:Bool}{fuel:Nat}{v:Value}{x:DataW H × List MemPlace}
  (h:DataW.trod enc Tryz.prog w base spare held fuel 52 [v]=some x):∃ (t:List CellZ) (a:Option Addr) (c:Nat),v=.slice a t.length c∧TermAt w.heap.size w a t:=by
 rcases open_slice Tryz.underlying52 h with ⟨hcs,_⟩|⟨a,len,cap,m,n,D,Pl,hcs,_,hlc,hcm,hm,_,hi⟩
 ·obtain rfl:v=.slice none 0 0:=by simpa using hcs
  exact ⟨[],none,0,rfl,fun h0=>absurd h0 (by simp)⟩
 ·obtain rfl:v=.slice (some a) len cap:=by simpa using hcs
  obtain ⟨t,k,h1,h2⟩:=open_term h
  simp only [Value.slice.injEq] at h1
  exact ⟨t,some a,cap,by rw [h1.2.1],h2⟩
theorem open_terms {H:Type}{enc:TypeId × Value→H}{w:World}{base:Nat}{spare:Nat→Bool}{held:Bool}{fuel:Nat}{v:Value}{x:DataW H × List MemPlace}
  (h:DataW.trod enc Tryz.prog w base spare held fuel 62 [v]=some x):∃ (ts:List (List CellZ)) (a:Option Addr) (c:Nat),v=.slice a ts.length c∧TermsAt w.heap.size w a ts:=by
 rcases open_slice Tryz.underlying62 h with ⟨hcs,_⟩|⟨a,len,cap,m,n,D,Pl,hcs,_,hlc,hcm,hm,_,hi⟩
 ·obtain rfl:v=.slice none 0 0:=by simpa using hcs
  exact ⟨[],none,0,rfl,fun h0=>absurd h0 (by simp)⟩
 obtain rfl:v=.slice (some a) len cap:=by simpa using hcs
 have hlm:len≤m:=by rw [hm];split <;> omega
 have hC:Tryz.prog.cellsOf 52=1:=by kernel_rfl
 have hrow:∀ i,i<len→∃ t:List CellZ,∃ a' c',w.cell? (a.add i)=some (.slice a' t.length c')∧TermAt w.heap.size w a' t:=by
  intro i hil
  obtain ⟨cs,hc,htr⟩:=hi i (by omega)
  rw [hC] at hc
  obtain ⟨_,hlen,hat⟩:=World.cells?_some hc
  match cs,hlen with
  | [c],_ =>
   obtain ⟨t,a',c',rfl,ht⟩:=open_term1 htr
   refine ⟨t,a',c',?_,ht⟩
   have:=hat 0 (by omega)
   rw [Nat.mul_one] at this
   have e0:(a.add i).add 0=a.add i:=by simp [Addr.add]
   rw [e0] at this
   simpa using this
 rcases Nat.eq_zero_or_pos len with h0|h0
 ·subst h0
  exact ⟨[],some a,cap,rfl,fun h0=>absurd h0 (by simp)⟩
 obtain ⟨b,off,spot⟩:=a
 obtain ⟨t0,a0,c0,hc0,_⟩:=hrow 0 h0
 have hc0:w.cell? ⟨b,off,spot⟩=some (.slice a0 t0.length c0):=by simpa [Addr.add] using hc0
 have hspot:spot=none:=World.cell?_spot hc0
 subst hspot
 have hb:b<w.heap.size:=World.block_lt_of_cell? w _ hc0
 obtain ⟨l,hl,hq⟩:=exists_list len hrow
 subst hl
 refine ⟨l,some ⟨b,off,none⟩,cap,rfl,fun _=>⟨b,off,rfl,hb,hb,fun i hi=>?_⟩⟩
 obtain ⟨a',c',h1,h2⟩:=hq i hi
 rw [add_none] at h1
 exact ⟨a',c',h1,h2⟩
end Go.Proofs.YtdednahplodojaaGreatDoor

namespace Go.Proofs.YtdednahplodojaaGreatDoor
open Go.ChangeShapes Go.WideShapes Go.ChangeAt Go.RowKit
theorem trodAll_below {H:Type}{enc:TypeId × Value→H}{P:Program}(hl:laidOutB P=true){W W':World}(hb:Below W.heap.size W W'):∀ {ts:List TypeId} {vs:List Value} {ds:List (DataW H)} {ps:List MemPlace},
  ts.all (fun t=>P.readableRec t && decide (t<P.types.size))=true→DataW.TrodAll enc P W 0 (fun _=>true) true ts vs ds ps→(∀ x∈ps,x.block<W.heap.size) →
  DataW.TrodAll enc P W' 0 (fun b=>decide (b<W.heap.size)) true ts vs ds ps
 | [],[],[],_,_,h,_=>h
 | [],_ :: _,_,_,_,h,_=>h.elim
 | [],[],_ :: _,_,_,h,_=>h.elim
 | _ :: _,[],_,_,_,h,_=>h.elim
 | _ :: _,_ :: _,[],_,_,h,_=>h.elim
 | t :: ts,v :: vs,d :: ds,_,ha,h,hlt=>by
  obtain ⟨p,q,h1,h2,rfl⟩:=h
  simp only [List.all_cons,Bool.and_eq_true,decide_eq_true_eq] at ha
  exact ⟨p,q,Below.trod hl ha.1.1 ha.1.2 h1 hb (fun x hx=>hlt x (List.mem_append_left _ hx)),trodAll_below hl hb ha.2 h2 (fun x hx=>hlt x (List.mem_append_right _ hx)),rfl⟩
theorem law_post {H:Type}{enc:TypeId × Value→H}{P:Program}{f:Func}{s:ChangeSpec}{W W':World}{args:Array Value}{ds gs:List (DataW H)}{before:List MemPlace}{tb:TypeId}
  (hl:laidOutB P=true) (hp:f.params.toList.all (fun t=>P.readableRec t && decide (t<P.types.size))=true) (hv:varsRowed P s.vars=true) (hr:f.resultTypes=#[tb]) (htb:P.underlying tb=some .bool)
  (hW:DataW.Whole enc P f.params.toList s.vars false W args.toList ds gs before) (hf1:(s.fn H (ds++gs)).results=[.lit (.bool true)]) (hf2:(s.fn H (ds++gs)).args=ds) (hf3:(s.fn H (ds++gs)).vars=gs)
  (hb:Below W.heap.size W W'):s.post enc P f false true false false W args (.bool true) W':=by
 have hlt:=hW.lt
 have hW':=hW
 obtain ⟨p,q,hA,hV,rfl,hfz,hnd⟩:=hW
 refine ⟨ds,gs,p++q,[]++[],p,q,hW',?_,?_,?_,hb.frame _,fun h=>by cases h⟩
 ·rw [hr,hf1]
  exact ⟨[],[],shut_bool htb true,rfl,rfl⟩
 ·rw [hf2]
  exact trodAll_below hl hb hp hA (fun x hx=>hlt x (List.mem_append_left _ hx))
 ·rw [hf3]
  exact Below.trodVars hl hb hv hV
end Go.Proofs.YtdednahplodojaaGreatDoor
