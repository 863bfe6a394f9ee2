/- Walks and plain laws: Open, OpenTexts. -/
import Derived.Deep.Slices
import Derived.Deep.Fields
import Derived.ChangeSame
import Derived.Test.YtknicmmigbhpcaaGreatDoorF28
import Derived.SliceStrings
import Derived.ProofKit
set_option maxHeartbeats 16000000
set_option maxRecDepth 100000
set_option linter.unusedVariables false
set_option linter.unusedSimpArgs false
namespace Go.Proofs.YtknicmmigbhpcaaGreatDoor
open Go.ChangeShapes Go.WideShapes Go.Deep Go.RowKit
theorem Rec.of {α:Type}{B b off len cap sz:Nat}{w:World}{f:α→List Value}{l:List α}(hf:∀ x,(f x).length=sz)(hl:l.length=len)(hcap:len≤cap)(hb:b<B)(hsz:0<sz)
  (hc:∀ i (h:i<l.length),∀ j u,(f l[i])[j]?=some u→w.cell? ⟨b,off+(i * sz+j),none⟩=some u) :
  Rec B w (.slice (some ⟨b,off,none⟩) len cap) sz f l:=by
 subst hl;refine⟨some ⟨b,off,none⟩,cap,rfl,hcap,zH hf l,fun _=>⟨b,off,rfl,hb,fun i hi=>?_⟩⟩;rw[zH hf] at hi;have h1:i / sz<l.length:=Nat.div_lt_of_lt_mul (by rw[Nat.mul_comm];exact hi);have h2:i % sz<sz:=Nat.mod_lt _ hsz
 have h3:i / sz * sz+i % sz=i:=by rw[Nat.mul_comm];exact Nat.div_add_mod i sz
 have h4:=uj hf l (i / sz) (i % sz) h1 h2;rw[h3] at h4;have h5:(f l[i / sz])[i % sz]?=some ((f l[i / sz])[i % sz]'(by rw[hf];exact h2)):=List.getElem?_eq_getElem _;have h6:=hc (i / sz) h1 (i % sz) _ h5;rw[h3] at h6;rw[h6];rw[h5] at h4;obtain⟨h7,h8⟩:=mR h4;rw[h8]
theorem Rec.nil {α:Type}{B cap sz:Nat}{w:World}{f:α→List Value}{ao:Option Addr}:Rec B w (.slice ao 0 cap) sz f [] :=
 ⟨ao,cap,rfl,Nat.zero_le _,by simp,fun h=>absurd h (by simp)⟩
theorem XC (b off n:Nat):(⟨b,off,none⟩:Addr).add n=⟨b,off+n,none⟩:=by
 unfold Addr.add
 split
 ·rename_i h;subst h;rfl
 ·rfl
theorem yA {H:Type}{enc:TypeId × Value→H}{P:Program}{w:World}{base:Nat}{spare:Nat→Bool}{held:Bool}{t e:TypeId}{fuel:Nat}{v:Value}{x:DataW H × List MemPlace}
  (ht:P.underlying t=some (.slice e)) (he:P.underlying e=some .string) (hC:P.cellsOf e=1) (h:DataW.trod enc P w base spare held fuel t [v]=some x) :
  ∃ (l:List (List UInt8)) (a:Option Addr) (c:Nat),v=.slice a l.length c∧bC (fun _=>True) w (.slice a l.length c) l∧l.length≤maxLen:=by
 rcases open_strings ht he hC h with ⟨hcs,_⟩|⟨a,len,cap,ss,hcs,_,hlc,hcm,hm,_,hc,_⟩
 ·obtain rfl:v=.slice none 0 0:=by simpa using hcs
  refine⟨[],none,0,rfl,⟨⟨none,0,rfl,Nat.le_refl _,rfl,fun h=>absurd h (by simp)⟩,fun n c q=>?_⟩,Nat.zero_le _⟩;simp only[Value.slice.injEq] at q;exact q.2.2.symm
 obtain rfl:v=.slice (some a) len cap:=by simpa using hcs
 have hlm:len≤ss.length:=by rw[hm];split<;>omega
 have hl:((ss.take len).map fun s=>s.data.toList).length=len:=by simp;omega
 refine⟨(ss.take len).map fun s=>s.data.toList,some a,cap,by rw[hl],⟨⟨some a,cap,rfl,by rw[hl];exact hlc,by simp,fun h0=>?_⟩,fun n c q=>by simp at q⟩,by rw[hl];omega⟩;rw[hl] at h0;obtain⟨b,off,spot⟩:=a;have hc0:=hc 0 (by omega)
 have hc0:w.cell? ⟨b,off,spot⟩=some (.string (ss.getD 0 ByteArray.empty)):=by simpa [Addr.add] using hc0
 have hspot:spot=none:=World.cell?_spot hc0;subst hspot;refine⟨b,off,rfl,trivial,World.block_lt_of_cell? w _ hc0,fun i hi=>?_⟩
 have hil:i<ss.length:=by simp at hi;omega
 have h1:=hc i hil;rw[XC] at h1;rw[h1];simp[List.getD_eq_getElem?_getD,hil,encStr]
end Go.Proofs.YtknicmmigbhpcaaGreatDoor
