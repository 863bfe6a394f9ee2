/- Walks and plain laws: ZedPlain, ExprPlain, ShowPlain, BothPlain. -/
import Derived.Test.YtdednahplodojaaGreatDoorD02
set_option maxHeartbeats 16000000
set_option maxRecDepth 100000
set_option linter.unusedVariables false
set_option linter.unusedSimpArgs false
namespace Go.Proofs.YtdednahplodojaaGreatDoor
def wB:Nat:=4294967296
def magV:List Nat→Nat
 | []=>0
 | d :: l=>d+4294967296 * magV l
def trimW:List Nat→List Nat
 | []=>[]
 | d :: l=>if trimW l=[]∧d=0 then [] else d :: trimW l
theorem magV_trim:∀ l,magV (trimW l)=magV l
 | []=>rfl
 | d :: l=>by
  rw [trimW]
  split
  ·rename_i h
   have:=magV_trim l
   rw [h.1] at this
   rw [magV,magV,← this,h.2]
   rfl
  ·rw [magV,magV_trim l,magV]
theorem trimW_zero:∀ l,magV l=0→trimW l=[]
 | [],_=>rfl
 | d :: l,h=>by
  rw [magV] at h
  rw [trimW,if_pos ⟨trimW_zero l (by omega),by omega⟩]
theorem trimW_len:∀ l,(trimW l).length≤l.length
 | []=>Nat.le_refl _
 | d :: l=>by
  have:=trimW_len l
  rw [trimW]
  split <;> simp
  exact this
theorem trimW_mem:∀ (l:List Nat) (x:Nat),x∈trimW l→x∈l
 | [],x,h=>h
 | d :: l,x,h=>by
  rw [trimW] at h
  split at h
  ·cases h
  ·rcases List.mem_cons.1 h with rfl|h
   ·exact List.mem_cons_self
   ·exact List.mem_cons_of_mem _ (trimW_mem l x h)
theorem trimW_idem:∀ l,trimW (trimW l)=trimW l
 | []=>rfl
 | d :: l=>by
  rw [trimW]
  split
  ·rfl
  ·rename_i h
   rw [trimW,trimW_idem l,if_neg h]
theorem trimW_pos {l:List Nat}(h:trimW l=l)(hl:l≠[]):0<magV l:=by
 apply Nat.pos_of_ne_zero
 intro q
 exact hl (by rw [← h,trimW_zero l q])
theorem trimW_take:∀ (l:List Nat),∃ n,n≤l.length∧trimW l=l.take n∧(∀ j,n≤j→(h:j<l.length)→l[j]=0)∧(∀ j,j+1=n→(h:j<l.length)→l[j]≠0)
 | []=>⟨0,Nat.le_refl _,rfl,fun j _ h=>absurd h (by simp),fun j h=>by omega⟩
 | d :: l=>by
  obtain ⟨n,h1,h2,h3,h4⟩:=trimW_take l
  rw [trimW]
  split
  ·rename_i h
   have hn:n=0∨l=[]:=by
    have:(l.take n).length=0:=by rw [← h2,h.1];rfl
    rw [List.length_take] at this
    rcases Nat.eq_zero_or_pos n with q|q
    ·exact .inl q
    ·exact .inr (List.length_eq_zero_iff.1 (by omega))
   refine ⟨0,Nat.zero_le _,rfl,fun j _ hj=>?_,fun j hj=>by omega⟩
   cases j with
   | zero=>exact h.2
   | succ j =>
    simp only [List.length_cons] at hj
    rcases hn with q|q
    ·simpa using h3 j (by omega) (by omega)
    ·subst q;simp at hj
  ·rename_i h
   refine ⟨n+1,by simpa using h1,by rw [h2,List.take_succ_cons],fun j hj hl=>?_,fun j hj hl=>?_⟩
   ·cases j with
    | zero=>omega
    | succ j=>simpa using h3 j (by omega) (by simpa using hl)
   ·cases j with
    | zero =>
     obtain rfl:n=0:=by omega
     intro q
     exact h ⟨by rw [h2];rfl,q⟩
    | succ j=>simpa using h4 j (by omega) (by simpa using hl)
def scaleF (by_:Nat):List Nat→Nat→List Nat
 | [],more=>[more % 4294967296]
 | d :: l,more=>(more+d * by_) % 4294967296 :: scaleF by_ l ((more+d * by_) / 4294967296)
theorem scaleF_len (b:Nat):∀ (l:List Nat) (m:Nat),(scaleF b l m).length=l.length+1
 | [],_=>rfl
 | d :: l,m=>by rw [scaleF,List.length_cons,scaleF_len b l,List.length_cons]
theorem scaleF_lt (b:Nat):∀ (l:List Nat) (m x:Nat),x∈scaleF b l m→x<4294967296
 | [],m,x,h=>by rw [scaleF,List.mem_singleton] at h;omega
 | d :: l,m,x,h=>by
  rw [scaleF] at h
  rcases List.mem_cons.1 h with rfl|h
  ·omega
  ·exact scaleF_lt b l _ x h
theorem carry_le {d b m:Nat}(hd:d<4294967296)(hb:b≤1000000000)(hm:m≤1000000000):m+d * b≤4294967295000000000+1000000000∧(m+d * b) / 4294967296≤1000000000:=by
 have h1:d * b≤4294967295 * 1000000000:=Nat.mul_le_mul (by omega) hb
 omega
theorem magV_scale (b:Nat)(hb:b≤1000000000):∀ (l:List Nat) (m:Nat),(∀ x∈l,x<4294967296)→m≤1000000000→magV (scaleF b l m)=magV l * b+m
 | [],m,_,hm=>by
  rw [scaleF,magV,magV,magV,Nat.mod_eq_of_lt (by omega)]
  omega
 | d :: l,m,hl,hm=>by
  have hc:=carry_le (hl d List.mem_cons_self) hb hm
  have ih:=magV_scale b hb l _ (fun x hx=>hl x (List.mem_cons_of_mem _ hx)) hc.2
  rw [scaleF,magV,ih,magV]
  have:=Nat.div_add_mod (m+d * b) 4294967296
  generalize (m+d * b) / 4294967296=q at *
  generalize (m+d * b) % 4294967296=r at *
  have e:(d+4294967296 * magV l) * b+m=m+d * b+4294967296 * (magV l * b):=by
   rw [Nat.add_mul,Nat.mul_assoc];omega
  rw [e,← this]
  omega
theorem snoc_ind {α:Type}{P:List α→Prop}(h0:P [])(h1:∀ (l:List α) (c:α),P l→P (l++[c]))(l:List α):P l:=by
 have h:∀ (r:List α),P r.reverse:=fun r=>by
  induction r with
  | nil=>exact h0
  | cons c r ih=>rw [List.reverse_cons];exact h1 _ _ ih
 have:=h l.reverse
 rwa [List.reverse_reverse] at this
def decV (l:List UInt8):Nat:=l.foldl (fun a c=>a * 10+(c.toNat - 48)) 0
theorem decV_snoc (l:List UInt8)(c:UInt8):decV (l++[c])=decV l * 10+(c.toNat - 48):=by
 unfold decV;rw [List.foldl_append];rfl
theorem decV_append:∀ (b a:List UInt8),decV (a++b)=decV a * 10 ^ b.length+decV b:=by
 refine snoc_ind ?_ ?_
 ·intro a;simp [decV]
 ·intro b c ih a
  rw [← List.append_assoc,decV_snoc,ih,decV_snoc,List.length_append,List.length_singleton,Nat.pow_succ,Nat.add_mul,← Nat.mul_assoc,Nat.add_assoc]
def digitsB (l:List UInt8):Bool:=l.all fun c=>decide (48≤c.toNat) && decide (c.toNat≤57)
theorem decV_lt:∀ (l:List UInt8),digitsB l=true→decV l<10 ^ l.length:=by
 refine snoc_ind ?_ ?_
 ·intro _;decide
 ·intro l c ih h
  rw [digitsB,List.all_append,Bool.and_eq_true] at h
  have h1:=ih h.1
  have h2:=h.2
  simp only [List.all_cons,List.all_nil,Bool.and_true,Bool.and_eq_true,decide_eq_true_eq] at h2
  rw [decV_snoc,List.length_append,List.length_singleton,Nat.pow_succ]
  omega
theorem pow_le9 {n:Nat}(h:n≤9):10 ^ n≤1000000000:=Nat.pow_le_pow_right (by omega) h
def shortF (b:Nat):List Nat→List Nat × Nat
 | []=>([],0)
 | d :: l=>(((shortF b l).2 * 4294967296+d) / b :: (shortF b l).1,((shortF b l).2 * 4294967296+d) % b)
theorem shortF_len (b:Nat):∀ l,(shortF b l).1.length=l.length
 | []=>rfl
 | d :: l=>by rw [shortF,List.length_cons,shortF_len b l,List.length_cons]
theorem shortF_rest (b:Nat)(hb:0<b):∀ l,(shortF b l).2<b
 | []=>hb
 | _d :: _l=>Nat.mod_lt _ hb
theorem shortF_val (b:Nat):∀ l,magV l=magV (shortF b l).1 * b+(shortF b l).2
 | []=>by simp [shortF,magV]
 | d :: l=>by
  rw [shortF]
  simp only
  have ih:=shortF_val b l
  have:=Nat.div_add_mod ((shortF b l).2 * 4294967296+d) b
  rw [magV,magV,ih]
  generalize ((shortF b l).2 * 4294967296+d) / b=q at *
  generalize ((shortF b l).2 * 4294967296+d) % b=r at *
  generalize magV (shortF b l).1=M at *
  generalize (shortF b l).2=s at *
  rw [Nat.add_mul,Nat.mul_assoc,Nat.mul_comm q b]
  omega
theorem shortF_lt (b:Nat)(hb:0<b):∀ l,(∀ x∈l,x<4294967296)→∀ x∈(shortF b l).1,x<4294967296
 | [],_,x,h=>by cases h
 | d :: l,hl,x,h=>by
  rw [shortF] at h
  simp only at h
  rcases List.mem_cons.1 h with rfl|h
  ·have h1:=shortF_rest b hb l
   have h2:=hl d List.mem_cons_self
   rw [Nat.div_lt_iff_lt_mul hb]
   have:((shortF b l).2+1) * 4294967296≤b * 4294967296:=Nat.mul_le_mul_right _ h1
   rw [Nat.mul_comm 4294967296 b]
   omega
  ·exact shortF_lt b hb l (fun x hx=>hl x (List.mem_cons_of_mem _ hx)) x h
def lowD:Nat→Nat→List UInt8
 | 0,_=>[]
 | k+1,n=>UInt8.ofNat (48+n % 10) :: lowD k (n / 10)
theorem lowD_add:∀ (k j n:Nat),lowD (k+j) n=lowD k n++lowD j (n / 10 ^ k)
 | 0,j,n=>by simp [lowD]
 | k+1,j,n=>by
  rw [show k+1+j=(k+j)+1 by omega,lowD,lowD,lowD_add k j,List.cons_append,Nat.div_div_eq_div_mul,← Nat.pow_succ']
theorem lowD_snoc (k n:Nat):lowD (k+1) n=lowD k n++[UInt8.ofNat (48+n / 10 ^ k % 10)]:=by
 rw [lowD_add k 1];rfl
theorem lowD_mod:∀ (k j n:Nat),k≤j→lowD k (n % 10 ^ j)=lowD k n
 | 0,_,_,_=>rfl
 | k+1,0,_,h=>absurd h (by omega)
 | k+1,j+1,n,h=>by
  have e1:n % 10 ^ (j+1) % 10=n % 10:=Nat.mod_mod_of_dvd _ ⟨10 ^ j,by rw [Nat.pow_succ,Nat.mul_comm]⟩
  have e2:n % 10 ^ (j+1) / 10=n / 10 % 10 ^ j:=by
   rw [Nat.pow_succ,Nat.mul_comm,Nat.mod_mul_right_div_self]
  rw [lowD,lowD,e1,e2,lowD_mod k j _ (by omega)]
theorem lowD_zero:∀ k,lowD k 0=List.replicate k 48
 | 0=>rfl
 | k+1=>by rw [lowD,Nat.zero_div,lowD_zero k,List.replicate_succ];rfl
theorem decF_rev (n:Nat):∃ k,decF n=(lowD (k+1) n).reverse∧n<10 ^ (k+1)∧(n=0→k=0)∧(0<n→10 ^ k≤n):=by
 induction n using Nat.strongRecOn with
 | _ n ih =>
  rw [decF]
  split
  ·rename_i h
   refine ⟨0,?_,by omega,fun _=>rfl,fun h=>by omega⟩
   rw [lowD,lowD,Nat.mod_eq_of_lt h]
   rfl
  ·rename_i h
   obtain ⟨k,h1,h2,h3,h4⟩:=ih (n / 10) (by omega)
   refine ⟨k+1,?_,?_,fun q=>by omega,fun _=>?_⟩
   ·rw [lowD,List.reverse_cons,h1]
   ·rw [Nat.pow_succ];omega
   ·have:=h4 (by omega)
    rw [Nat.pow_succ];omega
def trimZ (l:List UInt8):List UInt8:=(l.reverse.dropWhile (· == 48)).reverse
theorem digit_byte {d:Nat}(h:d<10):(UInt8.ofNat (48+d)).toNat=48+d:=by
 rw [UInt8.toNat_ofNat'];omega
theorem low_text (n k:Nat)(h0:0<n)(hk:n<10 ^ k):(trimZ (lowD k n)).reverse=decF n:=by
 obtain ⟨j,h1,h2,_,h4⟩:=decF_rev n
 have hj:j+1≤k:=by
  have:=h4 h0
  have h5:10 ^ j<10 ^ k:=by omega
  have:=(Nat.pow_lt_pow_iff_right (by omega:1<10)).1 h5
  omega
 rw [trimZ,List.reverse_reverse,h1]
 have e:lowD k n=lowD (j+1) n++List.replicate (k - (j+1)) 48:=by
  conv=>lhs;rw [show k=(j+1)+(k - (j+1)) by omega,lowD_add,Nat.div_eq_of_lt h2,lowD_zero]
 rw [e,List.reverse_append,List.reverse_replicate]
 have e2:∀ (m:Nat) (l:List UInt8),(List.replicate m (48:UInt8)++l).dropWhile (· == 48)=l.dropWhile (· == 48):=fun m l=>by
  induction m with
  | zero=>simp
  | succ m ih=>rw [List.replicate_succ,List.cons_append,List.dropWhile_cons_of_pos (by decide),ih]
 rw [e2,lowD_snoc,List.reverse_append,List.reverse_singleton,List.singleton_append,List.dropWhile_cons_of_neg]
 have h6:0<n / 10 ^ j:=Nat.div_pos (h4 h0) (Nat.pow_pos (by omega))
 have h7:n / 10 ^ j<10:=by rw [Nat.div_lt_iff_lt_mul (Nat.pow_pos (by omega)),Nat.mul_comm,← Nat.pow_succ];exact h2
 rw [Nat.mod_eq_of_lt h7]
 intro q
 have:=congrArg UInt8.toNat (eq_of_beq q)
 rw [digit_byte h7] at this
 simp at this
 omega
theorem dec_text:∀ (l:List UInt8),digitsB l=true→l≠[]→(l.head?=some 48→l.length=1)→decF (decV l)=l:=by
 refine snoc_ind ?_ ?_
 ·intro _ h;exact absurd rfl h
 ·intro l c ih hd _ hh
  rw [digitsB,List.all_append,Bool.and_eq_true] at hd
  have hc:=hd.2
  simp only [List.all_cons,List.all_nil,Bool.and_true,Bool.and_eq_true,decide_eq_true_eq] at hc
  have e:UInt8.ofNat (48+(c.toNat - 48))=c:=by
   rw [show 48+(c.toNat - 48)=c.toNat by omega];exact UInt8.ofNat_toNat
  rw [decV_snoc,decF]
  by_cases hl:l=[]
  ·subst hl
   have:decV []=0:=rfl
   rw [this,dif_pos (by omega),Nat.zero_mul,Nat.zero_add,e]
   rfl
  ·have hne:l.head?≠some 48:=fun q=>by
    have:=hh (by rw [List.head?_append,q];rfl)
    rw [List.length_append,List.length_singleton] at this
    exact hl (List.length_eq_zero_iff.1 (by omega))
   have ih':=ih hd.1 hl (fun q=>absurd q hne)
   have hpos:0<decV l:=by
    apply Nat.pos_of_ne_zero
    intro q
    rw [q] at ih'
    have:l=[48]:=by rw [← ih'];rw [decF];simp
    exact hne (by rw [this];rfl)
   rw [dif_neg (by omega),show (decV l * 10+(c.toNat - 48)) / 10=decV l by omega,show (decV l * 10+(c.toNat - 48)) % 10=c.toNat - 48 by omega,ih',e]
inductive PE where
 | mk (op:Nat) (name module:List UInt8) (num:Int) (txt:List UInt8) (yes:Bool) (kids:List PE) (at_:Nat)
def PE.op:PE→Nat | .mk o _ _ _ _ _ _ _=>o
def PE.name:PE→List UInt8 | .mk _ n _ _ _ _ _ _=>n
def PE.module:PE→List UInt8 | .mk _ _ m _ _ _ _ _=>m
def PE.num:PE→Int | .mk _ _ _ n _ _ _ _=>n
def PE.txt:PE→List UInt8 | .mk _ _ _ _ t _ _ _=>t
def PE.yes:PE→Bool | .mk _ _ _ _ _ y _ _=>y
def PE.kids:PE→List PE | .mk _ _ _ _ _ _ k _=>k
def PE.at_:PE→Nat | .mk _ _ _ _ _ _ _ a=>a
def intF (n:Int):List UInt8:=(if n<0 then [45] else [])++decF n.natAbs
def headF (op:Nat)(name module num:List UInt8)(yes:Bool):List UInt8 :=
 [91]++decF op++(if module≠[] then [32]++module++[46]++name else if name≠[] then [32]++name else [])
  ++ (if op=1 then [32]++num else [])++(if op=2 then (if yes=true then [32,116,114,117,101] else [32,102,97,108,115,101]) else [])
mutual
def PE.dump:PE→List UInt8
 | .mk op name module num _ yes kids _=>headF op name module (intF num) yes++dumpE kids++[93]
def dumpE:List PE→List UInt8
 | []=>[]
 | e :: l=>[32]++e.dump++dumpE l
end
mutual
def PE.dumpT:PE→List UInt8
 | .mk op name module _ txt yes kids _=>headF op name module txt yes++dumpTE kids++[93]
def dumpTE:List PE→List UInt8
 | []=>[]
 | e :: l=>[32]++e.dumpT++dumpTE l
end
mutual
def PE.ats:PE→List Int
 | .mk _ _ _ _ _ _ kids a=>(a:Int) :: atsE kids
def atsE:List PE→List Int
 | []=>[]
 | e :: l=>e.ats++atsE l
end
mutual
def PE.told:PE→Prop
 | .mk op _ _ num txt _ kids _=>(op=1→txt=intF num)∧toldE kids
def toldE:List PE→Prop
 | []=>True
 | e :: l=>e.told∧toldE l
end
mutual
theorem PE.dump_told:∀ {e:PE},e.told→e.dumpT=e.dump
 | .mk op name module num txt yes kids a,h=>by
  rw [PE.told] at h
  rw [PE.dumpT,PE.dump,dumpE_told h.2]
  by_cases h1:op=1
  ·rw [h.1 h1]
  ·simp only [headF,if_neg h1]
theorem dumpE_told:∀ {l:List PE},toldE l→dumpTE l=dumpE l
 | [],_=>by rw [dumpTE,dumpE]
 | e :: l,h=>by
  rw [toldE] at h
  rw [dumpTE,dumpE,PE.dump_told h.1,dumpE_told h.2]
end
def placeAt (toks:List Tok)(u:Nat):Nat:=(peekF toks u).place
mutual
def CE.pe (toks:List Tok)(u:Nat):CE→PE
 | .num=>.mk 1 [] [] (decV (textAt toks u):Nat) (textAt toks u) false [] (placeAt toks u)
 | .truth=>.mk 2 [] [] 0 [] (decide (textAt toks u=tTrue)) [] (placeAt toks u)
 | .res=>.mk 4 [] [] 0 [] false [] (placeAt toks u)
 | .nam=>.mk 3 (textAt toks u) [] 0 [] false [] (placeAt toks u)
 | .group e=>e.pe toks (u+1)
 | .un e=>.mk (if textAt toks u=tNot then 6 else 5) [] [] 0 [] false [e.pe toks (u+1)] (placeAt toks u)
 | .bin a b=>.mk (7+binL.idxOf (textAt toks (u+a.pt.lv))) [] [] 0 [] false [a.pe toks u,b.pe toks (u+a.pt.lv+1)] (placeAt toks (u+a.pt.lv))
 | .iff a b c=>.mk 21 [] [] 0 [] false [a.pe toks (u+1),b.pe toks (u+1+a.pt.lv+1),c.pe toks (u+1+a.pt.lv+1+b.pt.lv+1)] (placeAt toks u)
 | .lett a b=>.mk 22 (textAt toks (u+1)) [] 0 [] false [a.pe toks (u+3),b.pe toks (u+3+a.pt.lv+1)] (placeAt toks u)
 | .asrt a b=>.mk 23 [] [] 0 [] false [a.pe toks (u+1),b.pe toks (u+1+a.pt.lv+1)] (placeAt toks u)
 | .call q l=>if q=true then .mk 24 (textAt toks (u+2)) (textAt toks u) 0 [] false (argsPE toks (u+4) l) (placeAt toks u) else .mk 24 (textAt toks u) [] 0 [] false (argsPE toks (u+2) l) (placeAt toks u)
def argsPE (toks:List Tok)(u:Nat):List CE→List PE
 | []=>[]
 | e :: l=>e.pe toks u :: argsPE toks (u+e.pt.lv+1) l
end
def NumsOk (toks:List Tok):Prop:=∀ u,kindAt toks u=3→decF (decV (textAt toks u))=textAt toks u
theorem intF_nat (n:Nat):intF (n:Int)=decF n:=by
 unfold intF
 rw [if_neg (by omega),List.nil_append,Int.natAbs_natCast]
mutual
theorem CE.told {toks:List Tok}(hN:NumsOk toks){cl:Bool}:∀ (e:CE) (u:Nat),e.ok toks cl u→(e.pe toks u).told
 | .num,u,h=>by
  rw [CE.ok] at h
  rw [CE.pe,PE.told]
  exact ⟨fun _=>by rw [intF_nat,hN u h],trivial⟩
 | .truth,u,h=>by rw [CE.pe,PE.told];exact ⟨fun q=>absurd q (by decide),trivial⟩
 | .res,u,h=>by rw [CE.pe,PE.told];exact ⟨fun q=>absurd q (by decide),trivial⟩
 | .nam,u,h=>by rw [CE.pe,PE.told];exact ⟨fun q=>absurd q (by decide),trivial⟩
 | .group e,u,h=>by rw [CE.ok] at h;rw [CE.pe];exact CE.told hN e _ h.2
 | .un e,u,h=>by
  rw [CE.ok] at h
  rw [CE.pe,PE.told]
  exact ⟨fun q=>by split at q <;> omega,CE.told hN e _ h.2,trivial⟩
 | .bin a b,u,h=>by
  rw [CE.ok] at h
  rw [CE.pe,PE.told]
  exact ⟨fun q=>by omega,CE.told hN a _ h.2.1,CE.told hN b _ h.2.2,trivial⟩
 | .iff a b c,u,h=>by
  rw [CE.ok] at h
  rw [CE.pe,PE.told]
  exact ⟨fun q=>by omega,CE.told hN a _ h.2.1,CE.told hN b _ h.2.2.1,CE.told hN c _ h.2.2.2,trivial⟩
 | .lett a b,u,h=>by
  rw [CE.ok] at h
  rw [CE.pe,PE.told]
  exact ⟨fun q=>by omega,CE.told hN a _ h.2.2.1,CE.told hN b _ h.2.2.2,trivial⟩
 | .asrt a b,u,h=>by
  rw [CE.ok] at h
  rw [CE.pe,PE.told]
  exact ⟨fun q=>by omega,CE.told hN a _ h.2.1,CE.told hN b _ h.2.2,trivial⟩
 | .call q l,u,h=>by
  rw [CE.ok] at h
  rw [CE.pe]
  cases q with
  | true =>
   rw [if_pos rfl,PE.told]
   exact ⟨fun q=>by omega,argsTold hN l _ h.2.2.2.2.2⟩
  | false =>
   rw [if_neg (by decide),PE.told]
   exact ⟨fun q=>by omega,argsTold hN l _ h.2.2.2.2⟩
theorem argsTold {toks:List Tok}(hN:NumsOk toks){cl:Bool}:∀ (l:List CE) (u:Nat),argsOk toks cl u l→toldE (argsPE toks u l)
 | [],u,_=>by rw [argsPE,toldE];trivial
 | e :: l,u,h=>by
  rw [argsOk] at h
  rw [argsPE,toldE]
  exact ⟨CE.told hN e _ h.1,argsTold hN l _ h.2⟩
end
def partsF (nodes:List Nd)(ks:List Int):List Int:=ks.filter fun k=>(nodes[k.toNat]?.map (·.kind)).getD 19 != 19
theorem parts_leaf {nodes:List Nd}{k:Int}{ks:List Int}{u:Nat}(h:Rep nodes k u .leaf):partsF nodes (k :: ks)=partsF nodes ks:=by
 rw [Rep] at h
 rw [partsF,List.filter_cons_of_neg (by rw [h.2];simp)]
 rfl
theorem CE.node (e:CE):∃ k l,e.pt=.node k l∧7≤k∧k≤17:=by
 cases e with
 | call q l=>exact ⟨13,_,by rw [CE.pt],by omega,by omega⟩
 | num=>exact ⟨15,_,by rw [CE.pt],by omega,by omega⟩
 | truth=>exact ⟨16,_,by rw [CE.pt],by omega,by omega⟩
 | res=>exact ⟨17,_,by rw [CE.pt],by omega,by omega⟩
 | nam=>exact ⟨14,_,by rw [CE.pt],by omega,by omega⟩
 | group e=>exact ⟨12,_,by rw [CE.pt],by omega,by omega⟩
 | un e=>exact ⟨11,_,by rw [CE.pt],by omega,by omega⟩
 | bin a b=>exact ⟨10,_,by rw [CE.pt],by omega,by omega⟩
 | iff a b c=>exact ⟨8,_,by rw [CE.pt],by omega,by omega⟩
 | lett a b=>exact ⟨7,_,by rw [CE.pt],by omega,by omega⟩
 | asrt a b=>exact ⟨9,_,by rw [CE.pt],by omega,by omega⟩
theorem parts_node {nodes:List Nd}{k:Int}{ks:List Int}{u:Nat}{e:CE}(h:Rep nodes k u e.pt):partsF nodes (k :: ks)=k :: partsF nodes ks:=by
 obtain ⟨c,l,he,h1,h2⟩:=e.node
 rw [he,Rep] at h
 obtain ⟨ks',_,h3,_⟩:=h
 rw [partsF,List.filter_cons_of_pos (by rw [h3];simp;omega)]
 rfl
inductive PZ where
 | mk (op:Int) (name module:List UInt8) (num:Int) (yes:Bool) (kids:List PZ) (at_:Int)
def PZ.op:PZ→Int | .mk o _ _ _ _ _ _=>o
def PZ.name:PZ→List UInt8 | .mk _ n _ _ _ _ _=>n
def PZ.module:PZ→List UInt8 | .mk _ _ m _ _ _ _=>m
def PZ.num:PZ→Int | .mk _ _ _ n _ _ _=>n
def PZ.yes:PZ→Bool | .mk _ _ _ _ y _ _=>y
def PZ.kids:PZ→List PZ | .mk _ _ _ _ _ k _=>k
def PZ.at_:PZ→Int | .mk _ _ _ _ _ _ a=>a
def plainB (w:List UInt8):Bool:=match lexAll w with
 | .ok [t,_]=>decide (t.kind=1) && decide (t.text=w)
 | _=>false
def lvZ (op:Int):Int :=
 if op=5 then 8 else if op=6 then 4 else if op=7∨op=8 then 6 else if 9≤op∧op≤11 then 7 else if 12≤op∧op≤17 then 5
 else if op=18 then 3 else if op=19 then 2 else if op=20 then 1 else if 21≤op∧op≤23 then 0 else 9
def firstZ (op:Int):Int:=if lvZ op=5 then 6 else if lvZ op=1 then 2 else lvZ op
def thenZ (op:Int):Int:=if lvZ op=1 then 1 else lvZ op+1
def countB (op:Int)(n:Nat):Bool :=
 if op≤4 then decide (n=0) else if op≤6 then decide (n=1) else if op≤20∨op=22∨op=23 then decide (n=2) else if op=21 then decide (n=3) else decide (n≤8)
def namesB (op:Int)(nm md:List UInt8):Bool :=
 if op=3∨op=22 then plainB nm && decide (md=[]) else if op=24 then plainB nm && (decide (md=[]) || plainB md) else decide (nm=[]) && decide (md=[])
def valuesB (op num:Int)(yes:Bool):Bool :=
 if op=1 then decide (0≤num) && decide ((intF num).length≤60) && !yes else decide (num=0) && (decide (op=2) || !yes)
def mayB (fm:Bool)(op:Int):Bool:=if fm=true then decide (op≤20) else decide (op≠4)
def headB (fm:Bool)(op:Int)(nm md:List UInt8)(num:Int)(yes:Bool)(n:Nat):Bool :=
 decide (1≤op) && decide (op≤24) && mayB fm op && namesB op nm md && valuesB op num yes && countB op n
mutual
def PZ.right (fm:Bool):PZ→Bool
 | .mk op nm md num yes kids _=>headB fm op nm md num yes kids.length && rightsZ fm kids
def rightsZ (fm:Bool):List PZ→Bool
 | []=>true
 | e :: l=>e.right fm && rightsZ fm l
end
def signZ (op:Int):List UInt8:=([[43],[45],[42],[47],[37],[61],[60,62],[60],[60,61],[62],[62,61],[38,38],[124,124],[61,62]]:List (List UInt8)).getD (op.toNat - 7) []
def parZ (least:Int)(k:Int × List UInt8):List UInt8:=if lvZ k.1<least then [40]++k.2++[41] else k.2
def commaZ:List (List UInt8)→List UInt8
 | []=>[]
 | [t]=>t
 | t :: s :: l=>t++[44,32]++commaZ (s :: l)
def showF (op:Int)(nm md:List UInt8)(num:Int)(yes:Bool)(ks:List (Int × List UInt8)):List UInt8 :=
 if op=1 then intF num
 else if op=2 then (if yes=true then [116,114,117,101] else [102,97,108,115,101])
 else if op=3 then nm
 else if op=4 then [114,101,115]
 else if op=5 then [45]++parZ 9 (ks.getD 0 (0,[]))
 else if op=6 then [110,111,116,32]++parZ 4 (ks.getD 0 (0,[]))
 else if op=21 then [105,102,32]++(ks.getD 0 (0,[])).2++[32,116,104,101,110,32]++(ks.getD 1 (0,[])).2++[32,101,108,115,101,32]++(ks.getD 2 (0,[])).2
 else if op=22 then [108,101,116,32]++nm++[32,61,32]++(ks.getD 0 (0,[])).2++[32,105,110,32]++(ks.getD 1 (0,[])).2
 else if op=23 then [97,115,115,101,114,116,32]++(ks.getD 0 (0,[])).2++[32,105,110,32]++(ks.getD 1 (0,[])).2
 else if op=24 then (if md=[] then [] else md++[46])++nm++[40]++commaZ (ks.map Prod.snd)++[41]
 else parZ (firstZ op) (ks.getD 0 (0,[]))++[32]++signZ op++[32]++parZ (thenZ op) (ks.getD 1 (0,[]))
mutual
def PZ.text:PZ→List UInt8
 | .mk op nm md num yes kids _=>showF op nm md num yes (textsZ kids)
def textsZ:List PZ→List (Int × List UInt8)
 | []=>[]
 | e :: l=>(e.op,e.text) :: textsZ l
end
theorem PZ.right_def (fm:Bool)(e:PZ):e.right fm=(headB fm e.op e.name e.module e.num e.yes e.kids.length && rightsZ fm e.kids):=by cases e;rw [PZ.right];rfl
theorem PZ.text_def (e:PZ):e.text=showF e.op e.name e.module e.num e.yes (textsZ e.kids):=by cases e;rw [PZ.text];rfl
theorem rightsZ_all {fm:Bool}:∀ {l:List PZ},rightsZ fm l=true↔∀ e∈l,e.right fm=true
 | []=>by simp [rightsZ]
 | e :: l=>by rw [rightsZ,Bool.and_eq_true,rightsZ_all];simp
theorem textsZ_map:∀ l:List PZ,textsZ l=l.map fun e=>(e.op,e.text)
 | []=>rfl
 | e :: l=>by rw [textsZ,textsZ_map l];rfl
theorem textsZ_get {l:List PZ}{i:Nat}(h:i<l.length):(textsZ l).getD i (0,[])=(l[i].op,l[i].text):=by
 rw [textsZ_map,List.getD_eq_getElem?_getD,List.getElem?_map,List.getElem?_eq_getElem h];rfl
mutual
def PE.z:PE→PZ
 | .mk op nm md num _ yes kids a=>.mk op nm md num yes (zsE kids) a
def zsE:List PE→List PZ
 | []=>[]
 | e :: l=>e.z :: zsE l
end
theorem zsE_map:∀ l:List PE,zsE l=l.map PE.z
 | []=>rfl
 | e :: l=>by rw [zsE,zsE_map l];rfl
theorem PE.z_def (e:PE):e.z=.mk e.op e.name e.module e.num e.yes (e.kids.map PE.z) e.at_:=by cases e;rw [PE.z,zsE_map];rfl
structure CellZ where
 op:Int
 kids:Int
 name:List UInt8
 module:List UInt8
 num:List UInt8
 yes:Bool
def CellZ.takes (c:CellZ):Nat :=
 if c.op≤4∨24<c.op then 0 else if c.op≤6 then 1 else if c.op=21 then 3 else if c.op=24 then (min (max c.kids 0) 9).toNat else 2
def zedF (s:List UInt8):Int :=
 let neg:=s.head?=some 45
 let rest:=if neg then s.drop 1 else s
 if 60<rest.length then 0
 else if rest=[]∨digitsB rest=false∨(rest.head?=some 48∧(1<rest.length∨neg)) then 0
 else if neg then -(decV rest:Int) else (decV rest:Int)
def CellZ.fits (c:CellZ):Bool:=decide (c.name.length≤60) && decide (c.module.length≤60) && decide (c.num.length≤80)
def stepZ (l:List PZ)(c:CellZ):List PZ :=
 l.take (l.length - min c.takes l.length)++[.mk c.op c.name c.module (if c.op=1 then zedF c.num else 0) c.yes (l.drop (l.length - min c.takes l.length)) 0]
def bothF (t:List CellZ):Option PZ :=
 if 30<t.length then none else if t.all CellZ.fits=true then (t.foldl stepZ []).getLast? else none
mutual
def PZ.size:PZ→Nat
 | .mk _ _ _ _ _ kids _=>sizeZ kids+1
def sizeZ:List PZ→Nat
 | []=>0
 | e :: l=>e.size+sizeZ l
end
theorem sizeZ_append:∀ a b:List PZ,sizeZ (a++b)=sizeZ a+sizeZ b
 | [],b=>by simp [sizeZ]
 | e :: a,b=>by rw [List.cons_append,sizeZ,sizeZ,sizeZ_append a b,Nat.add_assoc]
theorem stepZ_size (l:List PZ)(c:CellZ):sizeZ (stepZ l c)=sizeZ l+1:=by
 rw [stepZ,sizeZ_append,sizeZ,PZ.size,sizeZ]
 have:=sizeZ_append (l.take (l.length - min c.takes l.length)) (l.drop (l.length - min c.takes l.length))
 rw [List.take_append_drop] at this
 omega
theorem foldZ_size:∀ (t:List CellZ) (l:List PZ),sizeZ (t.foldl stepZ l)=sizeZ l+t.length
 | [],l=>rfl
 | c :: t,l=>by rw [List.foldl_cons,foldZ_size t,stepZ_size,List.length_cons];omega
theorem sizeZ_mem:∀ {l:List PZ} {e:PZ},e∈l→e.size≤sizeZ l
 | x :: l,e,h=>by
  rw [sizeZ]
  rcases List.mem_cons.1 h with rfl|h
  ·omega
  ·have:=sizeZ_mem h;omega
theorem bothF_size {t:List CellZ}{e:PZ}(h:bothF t=some e):e.size≤30:=by
 unfold bothF at h
 split at h
 ·cases h
 ·split at h
  ·have h1:=sizeZ_mem (List.mem_of_getLast? h)
   rw [foldZ_size] at h1
   simp only [sizeZ] at h1
   omega
  ·cases h
end Go.Proofs.YtdednahplodojaaGreatDoor
