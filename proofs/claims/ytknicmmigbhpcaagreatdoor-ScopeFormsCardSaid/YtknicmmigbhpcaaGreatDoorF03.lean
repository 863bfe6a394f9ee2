/- Walks and plain laws: ZedPlain, ExprPlain, Recs, TreeW1, ExprMem. -/
import Derived.Test.YtknicmmigbhpcaaGreatDoorF02
import Derived.Deep.RegionLaw
import Derived.Test.YtknicmmigbhpcaaGreatDoorProg
set_option maxHeartbeats 16000000
set_option maxRecDepth 100000
set_option linter.unusedVariables false
set_option linter.unusedSimpArgs false
namespace Go.Proofs.YtknicmmigbhpcaaGreatDoor
def iA:List Nat→Nat
 | []=>0
 | d :: l=>d+4294967296 * iA l
def bW:List Nat→List Nat
 | []=>[]
 | d :: l=>if bW l=[]∧d=0 then [] else d :: bW l
theorem uR:∀ l,iA (bW l)=iA l
 | []=>rfl
 | d :: l=>by
  rw[bW]
  split
  ·rename_i h
   have:=uR l;rw[h.1] at this;rw[iA,iA,← this,h.2]
   rfl
  ·rw[iA,uR l,iA]
theorem wz:∀ l,iA l=0→bW l=[]
 | [],_=>rfl
 | d :: l,h=>by
  rw[iA] at h;rw[bW,if_pos ⟨wz l (by omega),by omega⟩]
theorem FB:∀ l,(bW l).length≤l.length
 | []=>Nat.le_refl _
 | d :: l=>by
  have:=FB l;rw[bW]
  split<;>simp
  exact this
theorem yY:∀ (l:List Nat) (x:Nat),x∈bW l→x∈l
 | [],x,h=>h
 | d :: l,x,h=>by
  rw[bW] at h
  split at h
  ·cases h
  ·rcases List.mem_cons.1 h with rfl|h
   ·exact List.mem_cons_self
   ·exact List.mem_cons_of_mem _ (yY l x h)
theorem wB:∀ l,bW (bW l)=bW l
 | []=>rfl
 | d :: l=>by
  rw[bW]
  split
  ·rfl
  ·rename_i h
   rw[bW,wB l,if_neg h]
theorem uS {l:List Nat}(h:bW l=l)(hl:l≠[]):0<iA l:=by
 apply Nat.pos_of_ne_zero
 intro q;exact hl (by rw[← h,wz l q])
theorem rQ:∀ (l:List Nat),∃ n,n≤l.length∧bW l=l.take n∧(∀ j,n≤j→(h:j<l.length)→l[j]=0)∧(∀ j,j+1=n→(h:j<l.length)→l[j]≠0)
 | []=>⟨0,Nat.le_refl _,rfl,fun j _ h=>absurd h (by simp),fun j h=>by omega⟩
 | d :: l=>by
  obtain⟨n,h1,h2,h3,h4⟩:=rQ l;rw[bW]
  split
  ·rename_i h
   have hn:n=0∨l=[]:=by
    have:(l.take n).length=0:=by rw[← h2,h.1];rfl
    rw[List.length_take] at this
    rcases Nat.eq_zero_or_pos n with q|q
    ·exact .inl q
    ·exact .inr (List.length_eq_zero_iff.1 (by omega))
   refine⟨0,Nat.zero_le _,rfl,fun j _ hj=>?_,fun j hj=>by omega⟩
   cases j with
   | zero=>exact h.2
   | succ j =>
    simp only[dI] at hj
    rcases hn with q|q
    ·simpa using h3 j (by omega) (by omega)
    ·subst q;simp at hj
  ·rename_i h
   refine⟨n+1,by simpa using h1,by rw[h2,List.take_succ_cons],fun j hj hl=>?_,fun j hj hl=>?_⟩
   ·cases j with
    | zero=>omega
    | succ j=>simpa using h3 j (by omega) (by simpa using hl)
   ·cases j with
    | zero =>
     obtain rfl:n=0:=by omega
     intro q;exact h ⟨by rw[h2];rfl,q⟩
    | succ j=>simpa using h4 j (by omega) (by simpa using hl)
def eZ (G9:Nat):List Nat→Nat→List Nat
 | [],more=>[more % 4294967296]
 | d :: l,more=>(more+d * G9) % 4294967296 :: eZ G9 l ((more+d * G9) / 4294967296)
theorem jL (b:Nat):∀ (l:List Nat) (m:Nat),(eZ b l m).length=l.length+1
 | [],_=>rfl
 | d :: l,m=>by rw[eZ,dI,jL b l,dI]
theorem FC (b:Nat):∀ (l:List Nat) (m x:Nat),x∈eZ b l m→x<4294967296
 | [],m,x,h=>by rw[eZ,List.mem_singleton] at h;omega
 | d :: l,m,x,h=>by
  rw[eZ] at h
  rcases List.mem_cons.1 h with rfl|h
  ·omega
  ·exact FC b l _ x h
theorem JN {d b m:Nat}(hd:d<4294967296)(hb:b≤1000000000)(hm:m≤1000000000):m+d * b≤4294967295000000000+1000000000∧(m+d * b) / 4294967296≤1000000000:=by
 have h1:d * b≤4294967295 * 1000000000:=Nat.mul_le_mul (by omega) hb;omega
theorem BK (b:Nat)(hb:b≤1000000000):∀ (l:List Nat) (m:Nat),(∀ x∈l,x<4294967296)→m≤1000000000→iA (eZ b l m)=iA l * b+m
 | [],m,_,hm=>by
  rw[eZ,iA,iA,iA,Nat.mod_eq_of_lt (by omega)];omega
 | d :: l,m,hl,hm=>by
  have hc:=JN (hl d List.mem_cons_self) hb hm;have ih:=BK b hb l _ (fun x hx=>hl x (List.mem_cons_of_mem _ hx)) hc.2;rw[eZ,iA,ih,iA];have:=Nat.div_add_mod (m+d * b) 4294967296;generalize (m+d * b) / 4294967296=q at *;generalize (m+d * b) % 4294967296=r at *
  have e:(d+4294967296 * iA l) * b+m=m+d * b+4294967296 * (iA l * b):=by
   rw[Nat.add_mul,Nat.mul_assoc];omega
  rw[e,← this];omega
theorem BL {α:Type}{P:List α→Prop}(h0:P [])(h1:∀ (l:List α) (c:α),P l→P (l++[c]))(l:List α):P l:=by
 have h:∀ (r:List α),P r.reverse:=fun r=>by
  induction r with
  | nil=>exact h0
  | cons c r ih=>rw[List.reverse_cons];exact h1 _ _ ih
 have:=h l.reverse
 rwa [List.reverse_reverse] at this
def iQ (l:List UInt8):Nat:=l.foldl (fun a c=>a * 10+(c.toNat - 48)) 0
theorem qJ (l:List UInt8)(c:UInt8):iQ (l++[c])=iQ l * 10+(c.toNat - 48):=by
 unfold iQ;rw[List.foldl_append];rfl
theorem JO:∀ (b a:List UInt8),iQ (a++b)=iQ a * 10 ^ b.length+iQ b:=by
 refine BL ?_ ?_
 ·intro a;simp[iQ]
 ·intro b c ih a
  rw[← List.append_assoc,qJ,ih,qJ,bC,List.length_singleton,Nat.pow_succ,Nat.add_mul,← Nat.mul_assoc,Nat.add_assoc]
def fB (l:List UInt8):Bool:=l.all fun c=>decide (48≤c.toNat) && decide (c.toNat≤57)
theorem Bj:∀ (l:List UInt8),fB l=true→iQ l<10 ^ l.length:=by
 refine BL ?_ ?_
 ·intro _;decide
 ·intro l c ih h
  rw[fB,List.all_append,Bool.and_eq_true] at h;have h1:=ih h.1;have h2:=h.2;simp only[List.all_cons,List.all_nil,Bool.and_true,Bool.and_eq_true,decide_eq_true_eq] at h2;rw[qJ,bC,List.length_singleton,Nat.pow_succ];omega
theorem YQ {n:Nat}(h:n≤9):10 ^ n≤1000000000:=Nat.pow_le_pow_right (by omega) h
def aZ (b:Nat):List Nat→List Nat × Nat
 | []=>([],0)
 | d :: l=>(((aZ b l).2 * 4294967296+d) / b :: (aZ b l).1,((aZ b l).2 * 4294967296+d) % b)
theorem BM (b:Nat):∀ l,(aZ b l).1.length=l.length
 | []=>rfl
 | d :: l=>by rw[aZ,dI,BM b l,dI]
theorem pW (b:Nat)(hb:0<b):∀ l,(aZ b l).2<b
 | []=>hb
 | _d :: _l=>Nat.mod_lt _ hb
theorem BN (b:Nat):∀ l,iA l=iA (aZ b l).1 * b+(aZ b l).2
 | []=>by simp[aZ,iA]
 | d :: l=>by
  rw[aZ];simp only;have ih:=BN b l;have:=Nat.div_add_mod ((aZ b l).2 * 4294967296+d) b;rw[iA,iA,ih];generalize ((aZ b l).2 * 4294967296+d) / b=q at *;generalize ((aZ b l).2 * 4294967296+d) % b=r at *;generalize iA (aZ b l).1=M at *;generalize (aZ b l).2=s at *;rw[Nat.add_mul,Nat.mul_assoc,Nat.mul_comm q b];omega
theorem FD (b:Nat)(hb:0<b):∀ l,(∀ x∈l,x<4294967296)→∀ x∈(aZ b l).1,x<4294967296
 | [],_,x,h=>by cases h
 | d :: l,hl,x,h=>by
  rw[aZ] at h;simp only at h
  rcases List.mem_cons.1 h with rfl|h
  ·have h1:=pW b hb l
   have h2:=hl d List.mem_cons_self;rw[Nat.div_lt_iff_lt_mul hb];have:((aZ b l).2+1) * 4294967296≤b * 4294967296:=Nat.mul_le_mul_right _ h1;rw[Nat.mul_comm 4294967296 b];omega
  ·exact FD b hb l (fun x hx=>hl x (List.mem_cons_of_mem _ hx)) x h
def jI:Nat→Nat→List UInt8
 | 0,_=>[]
 | k+1,n=>UInt8.ofNat (48+n % 10) :: jI k (n / 10)
theorem xD:∀ (k j n:Nat),jI (k+j) n=jI k n++jI j (n / 10 ^ k)
 | 0,j,n=>by simp[jI]
 | k+1,j,n=>by
  rw[show k+1+j=(k+j)+1 by omega,jI,jI,xD k j,List.cons_append,Nat.div_div_eq_div_mul,← Nat.pow_succ']
theorem FE (k n:Nat):jI (k+1) n=jI k n++[UInt8.ofNat (48+n / 10 ^ k % 10)]:=by
 rw[xD k 1];rfl
theorem JQ:∀ (k j n:Nat),k≤j→jI k (n % 10 ^ j)=jI k n
 | 0,_,_,_=>rfl
 | k+1,0,_,h=>absurd h (by omega)
 | k+1,j+1,n,h=>by
  have e1:n % 10 ^ (j+1) % 10=n % 10:=Nat.mod_mod_of_dvd _ ⟨10 ^ j,by rw[Nat.pow_succ,Nat.mul_comm]⟩
  have e2:n % 10 ^ (j+1) / 10=n / 10 % 10 ^ j:=by
   rw[Nat.pow_succ,Nat.mul_comm,Nat.mod_mul_right_div_self]
  rw[jI,jI,e1,e2,JQ k j _ (by omega)]
theorem FH:∀ k,jI k 0=List.replicate k 48
 | 0=>rfl
 | k+1=>by rw[jI,Nat.zero_div,FH k,List.replicate_succ];rfl
theorem Va (n:Nat):∃ k,fZ n=(jI (k+1) n).reverse∧n<10 ^ (k+1)∧(n=0→k=0)∧(0<n→10 ^ k≤n):=by
 induction n using Nat.strongRecOn with
 | _ n ih =>
  rw[fZ]
  split
  ·rename_i h
   refine⟨0,?_,by omega,fun _=>rfl,fun h=>by omega⟩;rw[jI,jI,Nat.mod_eq_of_lt h]
   rfl
  ·rename_i h
   obtain⟨k,h1,h2,h3,h4⟩:=ih (n / 10) (by omega);refine⟨k+1,?_,?_,fun q=>by omega,fun _=>?_⟩
   ·rw[jI,List.reverse_cons,h1]
   ·rw[Nat.pow_succ];omega
   ·have:=h4 (by omega)
    rw[Nat.pow_succ];omega
def xE (l:List UInt8):List UInt8:=(l.reverse.dropWhile (· == 48)).reverse
theorem Ny {d:Nat}(h:d<10):(UInt8.ofNat (48+d)).toNat=48+d:=by
 rw[UInt8.toNat_ofNat'];omega
theorem Vb (n k:Nat)(h0:0<n)(hk:n<10 ^ k):(xE (jI k n)).reverse=fZ n:=by
 obtain⟨j,h1,h2,_,h4⟩:=Va n
 have hj:j+1≤k:=by
  have:=h4 h0
  have h5:10 ^ j<10 ^ k:=by omega
  have:=(Nat.pow_lt_pow_iff_right (by omega:1<10)).1 h5;omega
 rw[xE,List.reverse_reverse,h1]
 have e:jI k n=jI (j+1) n++List.replicate (k - (j+1)) 48:=by
  conv=>lhs;rw[show k=(j+1)+(k - (j+1)) by omega,xD,Nat.div_eq_of_lt h2,FH]
 rw[e,List.reverse_append,List.reverse_replicate]
 have e2:∀ (m:Nat) (l:List UInt8),(List.replicate m (48:UInt8)++l).dropWhile (· == 48)=l.dropWhile (· == 48):=fun m l=>by
  induction m with
  | zero=>simp
  | succ m ih=>rw[List.replicate_succ,List.cons_append,List.dropWhile_cons_of_pos (by decide),ih]
 rw[e2,FE,List.reverse_append,List.reverse_singleton,List.singleton_append,List.dropWhile_cons_of_neg];have h6:0<n / 10 ^ j:=Nat.div_pos (h4 h0) (Nat.pow_pos (by omega))
 have h7:n / 10 ^ j<10:=by rw[Nat.div_lt_iff_lt_mul (Nat.pow_pos (by omega)),Nat.mul_comm,← Nat.pow_succ];exact h2
 rw[Nat.mod_eq_of_lt h7];intro q;have:=congrArg UInt8.toNat (eq_of_beq q);rw[Ny h7] at this;simp at this;omega
theorem Vd:∀ (l:List UInt8),fB l=true→l≠[]→(l.head?=some 48→l.length=1)→fZ (iQ l)=l:=by
 refine BL ?_ ?_
 ·intro _ h;exact absurd rfl h
 ·intro l c ih hd _ hh
  rw[fB,List.all_append,Bool.and_eq_true] at hd;have hc:=hd.2;simp only[List.all_cons,List.all_nil,Bool.and_true,Bool.and_eq_true,decide_eq_true_eq] at hc
  have e:UInt8.ofNat (48+(c.toNat - 48))=c:=by
   rw[show 48+(c.toNat - 48)=c.toNat by omega];exact UInt8.ofNat_toNat
  rw[qJ,fZ]
  by_cases hl:l=[]
  ·subst hl
   have:iQ []=0:=rfl;rw[this,dif_pos (by omega),Nat.zero_mul,Nat.zero_add,e]
   rfl
  ·have hne:l.head?≠some 48:=fun q=>by
    have:=hh (by rw[List.head?_append,q];rfl);rw[bC,List.length_singleton] at this;exact hl (List.length_eq_zero_iff.1 (by omega))
   have ih':=ih hd.1 hl (fun q=>absurd q hne)
   have hpos:0<iQ l:=by
    apply Nat.pos_of_ne_zero
    intro q;rw[q] at ih'
    have:l=[48]:=by rw[← ih'];rw[fZ];simp
    exact hne (by rw[this];rfl)
   rw[dif_neg (by omega),show (iQ l * 10+(c.toNat - 48)) / 10=iQ l by omega,show (iQ l * 10+(c.toNat - 48)) % 10=c.toNat - 48 by omega,ih',e]
inductive PE where
 | mk (op:Nat) (name module:List UInt8) (num:Int) (txt:List UInt8) (yes:Bool) (kids:List PE) (at_:Nat)
def PE.op:PE→Nat | .mk o _ _ _ _ _ _ _=>o
def PE.name:PE→List UInt8 | .mk _ n _ _ _ _ _ _=>n
def PE.module:PE→List UInt8 | .mk _ _ m _ _ _ _ _=>m
def PE.num:PE→Int | .mk _ _ _ n _ _ _ _=>n
def PE.txt:PE→List UInt8 | .mk _ _ _ _ t _ _ _=>t
def PE.yes:PE→Bool | .mk _ _ _ _ _ y _ _=>y
def PE.kids:PE→List PE | .mk _ _ _ _ _ _ k _=>k
def PE.at_:PE→Nat | .mk _ _ _ _ _ _ _ a=>a
def jf (n:Int):List UInt8:=(if n<0 then [45] else [])++fZ n.natAbs
def JR (op:Nat)(name module num:List UInt8)(yes:Bool):List UInt8 :=
 [91]++fZ op++(if module≠[] then [32]++module++[46]++name else if name≠[] then [32]++name else [])
  ++ (if op=1 then [32]++num else [])++(if op=2 then (if yes=true then [32,116,114,117,101] else [32,102,97,108,115,101]) else [])
mutual
def PE.dump:PE→List UInt8
 | .mk op name module num _ yes kids _=>JR op name module (jf num) yes++JU kids++[93]
def JU:List PE→List UInt8
 | []=>[]
 | e :: l=>[32]++e.dump++JU l
end
mutual
def PE.pX:PE→List UInt8
 | .mk op name module _ txt yes kids _=>JR op name module txt yes++tN kids++[93]
def tN:List PE→List UInt8
 | []=>[]
 | e :: l=>[32]++e.pX++tN l
end
mutual
def PE.ats:PE→List Int
 | .mk _ _ _ _ _ _ kids a=>(a:Int) :: YR kids
def YR:List PE→List Int
 | []=>[]
 | e :: l=>e.ats++YR l
end
mutual
def PE.told:PE→Prop
 | .mk op _ _ num txt _ kids _=>(op=1→txt=jf num)∧BO kids
def BO:List PE→Prop
 | []=>True
 | e :: l=>e.told∧BO l
end
mutual
theorem PE.jB:∀ {e:PE},e.told→e.pX=e.dump
 | .mk op name module num txt yes kids a,h=>by
  rw[PE.told] at h;rw[PE.pX,PE.dump,BP h.2]
  by_cases h1:op=1
  ·rw[h.1 h1]
  ·simp only[JR,if_neg h1]
theorem BP:∀ {l:List PE},BO l→tN l=JU l
 | [],_=>by rw[tN,JU]
 | e :: l,h=>by
  rw[BO] at h;rw[tN,JU,PE.jB h.1,BP h.2]
end
def dF (toks:List Tok)(u:Nat):Nat:=(bU toks u).place
mutual
def CE.pe (toks:List Tok)(u:Nat):CE→PE
 | .num=>.mk 1 [] [] (iQ (aH toks u):Nat) (aH toks u) false [] (dF toks u)
 | .truth=>.mk 2 [] [] 0 [] (decide (aH toks u=Qt)) [] (dF toks u)
 | .res=>.mk 4 [] [] 0 [] false [] (dF toks u)
 | .Nw=>.mk 3 (aH toks u) [] 0 [] false [] (dF toks u)
 | .group e=>e.pe toks (u+1)
 | .un e=>.mk (if aH toks u=YM then 6 else 5) [] [] 0 [] false [e.pe toks (u+1)] (dF toks u)
 | .bin a b=>.mk (7+oK.idxOf (aH toks (u+a.pt.lv))) [] [] 0 [] false [a.pe toks u,b.pe toks (u+a.pt.lv+1)] (dF toks (u+a.pt.lv))
 | .iff a b c=>.mk 21 [] [] 0 [] false [a.pe toks (u+1),b.pe toks (u+1+a.pt.lv+1),c.pe toks (u+1+a.pt.lv+1+b.pt.lv+1)] (dF toks u)
 | .qH a b=>.mk 22 (aH toks (u+1)) [] 0 [] false [a.pe toks (u+3),b.pe toks (u+3+a.pt.lv+1)] (dF toks u)
 | .qI a b=>.mk 23 [] [] 0 [] false [a.pe toks (u+1),b.pe toks (u+1+a.pt.lv+1)] (dF toks u)
 | .call q l=>if q=true then .mk 24 (aH toks (u+2)) (aH toks u) 0 [] false (jC toks (u+4) l) (dF toks u) else .mk 24 (aH toks u) [] 0 [] false (jC toks (u+2) l) (dF toks u)
def jC (toks:List Tok)(u:Nat):List CE→List PE
 | []=>[]
 | e :: l=>e.pe toks u :: jC toks (u+e.pt.lv+1) l
end
def Nz (toks:List Tok):Prop:=∀ u,gL toks u=3→fZ (iQ (aH toks u))=aH toks u
theorem xG (n:Nat):jf (n:Int)=fZ n:=by
 unfold jf;rw[if_neg (by omega),List.nil_append,Int.natAbs_natCast]
mutual
theorem CE.told {toks:List Tok}(hN:Nz toks){cl:Bool}:∀ (e:CE) (u:Nat),e.ok toks cl u→(e.pe toks u).told
 | .num,u,h=>by
  rw[CE.ok] at h;rw[CE.pe,PE.told];exact⟨fun _=>by rw[xG,hN u h],trivial⟩
 | .truth,u,h=>by rw[CE.pe,PE.told];exact⟨fun q=>absurd q (by decide),trivial⟩
 | .res,u,h=>by rw[CE.pe,PE.told];exact⟨fun q=>absurd q (by decide),trivial⟩
 | .Nw,u,h=>by rw[CE.pe,PE.told];exact⟨fun q=>absurd q (by decide),trivial⟩
 | .group e,u,h=>by rw[CE.ok] at h;rw[CE.pe];exact CE.told hN e _ h.2
 | .un e,u,h=>by
  rw[CE.ok] at h;rw[CE.pe,PE.told];exact⟨fun q=>by split at q<;>omega,CE.told hN e _ h.2,trivial⟩
 | .bin a b,u,h=>by
  rw[CE.ok] at h;rw[CE.pe,PE.told];exact⟨fun q=>by omega,CE.told hN a _ h.2.1,CE.told hN b _ h.2.2,trivial⟩
 | .iff a b c,u,h=>by
  rw[CE.ok] at h;rw[CE.pe,PE.told];exact⟨fun q=>by omega,CE.told hN a _ h.2.1,CE.told hN b _ h.2.2.1,CE.told hN c _ h.2.2.2,trivial⟩
 | .qH a b,u,h=>by
  rw[CE.ok] at h;rw[CE.pe,PE.told];exact⟨fun q=>by omega,CE.told hN a _ h.2.2.1,CE.told hN b _ h.2.2.2,trivial⟩
 | .qI a b,u,h=>by
  rw[CE.ok] at h;rw[CE.pe,PE.told];exact⟨fun q=>by omega,CE.told hN a _ h.2.1,CE.told hN b _ h.2.2,trivial⟩
 | .call q l,u,h=>by
  rw[CE.ok] at h;rw[CE.pe]
  cases q with
  | true =>
   rw[if_pos rfl,PE.told];exact⟨fun q=>by omega,BQ hN l _ h.2.2.2.2.2⟩
  | false =>
   rw[if_neg (by decide),PE.told];exact⟨fun q=>by omega,BQ hN l _ h.2.2.2.2⟩
theorem BQ {toks:List Tok}(hN:Nz toks){cl:Bool}:∀ (l:List CE) (u:Nat),nS toks cl u l→BO (jC toks u l)
 | [],u,_=>by rw[jC,BO];trivial
 | e :: l,u,h=>by
  rw[nS] at h;rw[jC,BO];exact⟨CE.told hN e _ h.1,BQ hN l _ h.2⟩
end
def fU (nodes:List Nd)(ks:List Int):List Int:=ks.filter fun k=>(nodes[k.toNat]?.map (·.kind)).getD 19 != 19
theorem NA {nodes:List Nd}{k:Int}{ks:List Int}{u:Nat}(h:mH nodes k u .leaf):fU nodes (k :: ks)=fU nodes ks:=by
 rw[mH] at h;rw[fU,List.filter_cons_of_neg (by rw[h.2];simp)]
 rfl
theorem CE.node (e:CE):∃ k l,e.pt=.node k l∧7≤k∧k≤17:=by
 cases e with
 | call q l=>exact⟨13,_,by rw[CE.pt],by omega,by omega⟩
 | num=>exact⟨15,_,by rw[CE.pt],by omega,by omega⟩
 | truth=>exact⟨16,_,by rw[CE.pt],by omega,by omega⟩
 | res=>exact⟨17,_,by rw[CE.pt],by omega,by omega⟩
 | Nw=>exact⟨14,_,by rw[CE.pt],by omega,by omega⟩
 | group e=>exact⟨12,_,by rw[CE.pt],by omega,by omega⟩
 | un e=>exact⟨11,_,by rw[CE.pt],by omega,by omega⟩
 | bin a b=>exact⟨10,_,by rw[CE.pt],by omega,by omega⟩
 | iff a b c=>exact⟨8,_,by rw[CE.pt],by omega,by omega⟩
 | qH a b=>exact⟨7,_,by rw[CE.pt],by omega,by omega⟩
 | qI a b=>exact⟨9,_,by rw[CE.pt],by omega,by omega⟩
theorem NC {nodes:List Nd}{k:Int}{ks:List Int}{u:Nat}{e:CE}(h:mH nodes k u e.pt):fU nodes (k :: ks)=k :: fU nodes ks:=by
 obtain⟨c,l,he,h1,h2⟩:=e.node;rw[he,mH] at h;obtain⟨ks',_,h3,_⟩:=h;rw[fU,List.filter_cons_of_pos (by rw[h3];simp;omega)]
 rfl
end Go.Proofs.YtknicmmigbhpcaaGreatDoor

namespace Go.Proofs.YtknicmmigbhpcaaGreatDoor
open Go.RowKit
theorem Rec.ach {α:Type}{B:Nat}{w:World}{v:Value}{sz n:Nat}{f:α→List Value}{l:List α}(h:Rec B w v sz f l)(hf:∀ x,(f x).length=sz)(hn:l.length=n) :
  ∃ ao cap,v=.slice ao n cap∧n≤cap∧(0<n→∃ b off,ao=some ⟨b,off,none⟩∧b<B ∧
   ∀ k j u,(hk:k<l.length)→(f l[k])[j]?=some u→w.cell? ⟨b,off+k * sz+j,none⟩=some u):=by
 subst hn;exact h.form hf
theorem Rec.cells {α:Type}{B:Nat}{w:World}{ao:Option Addr}{n cap sz:Nat}{f:α→List Value}{l:List α}(h:Rec B w (.slice ao n cap) sz f l)(hf:∀ x,(f x).length=sz)(h0:0<l.length) :
  ∃ b off,ao=some ⟨b,off,none⟩∧b<B∧∀ k j u,(hk:k<l.length)→(f l[k])[j]?=some u→w.cell? ⟨b,off+k * sz+j,none⟩=some u:=by
 obtain⟨ao',cap',hv,_,hc⟩:=h.form hf
 injection hv with q1 q2 q3
 subst q1;exact hc h0
def RG (p:Nd × Value):List Value:=[.int .i64 p.1.kind,.int .i64 p.1.tok,p.2]
def Ints (B:Nat)(w:World)(v:Value)(ks:List Int):Prop:=Sl B w v 1 ks.length (ks.map (Value.int .i64))
def aO (B:Nat)(w:World)(v:Value)(toks:List Tok)(nodes:List Nd):Prop :=
 ∃ (tv nv:Value) (l:List (Nd × Value)),v=.agg #[tv,nv]∧Rec B w tv 4 bK toks∧l.map Prod.fst=nodes∧Rec B w nv 3 RG l∧∀ p∈l,Ints B w p.2 p.1.kids
theorem Ints.below {B:Nat}{w w':World}{v:Value}{ks:List Int}(h:Ints B w v ks)(hb:Below B w w'):Ints B w' v ks:=Sl.below h hb
theorem Ints.mono {B B':Nat}{w:World}{v:Value}{ks:List Int}(h:Ints B w v ks)(hB:B≤B'):Ints B' w v ks:=Sl.mono h hB
theorem aO.below {B:Nat}{w w':World}{v:Value}{toks:List Tok}{nodes:List Nd}(h:aO B w v toks nodes)(hb:Below B w w'):aO B w' v toks nodes:=by
 obtain⟨tv,nv,l,h1,h2,h3,h4,h5⟩:=h;exact⟨tv,nv,l,h1,h2.below hb,h3,h4.below hb,fun p hp=>(h5 p hp).below hb⟩
theorem aO.mono {B B':Nat}{w:World}{v:Value}{toks:List Tok}{nodes:List Nd}(h:aO B w v toks nodes)(hB:B≤B'):aO B' w v toks nodes:=by
 obtain⟨tv,nv,l,h1,h2,h3,h4,h5⟩:=h;exact⟨tv,nv,l,h1,h2.mono hB,h3,h4.mono hB,fun p hp=>(h5 p hp).mono hB⟩
theorem Ints.form {B:Nat}{w:World}{v:Value}{ks:List Int}(h:Ints B w v ks):∃ ao cap,v=.slice ao ks.length cap∧ks.length≤cap ∧
  (0<ks.length→∃ b off,ao=some ⟨b,off,none⟩∧b<B∧∀ j,(hj:j<ks.length)→w.cell? ⟨b,off+j,none⟩=some (.int .i64 ks[j])):=by
 obtain⟨ao,cap,hv,hn,hl,hc⟩:=h;refine⟨ao,cap,hv,hn,fun h0=>?_⟩;obtain⟨b,off,ha,hB,hcell⟩:=hc h0;exact⟨b,off,ha,hB,fun j hj=>by rw[hcell j (by simpa using hj)];simp⟩
theorem aO.node {B:Nat}{w:World}{tv nv:Value}{toks:List Tok}{nodes:List Nd}(h:aO B w (.agg #[tv,nv]) toks nodes){i:Nat}(hi:i<nodes.length) :
  ∃ b off cap kv,nv=.slice (some ⟨b,off,none⟩) nodes.length cap∧b<B∧w.cell? ⟨b,off+i * 3,none⟩=some (.int .i64 nodes[i].kind)∧w.cell? ⟨b,off+i * 3+1,none⟩=some (.int .i64 nodes[i].tok)∧w.cell? ⟨b,off+i * 3+2,none⟩=some kv∧Ints B w kv nodes[i].kids:=by
 obtain⟨tv',nv',l,h1,h2,h3,h4,h5⟩:=h;simp only[Value.agg.injEq] at h1
 obtain⟨rfl,rfl⟩:tv=tv'∧nv=nv':=by simpa using h1
 subst h3;rw[List.length_map] at hi ⊢;obtain⟨ao,cap,rfl,_,hf⟩:=h4.form (fun _=>rfl);obtain⟨b,off,rfl,hb,hc⟩:=hf (by omega);refine⟨b,off,cap,l[i].2,rfl,hb,?_,?_,?_,?_⟩
 ·rw[show off+i * 3=off+i * 3+0 by rfl,hc i 0 (.int .i64 l[i].1.kind) hi rfl];simp
 ·rw[hc i 1 (.int .i64 l[i].1.tok) hi rfl];simp
 ·rw[hc i 2 l[i].2 hi rfl]
 ·rw[List.getElem_map];exact h5 _ (List.getElem_mem hi)
theorem aO.slices {B:Nat}{w:World}{v:Value}{toks:List Tok}{nodes:List Nd}(h:aO B w v toks nodes) :
  ∃ at_ ct an cn,v=.agg #[.slice at_ toks.length ct,.slice an nodes.length cn]:=by
 obtain⟨tv,nv,l,h1,h2,h3,h4,h5⟩:=h;obtain⟨a1,c1,rfl,_,_⟩:=h2.form (fun _=>rfl);obtain⟨a2,c2,rfl,_,_⟩:=h4.form (fun _=>rfl);subst h3;rw[List.length_map];exact⟨a1,c1,a2,c2,h1⟩
theorem BR (i g:Nat)(k:Int)(w:World)(hg:w.cell? ⟨g,0,none⟩=some (.int .i64 i)) :
  Calls Tryz.prog 300 #[.int .i64 k,.pointer (some ⟨g,0,none⟩)] w fun e w'=>e=.returned (.bool (decide (k<0) || decide ((i:Int)≤k)))∧w'=w:=by
 by_cases hk:k<0
 ·have d1:decide (k<0)=true:=decide_eq_true hk
  go_enter Tryz.func300,Tryz.ntmps300;go_wp2
  all_goals (go_ret;refine⟨aM ?_,rfl⟩;simp[*])
 ·have d1:decide (k<0)=false:=decide_eq_false hk
  go_enter Tryz.func300,Tryz.ntmps300;go_wp2
  all_goals (go_ret;refine⟨aM ?_,rfl⟩;simp[*])
def BU (i:Nat)(k:Int):Bool:=decide (k<0) || decide ((i:Int)≤k)
def aci (p:Bool)(w:World)(e:Ending)(w':World):Prop:=(∃ r:Int,e=.returned (.int .i64 r)∧(0≤r↔p=true)∧-1≤r)∧w'=w
theorem AV (i g B:Nat)(v:Value)(ks:List Int)(w:World)(hg:w.cell? ⟨g,0,none⟩=some (.int .i64 i))(hv:Ints B w v ks)(hn:ks.length≤1099511627776) :
  Calls Tryz.prog 278 #[v,.func (.func 300) #[] #[.pointer (some ⟨g,0,none⟩)]] w (aci (ks.any (BU i)) w):=by
 obtain⟨ao,cap,rfl,_,hf⟩:=hv.form;have HT:=ah (fun k=>BR i g k w hg);have HF:=ah hf;clear hf hv hg;go_enter Tryz.func278,Tryz.ntmps278;go_wp2
 go_loop [8] (fun q=>∃ k:Nat,k≤ks.length∧q=.int .i64 k∧∀ j,(hj:j<ks.length)→j<k→BU i ks[j]=false) (fun q=>ks.length - (intOf q).toNat)
 case atStart=>exact⟨0,Nat.zero_le _,rfl,fun j _ h=>absurd h (by omega)⟩
 case round =>
  obtain⟨k,hk,rfl,hj⟩:=hrel
  by_cases hlt:k<ks.length
  ·obtain⟨b,off,rfl,_,hc⟩:=HF.out (by omega)
   have hx:=hc k hlt
   have hI:(k:Int)<(ks.length:Int):=by omega
   have hT:=HT.out ks[k]
   cases ht:BU i ks[k] with
   | true =>
    have hany:ks.any (BU i)=true:=List.any_eq_true.2 ⟨_,List.getElem_mem hlt,ht⟩;unfold BU at ht;rw[ht] at hT;generalize ks[k]=x at hx hT;have H1:=ah hT;have H2:=ah hany;clear hc hj ht hT hany;go_wp2_with (go_at_call 300;refine H1.out.mono ?_;rintro e w1 ⟨rfl,rfl⟩);go_ret;exact⟨⟨k,rfl,⟨fun _=>H2.out,fun _=>by omega⟩,by omega⟩,rfl⟩
   | false =>
    have HJ:Hid (∀ j,(hj:j<ks.length)→j<k+1→BU i ks[j]=false):=ah (fun j hjl hjk=>by
     by_cases hkj:j=k
     ·subst hkj;exact ht
     ·exact hj j hjl (by omega))
    unfold BU at ht;rw[ht] at hT;generalize ks[k]=x at hx hT;have H1:=ah hT;clear hc hj ht hT;go_wp2_with (go_at_call 300;refine H1.out.mono ?_;rintro e w1 ⟨rfl,rfl⟩)
    go_round
    case rel=>exact⟨k+1,by omega,by go_num,HJ.out⟩
    case measure=>simp[intOf];omega
  ·have hany:ks.any (BU i)=false:=by
    rw[← Bool.not_eq_true,List.any_eq_true];rintro⟨x,hx,hb⟩;obtain⟨j,hjl,e⟩:=List.mem_iff_getElem.1 hx;rw[← e,hj j hjl (by omega)] at hb;cases hb
   have hI:decide ((k:Int)<(ks.length:Int))=false:=decide_eq_false (by omega);have H2:=ah hany;clear hany hj;go_wp2;go_ret;exact⟨⟨-1,rfl,⟨fun h=>by omega,fun h=>by rw[H2.out] at h;cases h⟩,by omega⟩,rfl⟩
theorem wC (i g B:Nat)(v:Value)(ks:List Int)(w:World)(hg:w.cell? ⟨g,0,none⟩=some (.int .i64 i))(hv:Ints B w v ks)(hn:ks.length≤1099511627776) :
  Calls Tryz.prog 235 #[v,.func (.func 300) #[] #[.pointer (some ⟨g,0,none⟩)]] w fun e w'=>e=.returned (.bool (ks.any (BU i)))∧w'=w:=by
 have H:=ah (AV i g B v ks w hg hv hn);clear hg hv;go_enter Tryz.func235,Tryz.ntmps235;go_wp2_with (go_at_call 278;refine H.out.mono ?_);rintro e w1 ⟨⟨r,rfl,hr,_⟩,rfl⟩
 have hq:(ks.any (BU i))=decide (0≤r):=by
  by_cases h:0≤r
  ·rw[decide_eq_true h];exact hr.1 h
  ·rw[decide_eq_false h,← Bool.not_eq_true];exact fun q=>h (hr.2 q)
 have HQ:=ah hq;clear hq hr;go_wp2;go_ret;exact⟨aM HQ.out.symm,rfl⟩
theorem ND (at_ an:Option Addr)(nt ct nn cn i B:Nat)(n:Nd)(kv:Value)(w:World)(hk:Ints B w kv n.kids)(hB:B≤w.heap.size)(hn:n.kids.length≤1099511627776) :
  Calls Tryz.prog 279 #[.agg #[.slice at_ nt ct,.slice an nn cn],.int .i64 i,.agg #[.int .i64 n.kind,.int .i64 n.tok,kv]] w fun e w'=>e=.returned (.bool (iM nt i n))∧Below w.heap.size w w':=by
 obtain⟨kind,tok,ks⟩:=n;simp only at hk hn ⊢;obtain⟨ak,ck,rfl,_,_⟩:=hk.form
 by_cases h1:kind<1
 ·have hq:iM nt i ⟨kind,tok,ks⟩=false:=by simp[iM,h1]
  rw[hq];clear hq;have d1:decide (kind<1)=true:=decide_eq_true h1;go_enter Tryz.func279,Tryz.ntmps279;go_wp2;go_ret;exact⟨rfl,(((Below.refl _ _).alloc (Nat.le_refl _) _).alloc (by simp) _).alloc (by simp;omega) _⟩
 by_cases h2:19<kind
 ·have hq:iM nt i ⟨kind,tok,ks⟩=false:=by simp[iM,h2]
  rw[hq];clear hq;have d1:decide (kind<1)=false:=decide_eq_false h1;have d2:decide (19<kind)=true:=decide_eq_true h2;go_enter Tryz.func279,Tryz.ntmps279;go_wp2;go_ret;exact⟨rfl,(((Below.refl _ _).alloc (Nat.le_refl _) _).alloc (by simp) _).alloc (by simp;omega) _⟩
 have d1:decide (kind<1)=false:=decide_eq_false h1;have d2:decide (19<kind)=false:=decide_eq_false h2
 by_cases h3:kind=19
 ·subst h3
  have hq:iM nt i ⟨19,tok,ks⟩=(decide ((ks.length:Int)=0) && (decide (0≤tok) && decide (tok<nt))):=by simp[iM]
  rw[hq];clear hq hk d1 d2
  by_cases h4:ks.length=0
  ·obtain rfl:ks=[]:=List.length_eq_zero_iff.1 h4
   clear h4
   by_cases h5:0≤tok
   ·have d5:decide (0≤tok)=true:=decide_eq_true h5
    cases d6:decide (tok<(nt:Int)) with
    | true =>
     go_enter Tryz.func279,Tryz.ntmps279;go_wp2;go_ret;exact⟨aM (by simp[*]),(((Below.refl _ _).alloc (Nat.le_refl _) _).alloc (by simp) _).alloc (by simp;omega) _⟩
    | false =>
     go_enter Tryz.func279,Tryz.ntmps279;go_wp2;go_ret;exact⟨aM (by simp[*]),(((Below.refl _ _).alloc (Nat.le_refl _) _).alloc (by simp) _).alloc (by simp;omega) _⟩
   ·have d5:decide (0≤tok)=false:=decide_eq_false h5
    go_enter Tryz.func279,Tryz.ntmps279;go_wp2;go_ret;exact⟨aM (by simp[*]),(((Below.refl _ _).alloc (Nat.le_refl _) _).alloc (by simp) _).alloc (by simp;omega) _⟩
  ·have d4:((ks.length:Int) == 0)=false:=by simp[h4]
   have d5:decide ((ks.length:Int)=0)=false:=decide_eq_false (by omega);rw[d5,Bool.false_and];clear d5;go_enter Tryz.func279,Tryz.ntmps279;go_wp2;go_ret;exact⟨rfl,(((Below.refl _ _).alloc (Nat.le_refl _) _).alloc (by simp) _).alloc (by simp;omega) _⟩
 ·have d3:(kind == 19)=false:=by simp[h3]
  by_cases h4:tok=-1
  ·subst h4
   have hq:iM nt i ⟨kind,-1,ks⟩=!(ks.any (BU i)):=by
    unfold iM;rw[if_neg (by simp only;omega),if_neg h3]
    rfl
   rw[hq];clear hq;have HK:=ah hk;clear hk;go_enter Tryz.func279,Tryz.ntmps279;go_wp2_with (go_at_call 235;refine(wC i (w.heap.size+1) B _ ks _ ?c1 (HK.out.below ?c2) hn).mono ?_)
   case c2=>exact(((Below.refl _ _).alloc hB _).alloc (by simp;omega) _).alloc (by simp;omega) _
   go_ret;exact⟨rfl,(((Below.refl _ _).alloc (Nat.le_refl _) _).alloc (by simp) _).alloc (by simp;omega) _⟩
  ·have hq:iM nt i ⟨kind,tok,ks⟩=false:=by
    unfold iM;rw[if_neg (by simp only;omega),if_neg h3];simp[h4]
   rw[hq];clear hq hk
   have d4:(tok == -1)=false:=by simp[h4]
   go_enter Tryz.func279,Tryz.ntmps279;go_wp2;go_ret;exact⟨rfl,(((Below.refl _ _).alloc (Nat.le_refl _) _).alloc (by simp) _).alloc (by simp;omega) _⟩
def mo (P:Nat→Prop)(w:World)(v:Value)(sz n:Nat)(cs:List Value):Prop :=
 ∃ ao cap,v=.slice ao n cap∧n≤cap∧cs.length=n * sz ∧
  (0<n→∃ b off,ao=some ⟨b,off,none⟩∧P b∧b<w.heap.size∧∀ i,(h:i<cs.length)→w.cell? ⟨b,off+i,none⟩=some cs[i])
def aT (P:Nat→Prop)(w w':World):Prop:=w.heap.size≤w'.heap.size∧∀ b,P b→b<w.heap.size→w'.heap[b]?=w.heap[b]?
theorem aT.refl (P:Nat→Prop)(w:World):aT P w w:=⟨Nat.le_refl _,fun _ _ _=>rfl⟩
theorem aT.trans {P:Nat→Prop}{a b c:World}(h:aT P a b)(k:aT P b c):aT P a c:=⟨Nat.le_trans h.1 k.1,fun n hn hl=>(k.2 n hn (Nat.lt_of_lt_of_le hl h.1)).trans (h.2 n hn hl)⟩
theorem aT.of {P:Nat→Prop}{w w':World}(h:Below w.heap.size w w'):aT P w w':=⟨h.size,fun b _ hb=>h.block b hb⟩
theorem aT.qw {P:Nat→Prop}{B:Nat}{w w':World}(h:Below B w w')(hP:∀ b,P b→b<B):aT P w w':=⟨h.size,fun b hb _=>h.block b (hP b hb)⟩
theorem aT.grown {P:Nat→Prop}{w w':World}{row:Option Nat}(h:w.grownBy w' row)(hP:∀ b,P b→some b≠row):aT P w w':=⟨h.size,fun b hb hl=>h.block b hl (hP b hb)⟩
theorem aT.set {P:Nat→Prop}{w:World}{a:Addr}(u:Value)(hP:∀ b,P b→b≠a.block):aT P w (w.setCell a u):=⟨by simp,fun b hb _=>heap_setCell_other _ _ _ _ (hP b hb)⟩
theorem mo.frame {P:Nat→Prop}{w w':World}{v:Value}{sz n:Nat}{cs:List Value}(h:mo P w v sz n cs)(ha:aT P w w'):mo P w' v sz n cs:=by
 obtain⟨ao,cap,hv,hn,hl,hc⟩:=h;refine⟨ao,cap,hv,hn,hl,fun h0=>?_⟩;obtain⟨b,off,e,hP,hlt,hcell⟩:=hc h0;exact⟨b,off,e,hP,Nat.lt_of_lt_of_le hlt ha.1,fun i hi=>(World.cell?_of_block (a:=⟨b,off+i,none⟩) (ha.2 b hP hlt)).trans (hcell i hi)⟩
theorem mo.imp {P Q:Nat→Prop}{w:World}{v:Value}{sz n:Nat}{cs:List Value}(h:mo P w v sz n cs)(hq:∀ b,P b→b<w.heap.size→Q b):mo Q w v sz n cs:=by
 obtain⟨ao,cap,hv,hn,hl,hc⟩:=h;refine⟨ao,cap,hv,hn,hl,fun h0=>?_⟩;obtain⟨b,off,e,hP,hlt,hcell⟩:=hc h0;exact⟨b,off,e,hq b hP hlt,hlt,hcell⟩
theorem mo.nil (P:Nat→Prop)(w:World)(sz:Nat):mo P w (.slice none 0 0) sz 0 []:=⟨none,0,rfl,Nat.le_refl _,by simp,fun h=>absurd h (by omega)⟩
theorem mo.eP {P:Nat→Prop}{B:Nat}{w:World}{e sz:Nat}{v:Value}{n:Nat}{cs:List Value}(h:w.ownsRow B e sz v n cs)(hP:∀ b,B≤b→P b):mo P w v sz n cs:=by
 obtain⟨ao,cap,hv,hn,hl,hc⟩:=Sl.eP h;refine⟨ao,cap,hv,hn,hl,fun h0=>?_⟩;obtain⟨b,off,e,hlt,hcell⟩:=hc h0;refine⟨b,off,e,hP b ?_,hlt,hcell⟩
 rcases h.2 with ⟨hv',h1⟩|⟨g,cap',cur,hv',hg,_⟩
 ·omega
 ·rw[hv,e] at hv'
  simp only[Value.slice.injEq,Option.some.injEq,Addr.mk.injEq] at hv';omega
theorem mo.form {P:Nat→Prop}{w:World}{v:Value}{sz n:Nat}{cs:List Value}(h:mo P w v sz n cs):∃ ao cap,v=.slice ao n cap:=by
 obtain⟨ao,cap,hv,_⟩:=h;exact⟨ao,cap,hv⟩
structure Shape where
 sz:Nat
 cells:PE→Value→Value→List Value
 agg:PE→Value→Value→Value
 num:(Nat→Prop)→World→Int→Value→Prop
 len:∀ e m k,(cells e m k).length=sz
 frame:∀ {P:Nat→Prop} {w w':World} {n:Int} {m:Value},num P w n m→aT P w w'→num P w' n m
 imp:∀ {P Q:Nat→Prop} {w:World} {n:Int} {m:Value},num P w n m→(∀ b,P b→b<w.heap.size→Q b)→num Q w n m
def oM (S:Shape):List PE→List (Value × Value)→List Value
 | e :: es,p :: l=>S.cells e p.1 p.2++oM S es l
 | _,_=>[]
mutual
def nH (S:Shape)(P:Nat→Prop)(w:World)(mag kv:Value):PE→Prop
 | .mk _op _name YS num afB ad5 kids _at_=>S.num P w num mag∧∃ l:List (Value × Value),mo P w kv S.sz kids.length (oM S kids l)∧iB S P w l kids
def iB (S:Shape)(P:Nat→Prop)(w:World)(l:List (Value × Value)):List PE→Prop
 | []=>l=[]
 | e :: es=>∃ p l',l=p :: l'∧nH S P w p.1 p.2 e∧iB S P w l' es
end
mutual
theorem nH.frame {S:Shape}{P:Nat→Prop}{w w':World}(ha:aT P w w'):∀ {e:PE} {m k:Value},nH S P w m k e→nH S P w' m k e
 | .mk op name module num txt yes kids at_,m,k,h=>by
  rw[nH] at h ⊢;obtain⟨h1,l,h2,h3⟩:=h;exact⟨S.frame h1 ha,l,h2.frame ha,iB.frame ha h3⟩
theorem iB.frame {S:Shape}{P:Nat→Prop}{w w':World}(ha:aT P w w'):∀ {es:List PE} {l:List (Value × Value)},iB S P w l es→iB S P w' l es
 | [],l,h=>by rw[iB] at h ⊢;exact h
 | e :: es,l,h=>by
  rw[iB] at h ⊢;obtain⟨p,l',h1,h2,h3⟩:=h;exact⟨p,l',h1,nH.frame ha h2,iB.frame ha h3⟩
end
mutual
theorem nH.imp {S:Shape}{P Q:Nat→Prop}{w:World}(hq:∀ b,P b→b<w.heap.size→Q b):∀ {e:PE} {m k:Value},nH S P w m k e→nH S Q w m k e
 | .mk op name module num txt yes kids at_,m,k,h=>by
  rw[nH] at h ⊢;obtain⟨h1,l,h2,h3⟩:=h;exact⟨S.imp h1 hq,l,h2.imp hq,iB.imp hq h3⟩
theorem iB.imp {S:Shape}{P Q:Nat→Prop}{w:World}(hq:∀ b,P b→b<w.heap.size→Q b):∀ {es:List PE} {l:List (Value × Value)},iB S P w l es→iB S Q w l es
 | [],l,h=>by rw[iB] at h ⊢;exact h
 | e :: es,l,h=>by
  rw[iB] at h ⊢;obtain⟨p,l',h1,h2,h3⟩:=h;exact⟨p,l',h1,nH.imp hq h2,iB.imp hq h3⟩
end
theorem iB.len {S:Shape}{P:Nat→Prop}{w:World}:∀ {es:List PE} {l:List (Value × Value)},iB S P w l es→l.length=es.length
 | [],l,h=>by rw[iB] at h;subst h;rfl
 | e :: es,l,h=>by
  rw[iB] at h;obtain⟨p,l',rfl,_,h3⟩:=h;simp[iB.len h3]
theorem iB.snoc {S:Shape}{P:Nat→Prop}{w:World}:∀ {es:List PE} {l:List (Value × Value)} {e:PE} {m k:Value},iB S P w l es→nH S P w m k e→iB S P w (l++[(m,k)]) (es++[e])
 | [],l,e,m,k,h,h2=>by
  rw[iB] at h;subst h;rw[List.nil_append,List.nil_append,iB];exact⟨(m,k),[],rfl,h2,by rw[iB]⟩
 | x :: es,l,e,m,k,h,h2=>by
  rw[iB] at h;obtain⟨p,l',rfl,h3,h4⟩:=h;rw[List.cons_append,List.cons_append,iB];exact⟨p,_,rfl,h3,h4.snoc h2⟩
theorem BX (S:Shape):∀ (es:List PE) (l:List (Value × Value)) (e:PE) (m k:Value),l.length=es.length→oM S (es++[e]) (l++[(m,k)])=oM S es l++S.cells e m k
 | [],[],e,m,k,_=>by simp[oM]
 | x :: es,p :: l,e,m,k,h=>by
  simp only[List.cons_append,oM,BX S es l e m k (by simpa using h),List.append_assoc]
 | [],_ :: _,_,_,_,h=>by simp at h
 | _ :: _,[],_,_,_,h=>by simp at h
theorem JV (S:Shape):∀ (es:List PE) (l:List (Value × Value)) (i j:Nat) (hl:l.length=es.length) (hi:i<es.length),j<S.sz→(oM S es l)[i * S.sz+j]?=(S.cells es[i] (l[i]'(by omega)).1 (l[i]'(by omega)).2)[j]?
 | [],[],i,j,_,h,_=>absurd h (by simp)
 | x :: es,p :: l,0,j,_,_,hj=>by
  simp only[oM,Nat.zero_mul,Nat.zero_add,List.getElem_cons_zero];rw[List.getElem?_append_left (by rw[S.len];exact hj)]
 | x :: es,p :: l,i+1,j,hl,hi,hj=>by
  simp only[oM,List.getElem_cons_succ];rw[List.getElem?_append_right (by rw[S.len,Nat.succ_mul];omega),S.len,show (i+1) * S.sz+j - S.sz=i * S.sz+j by rw[Nat.succ_mul];omega];exact JV S es l i j (by simpa using hl) (by simpa using hi) hj
 | [],_ :: _,_,_,h,_,_=>by simp at h
 | _ :: _,[],_,_,h,_,_=>by simp at h
theorem iB.get {S:Shape}{P:Nat→Prop}{w:World}:∀ {es:List PE} {l:List (Value × Value)} (h:iB S P w l es) (i:Nat) (hi:i<es.length),nH S P w (l[i]'(by rw[h.len];exact hi)).1 (l[i]'(by rw[h.len];exact hi)).2 es[i]
 | [],l,h,i,hi=>absurd hi (by simp)
 | e :: es,l,h,i,hi=>by
  have h':=h;rw[iB] at h';obtain⟨p,l',rfl,h3,h4⟩:=h'
  cases i with
  | zero=>exact h3
  | succ i=>exact h4.get i (by simpa using hi)
theorem nH.form {S:Shape}{P:Nat→Prop}{w:World}{e:PE}{mag kv:Value}(h:nH S P w mag kv e):S.num P w e.num mag∧∃ ao cap,kv=.slice ao e.kids.length cap∧e.kids.length≤cap ∧
  (0<e.kids.length→∃ b off,ao=some ⟨b,off,none⟩∧P b∧b<w.heap.size∧∀ i,(hi:i<e.kids.length)→∃ m k,nH S P w m k e.kids[i]∧∀ j u,(S.cells e.kids[i] m k)[j]?=some u→w.cell? ⟨b,off+i * S.sz+j,none⟩=some u):=by
 cases e with
 | mk op name module num txt yes kids at_ =>
  rw[nH] at h;obtain⟨h1,l,⟨ao,cap,hv,hn,hl,hc⟩,h3⟩:=h;refine⟨h1,ao,cap,hv,hn,fun h0=>?_⟩;obtain⟨b,off,ha,hP,hlt,hcell⟩:=hc h0;refine⟨b,off,ha,hP,hlt,fun i hi=>?_⟩;have hll:=h3.len;refine⟨_,_,h3.get i hi,fun j u hu=>?_⟩
  have hj:j<S.sz:=by
   rcases Nat.lt_or_ge j S.sz with h'|h'
   ·exact h'
   ·rw[List.getElem?_eq_none (by rw[S.len];exact h')] at hu;cases hu
  have hr:=JV S kids l i j hll hi hj;have hu':=hr.trans hu;obtain⟨h',e⟩:=nY hu';have:=hcell (i * S.sz+j) h';rw[e] at this;rw[Nat.add_assoc];exact this
def lM (P:Nat→Prop)(w:World)(n:Int)(m:Value):Prop :=
 ∃ ws:List Nat,mo P w m 1 ws.length (ws.map fun d=>.int .u32 (d:Nat))∧bW ws=ws∧(∀ x∈ws,x<4294967296)∧iA ws=n.natAbs
def dM (l:List UInt8):Value:=.string ⟨l.toArray⟩
def XA:Shape where
 sz:=8
 cells e m k:=[.int .i64 e.op,dM e.name,dM e.module,.bool (decide (e.num<0)),m,.bool e.yes,k,.int .i64 e.at_]
 agg e m k:=.agg #[.int .i64 e.op,dM e.name,dM e.module,.bool (decide (e.num<0)),m,.bool e.yes,k,.int .i64 e.at_]
 num:=lM
 len _ _ _:=rfl
 frame h ha:=by obtain⟨ws,h1,h2⟩:=h;exact⟨ws,h1.frame ha,h2⟩
 imp h hq:=by obtain⟨ws,h1,h2⟩:=h;exact⟨ws,h1.imp hq,h2⟩
def XR:Shape where
 sz:=7
 cells e _ k:=[.int .i64 e.op,dM e.name,dM e.module,dM e.txt,.bool e.yes,k,.int .i64 e.at_]
 agg e _ k:=.agg #[.int .i64 e.op,dM e.name,dM e.module,dM e.txt,.bool e.yes,k,.int .i64 e.at_]
 num _ _ _ _:=True
 len _ _ _:=rfl
 frame _ _:=trivial
 imp _ _:=trivial
theorem lM.zero (P:Nat→Prop)(w:World):lM P w 0 (.slice none 0 0):=⟨[],mo.nil P w 1,rfl,fun x h=>(by cases h),rfl⟩
def EPost (S:Shape)(e:PE)(w:World)(r:Ending)(w':World):Prop:=∃ m k,r=.returned (S.agg e m k)∧nH S (fun b=>w.heap.size≤b) w' m k e∧Below w.heap.size w w'
end Go.Proofs.YtknicmmigbhpcaaGreatDoor
