/- Walks and plain laws: ZedPlain, ExprPlain, FreePlain. -/
import Derived.Test.YtknicmmigbhpcaaGreatDoorB02
set_option maxHeartbeats 16000000
set_option maxRecDepth 100000
set_option linter.unusedVariables false
set_option linter.unusedSimpArgs false
namespace Go.Proofs.YtknicmmigbhpcaaGreatDoor
def wB:Nat:=4294967296
def gQ:List Nat→Nat
 | []=>0
 | d :: l=>d+4294967296 * gQ l
def bR:List Nat→List Nat
 | []=>[]
 | d :: l=>if bR l=[]∧d=0 then [] else d :: bR l
theorem uj:∀ l,gQ (bR l)=gQ l
 | []=>rfl
 | d :: l=>by
  rw[bR]
  split
  ·rename_i h
   have:=uj l;rw[h.1] at this;rw[gQ,gQ,← this,h.2]
   rfl
  ·rw[gQ,uj l,gQ]
theorem vw:∀ l,gQ l=0→bR l=[]
 | [],_=>rfl
 | d :: l,h=>by
  rw[gQ] at h;rw[bR,if_pos ⟨vw l (by omega),by omega⟩]
theorem EU:∀ l,(bR l).length≤l.length
 | []=>Nat.le_refl _
 | d :: l=>by
  have:=EU l;rw[bR]
  split<;>simp
  exact this
theorem yK:∀ (l:List Nat) (x:Nat),x∈bR l→x∈l
 | [],x,h=>h
 | d :: l,x,h=>by
  rw[bR] at h
  split at h
  ·cases h
  ·rcases List.mem_cons.1 h with rfl|h
   ·exact List.mem_cons_self
   ·exact List.mem_cons_of_mem _ (yK l x h)
theorem vB:∀ l,bR (bR l)=bR l
 | []=>rfl
 | d :: l=>by
  rw[bR]
  split
  ·rfl
  ·rename_i h
   rw[bR,vB l,if_neg h]
theorem um {l:List Nat}(h:bR l=l)(hl:l≠[]):0<gQ l:=by
 apply Nat.pos_of_ne_zero
 intro q;exact hl (by rw[← h,vw l q])
theorem qU:∀ (l:List Nat),∃ n,n≤l.length∧bR l=l.take n∧(∀ j,n≤j→(h:j<l.length)→l[j]=0)∧(∀ j,j+1=n→(h:j<l.length)→l[j]≠0)
 | []=>⟨0,Nat.le_refl _,rfl,fun j _ h=>absurd h (by simp),fun j h=>by omega⟩
 | d :: l=>by
  obtain⟨n,h1,h2,h3,h4⟩:=qU l;rw[bR]
  split
  ·rename_i h
   have hn:n=0∨l=[]:=by
    have:(l.take n).length=0:=by rw[← h2,h.1];rfl
    rw[List.length_take] at this
    rcases Nat.eq_zero_or_pos n with q|q
    ·exact .inl q
    ·exact .inr (List.length_eq_zero_iff.1 (by omega))
   refine⟨0,Nat.zero_le _,rfl,fun j _ hj=>?_,fun j hj=>by omega⟩
   cases j with
   | zero=>exact h.2
   | succ j =>
    simp only[eG] at hj
    rcases hn with q|q
    ·simpa using h3 j (by omega) (by omega)
    ·subst q;simp at hj
  ·rename_i h
   refine⟨n+1,by simpa using h1,by rw[h2,List.take_succ_cons],fun j hj hl=>?_,fun j hj hl=>?_⟩
   ·cases j with
    | zero=>omega
    | succ j=>simpa using h3 j (by omega) (by simpa using hl)
   ·cases j with
    | zero =>
     obtain rfl:n=0:=by omega
     intro q;exact h ⟨by rw[h2];rfl,q⟩
    | succ j=>simpa using h4 j (by omega) (by simpa using hl)
def eu (GR:Nat):List Nat→Nat→List Nat
 | [],more=>[more % 4294967296]
 | d :: l,more=>(more+d * GR) % 4294967296 :: eu GR l ((more+d * GR) / 4294967296)
theorem jB (b:Nat):∀ (l:List Nat) (m:Nat),(eu b l m).length=l.length+1
 | [],_=>rfl
 | d :: l,m=>by rw[eu,eG,jB b l,eG]
theorem EW (b:Nat):∀ (l:List Nat) (m x:Nat),x∈eu b l m→x<4294967296
 | [],m,x,h=>by rw[eu,List.mem_singleton] at h;omega
 | d :: l,m,x,h=>by
  rw[eu] at h
  rcases List.mem_cons.1 h with rfl|h
  ·omega
  ·exact EW b l _ x h
theorem Jl {d b m:Nat}(hd:d<4294967296)(hb:b≤1000000000)(hm:m≤1000000000):m+d * b≤4294967295000000000+1000000000∧(m+d * b) / 4294967296≤1000000000:=by
 have h1:d * b≤4294967295 * 1000000000:=Nat.mul_le_mul (by omega) hb;omega
theorem Bj (b:Nat)(hb:b≤1000000000):∀ (l:List Nat) (m:Nat),(∀ x∈l,x<4294967296)→m≤1000000000→gQ (eu b l m)=gQ l * b+m
 | [],m,_,hm=>by
  rw[eu,gQ,gQ,gQ,Nat.mod_eq_of_lt (by omega)];omega
 | d :: l,m,hl,hm=>by
  have hc:=Jl (hl d List.mem_cons_self) hb hm;have ih:=Bj b hb l _ (fun x hx=>hl x (List.mem_cons_of_mem _ hx)) hc.2;rw[eu,gQ,ih,gQ];have:=Nat.div_add_mod (m+d * b) 4294967296;generalize (m+d * b) / 4294967296=q at *;generalize (m+d * b) % 4294967296=r at *
  have e:(d+4294967296 * gQ l) * b+m=m+d * b+4294967296 * (gQ l * b):=by
   rw[Nat.add_mul,Nat.mul_assoc];omega
  rw[e,← this];omega
theorem Bl {α:Type}{P:List α→Prop}(h0:P [])(h1:∀ (l:List α) (c:α),P l→P (l++[c]))(l:List α):P l:=by
 have h:∀ (r:List α),P r.reverse:=fun r=>by
  induction r with
  | nil=>exact h0
  | cons c r ih=>rw[List.reverse_cons];exact h1 _ _ ih
 have:=h l.reverse
 rwa [List.reverse_reverse] at this
def iJ (l:List UInt8):Nat:=l.foldl (fun a c=>a * 10+(c.toNat - 48)) 0
theorem pY (l:List UInt8)(c:UInt8):iJ (l++[c])=iJ l * 10+(c.toNat - 48):=by
 unfold iJ;rw[List.foldl_append];rfl
theorem Jm:∀ (b a:List UInt8),iJ (a++b)=iJ a * 10 ^ b.length+iJ b:=by
 refine Bl ?_ ?_
 ·intro a;simp[iJ]
 ·intro b c ih a
  rw[← List.append_assoc,pY,ih,pY,bN,List.length_singleton,Nat.pow_succ,Nat.add_mul,← Nat.mul_assoc,Nat.add_assoc]
def eO (l:List UInt8):Bool:=l.all fun c=>decide (48≤c.toNat) && decide (c.toNat≤57)
theorem AL:∀ (l:List UInt8),eO l=true→iJ l<10 ^ l.length:=by
 refine Bl ?_ ?_
 ·intro _;decide
 ·intro l c ih h
  rw[eO,List.all_append,Bool.and_eq_true] at h;have h1:=ih h.1;have h2:=h.2;simp only[List.all_cons,List.all_nil,Bool.and_true,Bool.and_eq_true,decide_eq_true_eq] at h2;rw[pY,bN,List.length_singleton,Nat.pow_succ];omega
theorem Yf {n:Nat}(h:n≤9):10 ^ n≤1000000000:=Nat.pow_le_pow_right (by omega) h
def aW (b:Nat):List Nat→List Nat × Nat
 | []=>([],0)
 | d :: l=>(((aW b l).2 * 4294967296+d) / b :: (aW b l).1,((aW b l).2 * 4294967296+d) % b)
theorem Bn (b:Nat):∀ l,(aW b l).1.length=l.length
 | []=>rfl
 | d :: l=>by rw[aW,eG,Bn b l,eG]
theorem oN (b:Nat)(hb:0<b):∀ l,(aW b l).2<b
 | []=>hb
 | _d :: _l=>Nat.mod_lt _ hb
theorem Bo (b:Nat):∀ l,gQ l=gQ (aW b l).1 * b+(aW b l).2
 | []=>by simp[aW,gQ]
 | d :: l=>by
  rw[aW];simp only;have ih:=Bo b l;have:=Nat.div_add_mod ((aW b l).2 * 4294967296+d) b;rw[gQ,gQ,ih];generalize ((aW b l).2 * 4294967296+d) / b=q at *;generalize ((aW b l).2 * 4294967296+d) % b=r at *;generalize gQ (aW b l).1=M at *;generalize (aW b l).2=s at *;rw[Nat.add_mul,Nat.mul_assoc,Nat.mul_comm q b];omega
theorem EY (b:Nat)(hb:0<b):∀ l,(∀ x∈l,x<4294967296)→∀ x∈(aW b l).1,x<4294967296
 | [],_,x,h=>by cases h
 | d :: l,hl,x,h=>by
  rw[aW] at h;simp only at h
  rcases List.mem_cons.1 h with rfl|h
  ·have h1:=oN b hb l
   have h2:=hl d List.mem_cons_self;rw[Nat.div_lt_iff_lt_mul hb];have:((aW b l).2+1) * 4294967296≤b * 4294967296:=Nat.mul_le_mul_right _ h1;rw[Nat.mul_comm 4294967296 b];omega
  ·exact EY b hb l (fun x hx=>hl x (List.mem_cons_of_mem _ hx)) x h
def jw:Nat→Nat→List UInt8
 | 0,_=>[]
 | k+1,n=>UInt8.ofNat (48+n % 10) :: jw k (n / 10)
theorem wQ:∀ (k j n:Nat),jw (k+j) n=jw k n++jw j (n / 10 ^ k)
 | 0,j,n=>by simp[jw]
 | k+1,j,n=>by
  rw[show k+1+j=(k+j)+1 by omega,jw,jw,wQ k j,List.cons_append,Nat.div_div_eq_div_mul,← Nat.pow_succ']
theorem EZ (k n:Nat):jw (k+1) n=jw k n++[UInt8.ofNat (48+n / 10 ^ k % 10)]:=by
 rw[wQ k 1];rfl
theorem Jo:∀ (k j n:Nat),k≤j→jw k (n % 10 ^ j)=jw k n
 | 0,_,_,_=>rfl
 | k+1,0,_,h=>absurd h (by omega)
 | k+1,j+1,n,h=>by
  have e1:n % 10 ^ (j+1) % 10=n % 10:=Nat.mod_mod_of_dvd _ ⟨10 ^ j,by rw[Nat.pow_succ,Nat.mul_comm]⟩
  have e2:n % 10 ^ (j+1) / 10=n / 10 % 10 ^ j:=by
   rw[Nat.pow_succ,Nat.mul_comm,Nat.mod_mul_right_div_self]
  rw[jw,jw,e1,e2,Jo k j _ (by omega)]
theorem E8:∀ k,jw k 0=List.replicate k 48
 | 0=>rfl
 | k+1=>by rw[jw,Nat.zero_div,E8 k,List.replicate_succ];rfl
theorem TS (n:Nat):∃ k,fJ n=(jw (k+1) n).reverse∧n<10 ^ (k+1)∧(n=0→k=0)∧(0<n→10 ^ k≤n):=by
 induction n using Nat.strongRecOn with
 | _ n ih =>
  rw[fJ]
  split
  ·rename_i h
   refine⟨0,?_,by omega,fun _=>rfl,fun h=>by omega⟩;rw[jw,jw,Nat.mod_eq_of_lt h]
   rfl
  ·rename_i h
   obtain⟨k,h1,h2,h3,h4⟩:=ih (n / 10) (by omega);refine⟨k+1,?_,?_,fun q=>by omega,fun _=>?_⟩
   ·rw[jw,List.reverse_cons,h1]
   ·rw[Nat.pow_succ];omega
   ·have:=h4 (by omega)
    rw[Nat.pow_succ];omega
def wR (l:List UInt8):List UInt8:=(l.reverse.dropWhile (· == 48)).reverse
theorem Mj {d:Nat}(h:d<10):(UInt8.ofNat (48+d)).toNat=48+d:=by
 rw[UInt8.toNat_ofNat'];omega
theorem TT (n k:Nat)(h0:0<n)(hk:n<10 ^ k):(wR (jw k n)).reverse=fJ n:=by
 obtain⟨j,h1,h2,_,h4⟩:=TS n
 have hj:j+1≤k:=by
  have:=h4 h0
  have h5:10 ^ j<10 ^ k:=by omega
  have:=(Nat.pow_lt_pow_iff_right (by omega:1<10)).1 h5;omega
 rw[wR,List.reverse_reverse,h1]
 have e:jw k n=jw (j+1) n++List.replicate (k - (j+1)) 48:=by
  conv=>lhs;rw[show k=(j+1)+(k - (j+1)) by omega,wQ,Nat.div_eq_of_lt h2,E8]
 rw[e,List.reverse_append,List.reverse_replicate]
 have e2:∀ (m:Nat) (l:List UInt8),(List.replicate m (48:UInt8)++l).dropWhile (· == 48)=l.dropWhile (· == 48):=fun m l=>by
  induction m with
  | zero=>simp
  | succ m ih=>rw[List.replicate_succ,List.cons_append,List.dropWhile_cons_of_pos (by decide),ih]
 rw[e2,EZ,List.reverse_append,List.reverse_singleton,List.singleton_append,List.dropWhile_cons_of_neg];have h6:0<n / 10 ^ j:=Nat.div_pos (h4 h0) (Nat.pow_pos (by omega))
 have h7:n / 10 ^ j<10:=by rw[Nat.div_lt_iff_lt_mul (Nat.pow_pos (by omega)),Nat.mul_comm,← Nat.pow_succ];exact h2
 rw[Nat.mod_eq_of_lt h7];intro q;have:=congrArg UInt8.toNat (eq_of_beq q);rw[Mj h7] at this;simp at this;omega
theorem TU:∀ (l:List UInt8),eO l=true→l≠[]→(l.head?=some 48→l.length=1)→fJ (iJ l)=l:=by
 refine Bl ?_ ?_
 ·intro _ h;exact absurd rfl h
 ·intro l c ih hd _ hh
  rw[eO,List.all_append,Bool.and_eq_true] at hd;have hc:=hd.2;simp only[List.all_cons,List.all_nil,Bool.and_true,Bool.and_eq_true,decide_eq_true_eq] at hc
  have e:UInt8.ofNat (48+(c.toNat - 48))=c:=by
   rw[show 48+(c.toNat - 48)=c.toNat by omega];exact UInt8.ofNat_toNat
  rw[pY,fJ]
  by_cases hl:l=[]
  ·subst hl
   have:iJ []=0:=rfl;rw[this,dif_pos (by omega),Nat.zero_mul,Nat.zero_add,e]
   rfl
  ·have hne:l.head?≠some 48:=fun q=>by
    have:=hh (by rw[List.head?_append,q];rfl);rw[bN,List.length_singleton] at this;exact hl (List.length_eq_zero_iff.1 (by omega))
   have ih':=ih hd.1 hl (fun q=>absurd q hne)
   have hpos:0<iJ l:=by
    apply Nat.pos_of_ne_zero
    intro q;rw[q] at ih'
    have:l=[48]:=by rw[← ih'];rw[fJ];simp
    exact hne (by rw[this];rfl)
   rw[dif_neg (by omega),show (iJ l * 10+(c.toNat - 48)) / 10=iJ l by omega,show (iJ l * 10+(c.toNat - 48)) % 10=c.toNat - 48 by omega,ih',e]
inductive PE where
 | mk (op:Nat) (name module:List UInt8) (num:Int) (txt:List UInt8) (yes:Bool) (kids:List PE) (at_:Nat)
def PE.op:PE→Nat | .mk o _ _ _ _ _ _ _=>o
def PE.name:PE→List UInt8 | .mk _ n _ _ _ _ _ _=>n
def PE.module:PE→List UInt8 | .mk _ _ m _ _ _ _ _=>m
def PE.num:PE→Int | .mk _ _ _ n _ _ _ _=>n
def PE.txt:PE→List UInt8 | .mk _ _ _ _ t _ _ _=>t
def PE.yes:PE→Bool | .mk _ _ _ _ _ y _ _=>y
def PE.kids:PE→List PE | .mk _ _ _ _ _ _ k _=>k
def PE.at_:PE→Nat | .mk _ _ _ _ _ _ _ a=>a
def iZ (n:Int):List UInt8:=(if n<0 then [45] else [])++fJ n.natAbs
def Jp (op:Nat)(name module num:List UInt8)(yes:Bool):List UInt8 :=
 [91]++fJ op++(if module≠[] then [32]++module++[46]++name else if name≠[] then [32]++name else [])
  ++ (if op=1 then [32]++num else [])++(if op=2 then (if yes=true then [32,116,114,117,101] else [32,102,97,108,115,101]) else [])
mutual
def PE.dump:PE→List UInt8
 | .mk op name module num _ yes kids _=>Jp op name module (iZ num) yes++Jq kids++[93]
def Jq:List PE→List UInt8
 | []=>[]
 | e :: l=>[32]++e.dump++Jq l
end
mutual
def PE.oO:PE→List UInt8
 | .mk op name module _ txt yes kids _=>Jp op name module txt yes++sH kids++[93]
def sH:List PE→List UInt8
 | []=>[]
 | e :: l=>[32]++e.oO++sH l
end
mutual
def PE.ats:PE→List Int
 | .mk _ _ _ _ _ _ kids a=>(a:Int) :: Yg kids
def Yg:List PE→List Int
 | []=>[]
 | e :: l=>e.ats++Yg l
end
mutual
def PE.told:PE→Prop
 | .mk op _ _ num txt _ kids _=>(op=1→txt=iZ num)∧Bp kids
def Bp:List PE→Prop
 | []=>True
 | e :: l=>e.told∧Bp l
end
mutual
theorem PE.jo:∀ {e:PE},e.told→e.oO=e.dump
 | .mk op name module num txt yes kids a,h=>by
  rw[PE.told] at h;rw[PE.oO,PE.dump,Bq h.2]
  by_cases h1:op=1
  ·rw[h.1 h1]
  ·simp only[Jp,if_neg h1]
theorem Bq:∀ {l:List PE},Bp l→sH l=Jq l
 | [],_=>by rw[sH,Jq]
 | e :: l,h=>by
  rw[Bp] at h;rw[sH,Jq,PE.jo h.1,Bq h.2]
end
def cB (toks:List Tok)(u:Nat):Nat:=(bP toks u).place
mutual
def CE.pe (toks:List Tok)(u:Nat):CE→PE
 | .num=>.mk 1 [] [] (iJ (aI toks u):Nat) (aI toks u) false [] (cB toks u)
 | .truth=>.mk 2 [] [] 0 [] (decide (aI toks u=O9)) [] (cB toks u)
 | .res=>.mk 4 [] [] 0 [] false [] (cB toks u)
 | .Jh=>.mk 3 (aI toks u) [] 0 [] false [] (cB toks u)
 | .group e=>e.pe toks (u+1)
 | .un e=>.mk (if aI toks u=Yb then 6 else 5) [] [] 0 [] false [e.pe toks (u+1)] (cB toks u)
 | .bin a b=>.mk (7+nS.idxOf (aI toks (u+a.pt.lv))) [] [] 0 [] false [a.pe toks u,b.pe toks (u+a.pt.lv+1)] (cB toks (u+a.pt.lv))
 | .iff a b c=>.mk 21 [] [] 0 [] false [a.pe toks (u+1),b.pe toks (u+1+a.pt.lv+1),c.pe toks (u+1+a.pt.lv+1+b.pt.lv+1)] (cB toks u)
 | .pG a b=>.mk 22 (aI toks (u+1)) [] 0 [] false [a.pe toks (u+3),b.pe toks (u+3+a.pt.lv+1)] (cB toks u)
 | .pI a b=>.mk 23 [] [] 0 [] false [a.pe toks (u+1),b.pe toks (u+1+a.pt.lv+1)] (cB toks u)
 | .call q l=>if q=true then .mk 24 (aI toks (u+2)) (aI toks u) 0 [] false (iy toks (u+4) l) (cB toks u) else .mk 24 (aI toks u) [] 0 [] false (iy toks (u+2) l) (cB toks u)
def iy (toks:List Tok)(u:Nat):List CE→List PE
 | []=>[]
 | e :: l=>e.pe toks u :: iy toks (u+e.pt.lv+1) l
end
def Mk (toks:List Tok):Prop:=∀ u,fZ toks u=3→fJ (iJ (aI toks u))=aI toks u
theorem wS (n:Nat):iZ (n:Int)=fJ n:=by
 unfold iZ;rw[if_neg (by omega),List.nil_append,Int.natAbs_natCast]
mutual
theorem CE.told {toks:List Tok}(hN:Mk toks){cl:Bool}:∀ (e:CE) (u:Nat),e.ok toks cl u→(e.pe toks u).told
 | .num,u,h=>by
  rw[CE.ok] at h;rw[CE.pe,PE.told];exact⟨fun _=>by rw[wS,hN u h],trivial⟩
 | .truth,u,h=>by rw[CE.pe,PE.told];exact⟨fun q=>absurd q (by decide),trivial⟩
 | .res,u,h=>by rw[CE.pe,PE.told];exact⟨fun q=>absurd q (by decide),trivial⟩
 | .Jh,u,h=>by rw[CE.pe,PE.told];exact⟨fun q=>absurd q (by decide),trivial⟩
 | .group e,u,h=>by rw[CE.ok] at h;rw[CE.pe];exact CE.told hN e _ h.2
 | .un e,u,h=>by
  rw[CE.ok] at h;rw[CE.pe,PE.told];exact⟨fun q=>by split at q<;>omega,CE.told hN e _ h.2,trivial⟩
 | .bin a b,u,h=>by
  rw[CE.ok] at h;rw[CE.pe,PE.told];exact⟨fun q=>by omega,CE.told hN a _ h.2.1,CE.told hN b _ h.2.2,trivial⟩
 | .iff a b c,u,h=>by
  rw[CE.ok] at h;rw[CE.pe,PE.told];exact⟨fun q=>by omega,CE.told hN a _ h.2.1,CE.told hN b _ h.2.2.1,CE.told hN c _ h.2.2.2,trivial⟩
 | .pG a b,u,h=>by
  rw[CE.ok] at h;rw[CE.pe,PE.told];exact⟨fun q=>by omega,CE.told hN a _ h.2.2.1,CE.told hN b _ h.2.2.2,trivial⟩
 | .pI a b,u,h=>by
  rw[CE.ok] at h;rw[CE.pe,PE.told];exact⟨fun q=>by omega,CE.told hN a _ h.2.1,CE.told hN b _ h.2.2,trivial⟩
 | .call q l,u,h=>by
  rw[CE.ok] at h;rw[CE.pe]
  cases q with
  | true =>
   rw[if_pos rfl,PE.told];exact⟨fun q=>by omega,Br hN l _ h.2.2.2.2.2⟩
  | false =>
   rw[if_neg (by decide),PE.told];exact⟨fun q=>by omega,Br hN l _ h.2.2.2.2⟩
theorem Br {toks:List Tok}(hN:Mk toks){cl:Bool}:∀ (l:List CE) (u:Nat),mV toks cl u l→Bp (iy toks u l)
 | [],u,_=>by rw[iy,Bp];trivial
 | e :: l,u,h=>by
  rw[mV] at h;rw[iy,Bp];exact⟨CE.told hN e _ h.1,Br hN l _ h.2⟩
end
def fG (nodes:List Nd)(ks:List Int):List Int:=ks.filter fun k=>(nodes[k.toNat]?.map (·.kind)).getD 19 != 19
theorem Ml {nodes:List Nd}{k:Int}{ks:List Int}{u:Nat}(h:lM nodes k u .leaf):fG nodes (k :: ks)=fG nodes ks:=by
 rw[lM] at h;rw[fG,List.filter_cons_of_neg (by rw[h.2];simp)]
 rfl
theorem CE.node (e:CE):∃ k l,e.pt=.node k l∧7≤k∧k≤17:=by
 cases e with
 | call q l=>exact⟨13,_,by rw[CE.pt],by omega,by omega⟩
 | num=>exact⟨15,_,by rw[CE.pt],by omega,by omega⟩
 | truth=>exact⟨16,_,by rw[CE.pt],by omega,by omega⟩
 | res=>exact⟨17,_,by rw[CE.pt],by omega,by omega⟩
 | Jh=>exact⟨14,_,by rw[CE.pt],by omega,by omega⟩
 | group e=>exact⟨12,_,by rw[CE.pt],by omega,by omega⟩
 | un e=>exact⟨11,_,by rw[CE.pt],by omega,by omega⟩
 | bin a b=>exact⟨10,_,by rw[CE.pt],by omega,by omega⟩
 | iff a b c=>exact⟨8,_,by rw[CE.pt],by omega,by omega⟩
 | pG a b=>exact⟨7,_,by rw[CE.pt],by omega,by omega⟩
 | pI a b=>exact⟨9,_,by rw[CE.pt],by omega,by omega⟩
theorem Mq {nodes:List Nd}{k:Int}{ks:List Int}{u:Nat}{e:CE}(h:lM nodes k u e.pt):fG nodes (k :: ks)=k :: fG nodes ks:=by
 obtain⟨c,l,he,h1,h2⟩:=e.node;rw[he,lM] at h;obtain⟨ks',_,h3,_⟩:=h;rw[fG,List.filter_cons_of_pos (by rw[h3];simp;omega)]
 rfl
def kQ (op:Nat)(nm:List UInt8)(i:Nat)(l:List (List UInt8)):List (List UInt8):=if op=22∧i=1 then l.filter fun x=>decide (x≠nm) else l
def sI (op:Nat)(nm:List UInt8):List (List UInt8)→Nat→List (List (List UInt8))→List (List UInt8)
 | acc,_,[]=>acc
 | acc,i,l :: ls=>sI op nm (bF (acc++kQ op nm i l)) (i+1) ls
def iK (op:Nat)(nm:List UInt8):List (List UInt8):=if op=3 then bF [nm] else []
mutual
def PE.bI:PE→List (List UInt8)
 | .mk op nm _ _ _ _ kids _=>sI op nm (iK op nm) 0 (iL kids)
def iL:List PE→List (List (List UInt8))
 | []=>[]
 | e :: l=>e.bI :: iL l
end
theorem lN:∀ l:List PE,iL l=l.map PE.bI
 | []=>rfl
 | e :: l=>by rw[iL,lN l];rfl
theorem PE.Qs (e:PE):e.bI=sI e.op e.name (iK e.op e.name) 0 (e.kids.map PE.bI):=by cases e;rw[PE.bI,lN];rfl
def Mr:List (List (List UInt8))→Nat
 | []=>0
 | l :: ls=>l.length+Mr ls
theorem Bt {op:Nat}{nm:List UInt8}:∀ (ls:List (List (List UInt8))) (acc:List (List UInt8)) (i:Nat),(sI op nm acc i ls).length≤acc.length+Mr ls
 | [],acc,i=>by rw[sI,Mr];omega
 | l :: ls,acc,i=>by
  have h1:=Bt (op:=op) (nm:=nm) ls (bF (acc++kQ op nm i l)) (i+1);have h2:=kK (acc++kQ op nm i l)
  have h3:(kQ op nm i l).length≤l.length:=by
   unfold kQ
   split
   ·exact List.length_filter_le _ _
   ·exact Nat.le_refl _
  rw[bN] at h2;rw[sI,Mr];omega
mutual
def PE.iW:PE→Prop
 | .mk op _ _ _ _ _ kids _=>(op=22→kids.length≤2)∧fK kids
def fK:List PE→Prop
 | []=>True
 | e :: l=>e.iW∧fK l
end
mutual
theorem CE.iW (toks:List Tok):∀ (e:CE) (u:Nat),(e.pe toks u).iW
 | .num,u=>by rw[CE.pe,PE.iW,fK];exact⟨fun q=>by omega,trivial⟩
 | .truth,u=>by rw[CE.pe,PE.iW,fK];exact⟨fun q=>by omega,trivial⟩
 | .res,u=>by rw[CE.pe,PE.iW,fK];exact⟨fun q=>by omega,trivial⟩
 | .Jh,u=>by rw[CE.pe,PE.iW,fK];exact⟨fun q=>by omega,trivial⟩
 | .group e,u=>by rw[CE.pe];exact CE.iW toks e _
 | .un e,u=>by rw[CE.pe,PE.iW,fK,fK];exact⟨fun q=>by simp,CE.iW toks e _,trivial⟩
 | .bin a b,u=>by rw[CE.pe,PE.iW,fK,fK,fK];exact⟨fun q=>by simp,CE.iW toks a _,CE.iW toks b _,trivial⟩
 | .iff a b c,u=>by rw[CE.pe,PE.iW,fK,fK,fK,fK];exact⟨fun q=>by omega,CE.iW toks a _,CE.iW toks b _,CE.iW toks c _,trivial⟩
 | .pG a b,u=>by rw[CE.pe,PE.iW,fK,fK,fK];exact⟨fun q=>by simp,CE.iW toks a _,CE.iW toks b _,trivial⟩
 | .pI a b,u=>by rw[CE.pe,PE.iW,fK,fK,fK];exact⟨fun q=>by omega,CE.iW toks a _,CE.iW toks b _,trivial⟩
 | .call q l,u=>by
  rw[CE.pe]
  split
  ·rw[PE.iW];exact⟨fun q=>by omega,GU toks l _⟩
  ·rw[PE.iW];exact⟨fun q=>by omega,GU toks l _⟩
theorem GU (toks:List Tok):∀ (l:List CE) (u:Nat),fK (iy toks u l)
 | [],u=>by rw[iy,fK];trivial
 | e :: l,u=>by rw[iy,fK];exact⟨CE.iW toks e _,GU toks l _⟩
end
end Go.Proofs.YtknicmmigbhpcaaGreatDoor
