/- Walks and plain laws, without a condition. -/
import Derived.Test.YtmleecdnkmoohaaGreatDoorK01
import Derived.KernelRfl
set_option maxHeartbeats 16000000
set_option maxRecDepth 100000
set_option linter.unusedVariables false
set_option linter.unusedSimpArgs false
namespace Go.Proofs.YtmleecdnkmoohaaGreatDoor
open Go.RowKit
theorem head_cons {s:ByteArray}(h:0<s.size):∃ r,s.data.toList=(s[0]'h) :: r:=by
 have hb:=Eb h
 cases hq:s.data.toList with
 | nil=>rw[hq] at hb;cases hb
 | cons c r =>
  rw[hq] at hb
  injection hb with hb
  rw[<- hb];exact⟨r,rfl⟩
def Bf (k:Nat):ByteArray:=⟨(vU.getD k []).toArray⟩
theorem I5 (T:aH):∀ (l:List aH) (k:Nat),k<l.length->(∀ j,j<k->Lib.hasPrefix T (l.getD j [])=false)->Lib.hasPrefix T (l.getD k [])=true->l.find? (λx=>x.isPrefixOf T)=some (l.getD k [])
 | [],k,hk,_,_=>absurd hk (by simp)
 | x :: l,0,_,_,h=>by
  have h:x.isPrefixOf T=true:=h;simp[h]
 | x :: l,k+1,hk,hj,h=>by
  have h0:x.isPrefixOf T=false:=hj 0 (by omega);have:=I5 T l k (by simpa using hk) (λj hjk=>by simpa using hj (j+1) (by omega)) (by simpa using h);simp only[List.find?_cons,h0]
  simpa using this
theorem UC (T:aH)(l:List aH)(hj:∀ j,j<l.length->Lib.hasPrefix T (l.getD j [])=false):l.find? (λx=>x.isPrefixOf T)=none:=by
 rw[List.find?_eq_none];intro x hx;obtain⟨j,hjl,e⟩:=List.mem_iff_getElem.1 hx;have:=hj j hjl;rw[Kr,AY hjl,Option.getD_some,e] at this;intro h;rw[Lib.hasPrefix] at this;rw[this] at h;cases h
theorem Qf:∀ k:Nat,k<22->∀ w:World,(Instr.index 299 (.agg MC) (.int .i64 k)).run Tryz.prog w=.ok (.string (Bf k)) w
 | 0,_=>λ_=>by kernel_rfl
 | 1,_=>λ_=>by kernel_rfl
 | 2,_=>λ_=>by kernel_rfl
 | 3,_=>λ_=>by kernel_rfl
 | 4,_=>λ_=>by kernel_rfl
 | 5,_=>λ_=>by kernel_rfl
 | 6,_=>λ_=>by kernel_rfl
 | 7,_=>λ_=>by kernel_rfl
 | 8,_=>λ_=>by kernel_rfl
 | 9,_=>λ_=>by kernel_rfl
 | 10,_=>λ_=>by kernel_rfl
 | 11,_=>λ_=>by kernel_rfl
 | 12,_=>λ_=>by kernel_rfl
 | 13,_=>λ_=>by kernel_rfl
 | 14,_=>λ_=>by kernel_rfl
 | 15,_=>λ_=>by kernel_rfl
 | 16,_=>λ_=>by kernel_rfl
 | 17,_=>λ_=>by kernel_rfl
 | 18,_=>λ_=>by kernel_rfl
 | 19,_=>λ_=>by kernel_rfl
 | 20,_=>λ_=>by kernel_rfl
 | 21,_=>λ_=>by kernel_rfl
 | n+22,h=>absurd h (by omega)
theorem ME (k:Nat):(Bf k).data.toList=vU.getD k []:=rfl
theorem XE:vU.length=22:=rfl
theorem UD (s:ByteArray)(w:World)(hs:s.size<=1099511627776) :
  Calls Tryz.prog 152 #[.string s] w λe w'=>e=.returned (Uw s (iP s.data.toList))/\Below w.heap.size w w':=by
 by_cases h0:0<s.size
 ·obtain⟨r,hr⟩:=head_cons h0
  have hI:(0:Int) < ↑s.size:=by omega
  have he:s.toList.isEmpty=false:=by rw[uE];exact dX (by omega)
  generalize hc:(s[0]'h0)=c at hr
  by_cases hl:kF c=true
  ·have hl':kF (s[0]'h0)=true:=by rw[hc];exact hl
   have hq:iP s.data.toList=qD s.data.toList:=by rw[hr,iP,bR hl]
   have HQ:=ay hq;have HW:=ay (XC s);clear hq hr hc hl;go_enter Tryz.func152,Tryz.ntmps152;go_wp2_with (first|(go_at_call 204;refine(uG _ _).mono ?_;rintro e w1 ⟨rfl,rfl⟩)|(go_at_call 205;refine(HW.out _ hs).mono ?_;rintro e w1 ⟨he,hb⟩;rw[Uw] at he;subst he));go_ret3
   refine⟨lZ (t:=iP s.data.toList) ?_ ?_ ?_,hb⟩<;>rw[HQ.out]
  ·have hl':kF (s[0]'h0)=false:=by rw[hc];simpa using hl
   by_cases hd:bI c=true
   ·have hd':bI (s[0]'h0)=true:=by rw[hc];exact hd
    have hq:iP s.data.toList=sO s.data.toList:=by rw[hr,iP,aU hl,bR hd]
    have HQ:=ay hq;have HW:=ay (Qd s);clear hq hr hc hl hd;go_enter Tryz.func152,Tryz.ntmps152;go_wp2_with (first|(go_at_call 204;refine(uG _ _).mono ?_;rintro e w1 ⟨rfl,rfl⟩)|(go_at_call 206;refine(tq _ _).mono ?_;rintro e w1 ⟨rfl,rfl⟩)|(go_at_call 207;refine(HW.out _ hs).mono ?_;rintro e w1 ⟨he,rfl⟩;rw[Uw] at he;subst he));go_ret3
    refine⟨lZ (t:=iP s.data.toList) ?_ ?_ ?_,bQ _ _⟩<;>rw[HQ.out]
   ·have hd':bI (s[0]'h0)=false:=by rw[hc];simpa using hd
    have hq:iP s.data.toList=Ib s.data.toList:=by rw[hr,iP,aU hl,aU hd]
    have HQ:=ay hq;clear hq hr hc hl hd;go_enter Tryz.func152,Tryz.ntmps152;go_wp2_with (first|(go_at_call 204;refine(uG _ _).mono ?_;rintro e w1 ⟨rfl,rfl⟩)|(go_at_call 206;refine(tq _ _).mono ?_;rintro e w1 ⟨rfl,rfl⟩)|(go_at_call 208;refine(UA _).mono ?_;rintro e w1 ⟨rfl,hb⟩))
    go_loop [6,29] (λx n=>∃ k:Nat,n=.int .i64 k/\k<=22/\∀ j,j<k->Lib.hasPrefix s.data.toList (vU.getD j [])=false) (λ_ n=>22 - (intOf n).toNat)
    case atStart=>exact⟨0,rfl,by omega,λj hj=>absurd hj (by omega)⟩
    case round =>
     obtain⟨k,rfl,hk,hj⟩:=hrel;have HJ:=ay hj;have HP:=ay (Tryz.strings_HasPrefix s);clear hj
     by_cases hlt:k<22
     ·have hi:(k:Int)<22:=by omega
      have hx:=Qf k hlt
      cases hb2:Lib.hasPrefix s.data.toList (Bf k).data.toList with
      | true =>
       have hf:=I5 s.data.toList vU k (by rw[XE];exact hlt) HJ.out hb2
       have hq:iP s.data.toList=(4,(vU.getD k []).length,0):=by rw[HQ.out,Ib,I4,hf]
       have HB:=ay hb2;have Qc:=ay hq
       have hX:Bf k=s.extract 0 (vU.getD k []).length:=by
        refine sZ ?_;rw[iY,List.drop_zero,ME];exact(List.prefix_iff_eq_take.1 (List.isPrefixOf_iff_prefix.1 hb2))
       have HX:=ay hX;clear hb2 hf hq hX;go_wp2_with (go_at_call 202;refine(HP.out (Bf k) _).mono ?_;rw[HB.out];rintro e w2 ⟨rfl,rfl⟩);go_ret3
       refine⟨lZ (t:=iP s.data.toList) ?_ ?_ ?_,hb⟩<;>rw[Qc.out]
       ·rfl
       ·exact HX.out
       ·rfl
      | false =>
       have HB:=ay hb2;clear hb2;go_wp2_with (go_at_call 202;refine(HP.out (Bf k) _).mono ?_;rw[HB.out];rintro e w2 ⟨rfl,rfl⟩)
       go_round
       case rel =>
        refine⟨k+1,by go_num,by omega,λj hj=>?_⟩
        rcases Nat.lt_or_ge j k with h|h
        ·exact HJ.out j h
        ·have:j=k:=by omega
         subst this;exact HB.out
       case measure=>simp[intOf];omega
     ·have hk2:k=22:=by omega
      subst hk2
      have hq:iP s.data.toList=(0,0,20):=by rw[HQ.out,Ib,I4,UC _ _ (λj hj=>HJ.out j hj)]
      have Qc:=ay hq;clear hq hlt hk;go_wp2;go_ret3
      refine⟨lZ (t:=iP s.data.toList) ?_ ?_ ?_,hb⟩<;>rw[Qc.out]
      ·rfl
      ·exact vV s
      ·rfl
 ·have hz:s.size=0:=by omega
  have he:s.toList.isEmpty=true:=by rw[uE];exact jV hz
  have hn:s.data.toList=[]:=List.eq_nil_of_length_eq_zero (by rw[<- Lib.size_eq];exact hz)
  have hq:iP s.data.toList=(5,0,0):=by rw[hn,iP]
  have HQ:=ay hq;clear hq hn hz h0;go_enter Tryz.func152,Tryz.ntmps152;go_wp2;go_ret3
  refine⟨lZ (t:=iP s.data.toList) ?_ ?_ ?_,bQ _ _⟩<;>rw[HQ.out]
  ·rfl
  ·exact vV s
  ·rfl
end Go.Proofs.YtmleecdnkmoohaaGreatDoor

namespace Go.Proofs
theorem Tryz.UE:(Tryz.prog.info? 159).map (λi=>(i.zero,i.size,i.bytes))=some (some (.agg #[.int .i64 0,.string ByteArray.empty,.string ByteArray.empty,.int .i64 0]),4,48):=by kernel_rfl
end Go.Proofs

namespace Go.Proofs.YtmleecdnkmoohaaGreatDoor
open Go.RowKit
variable{w:World}
def Qg (acc:List Tok):Except (Nat × Nat) (List Tok)->Except (Nat × Nat) (List Tok)
 | .error e=>.error e
 | .ok l=>.ok (acc++l)
theorem XF (x:Except (Nat × Nat) (List Tok)):Qg [] x=x:=by cases x<;>rfl
theorem UF (a b:List Tok)(x:Except (Nat × Nat) (List Tok)):Qg a (Qg b x)=Qg (a++b) x:=by
 cases x
 ·rfl
 ·simp[Qg]
theorem XG (n:Nat)(T:aH)(p k:Nat)(t:Nat × Nat × Nat)(hk:eB false T=k)(ht:iP (T.drop k)=t)(he:t.2.2≠0):rT (n+1) T p=.error (t.2.2,p+k):=by
 subst hk ht;rw[rT];rw[bR he]
theorem XH (n:Nat)(T:aH)(p k:Nat)(t:Nat × Nat × Nat)(hk:eB false T=k)(ht:iP (T.drop k)=t)(he:t.2.2=0)(h5:t.1=5):rT (n+1) T p=.ok [⟨5,T.take k,[],p+k⟩]:=by
 subst hk ht;rw[rT];rw[aU (by omega),bR h5]
theorem UG (n:Nat)(T:aH)(p k:Nat)(t:Nat × Nat × Nat)(hk:eB false T=k)(ht:iP (T.drop k)=t)(he:t.2.2=0)(h5:t.1≠5) :
  rT (n+1) T p=Qg [⟨t.1,T.take k,(T.drop k).take t.2.1,p+k⟩] (rT n (T.drop (k+t.2.1)) (p+k+t.2.1)):=by
 subst hk ht;rw[rT];rw[aU (by omega),aU h5,List.drop_drop]
 cases rT n _ _<;>rfl
theorem Qh {g:Nat}{x y z u:Value}(h0:w.cell? ⟨g,0,none⟩=some x)(h1:w.cell? ⟨g,1,none⟩=some y)(h2:w.cell? ⟨g,2,none⟩=some z)(h3:w.cell? ⟨g,3,none⟩=some u) :
  ∀ j v,[x,y,z,u][j]?=some v->w.cell? ((⟨g,0,none⟩:Addr).add j)=some v:=by
 intro j v hj
 match j,hj with
 | 0,hj=>simp at hj;subst hj;simpa [Addr.add] using h0
 | 1,hj=>simp at hj;subst hj;simpa [Addr.add] using h1
 | 2,hj=>simp at hj;subst hj;simpa [Addr.add] using h2
 | 3,hj=>simp at hj;subst hj;simpa [Addr.add] using h3
theorem own_below {w':World}{base e sz n:Nat}{v:Value}{xs:List Value}(h:w.ownsRow base e sz v n xs)(hb:Below w.heap.size w w'):w'.ownsRow base e sz v n xs:=by
 refine⟨h.1,?_⟩
 rcases h.2 with hn|⟨g,cap,cur,hv,hg,hh,hr⟩
 ·exact .inl hn
 ·exact .inr ⟨g,cap,cur,hv,hg,by rw[hb.block g (bP hh).1];exact hh,hr⟩
theorem UH (T:aH)(h:(iP T).1=5):(iP T).2.1=0:=by
 cases T with
 | nil=>rfl
 | cons c r =>
  exfalso
  rw[iP] at h
  split at h
  ·rw[qD] at h
   split at h
   ·cases h
   ·split at h<;>cases h
  ·split at h
   ·rw[sO] at h
    split at h<;>cases h
   ·rw[Ib] at h
    split at h<;>cases h
theorem UJ {kd pk:Nat}{l t:aH}{y z:ByteArray}{a:Int}(hy:y.data.toList=l)(hz:z.data.toList=t)(ha:a=pk) :
  [Value.int .i64 kd,.string y,.string z,.int .i64 a]=dP ⟨kd,l,t,pk⟩:=by
 subst hy hz ha
 rfl
def Te (S:aH)(w:World)(e:Ending)(w':World):Prop :=
 Below w.heap.size w w'/\match dQ S with
 | .ok l=>∃ v,e=.returned (.tuple #[v,.agg #[.int .i64 0,.int .i64 0]])/\Rec w'.heap.size w' v 4 dP l
 | .error x=>e=.returned (.tuple #[.slice none 0 0,.agg #[.int .i64 x.1,.int .i64 x.2]])
theorem Kz (s:ByteArray)(w:World)(hs:s.size<=1099511627776):Calls Tryz.prog 102 #[.string s] w (Te s.data.toList w):=by
 obtain⟨i0,hi,hz0,hz1,hz2⟩:=info_parts Tryz.UE
 by_cases hbig:65536<s.size
 ·have hI:(65536:Int) < ↑s.size:=by omega
  have hq:dQ s.data.toList=.error (11,0):=by rw[dQ,bR (by rw[<- Lib.size_eq];exact hbig)]
  have HQ:=ay hq;clear hq;go_enter Tryz.func102,Tryz.ntmps102;go_wp2;refine nI (v:=.tuple #[.slice none 0 0,.agg #[.int .i64 11,.int .i64 0]]) (by simp[results,Tryz.results102,go_sem]) rfl ?_;refine⟨(bQ _ _).alloc (bD _) _,?_⟩;rw[HQ.out]
  rfl
 ·have hI:¬ (65536:Int) < ↑s.size:=by omega
  have hq:dQ s.data.toList=rT (s.size+1) s.data.toList 0:=by rw[dQ,aU (by rw[<- Lib.size_eq];exact hbig),<- Lib.size_eq]
  have HQ:=ay hq;clear hq;go_enter Tryz.func102,Tryz.ntmps102;go_wp2;generalize hw1:w.alloc (.cells #[.int .i64 0,.int .i64 0] 31)=w1
  have hb1:Below w.heap.size w w1:=by rw[<- hw1];exact(bQ _ _).alloc (bD _) _
  have hf1:w1.heap[w.heap.size]?=some (.cells #[.int .i64 0,.int .i64 0] 31 (0,0)):=by rw[<- hw1];exact aX _ _
  have hlt1:w.heap.size<w1.heap.size:=by rw[<- hw1];simp
  clear hw1
  go_loopw [4,5] (λout at0 wr=>∃ (p m:Nat) (acc:List Tok),at0=.int .i64 p/\p<=s.size/\s.size<p+m/\rT (s.size+1) s.data.toList 0=Qg acc (rT m (s.data.toList.drop p) p)/\acc.length<=p /\
   wr.ownsRow w1.heap.size 159 4 out acc.length (acc.flatMap dP)/\Below w1.heap.size w1 wr) (λ_ at0 _=>s.size - (intOf at0).toNat)
  case atStart=>exact⟨0,s.size+1,[],rfl,kJ _,by omega,(XF _).symm,bD _,World.ownsRow_nil _ _ _ _,bQ _ _⟩
  case round =>
   obtain⟨p,m,acc,rfl,hp,hm,hl,hal,hown,hb⟩:=hrel;have hz:=hb.size
   obtain⟨m,rfl⟩:∃ m',m=m'+1:=⟨m - 1,by omega⟩
   have hxl:(s.extract p s.size).data.toList=s.data.toList.drop p:=pU s p
   have hxz:(s.extract p s.size).size<=1099511627776:=by rw[ByteArray.size_extract];omega
   have hbt:=Mx (s.extract p s.size) wr hxz;generalize hk:eB false (s.extract p s.size).data.toList=k at hbt
   have hkl:k<=s.size - p:=by rw[<- hk,hxl];have:=pV false (s.data.toList.drop p);rwa [yL,<- Lib.size_eq] at this
   have hys:((s.extract p s.size).extract 0 k).size=k:=by rw[ByteArray.size_extract,ByteArray.size_extract];omega
   have hyl:((s.extract p s.size).extract 0 k).data.toList=(s.data.toList.drop p).take k:=by rw[iY,List.drop_zero,hxl]
   generalize hy:(s.extract p s.size).extract 0 k=y at hbt hys hyl;have hul:(s.extract (p+k) s.size).data.toList=s.data.toList.drop (p+k):=pU s _
   have huz:(s.extract (p+k) s.size).size<=1099511627776:=by rw[ByteArray.size_extract];omega
   have htk:=λw=>UD (s.extract (p+k) s.size) w huz
   have hpk:(p:Int)+(k:Int)<=↑s.size:=by omega
   generalize ht:iP (s.extract (p+k) s.size).data.toList=t at htk
   have htl:t.2.1<=s.size - (p+k):=by rw[<- ht,hul];have:=Es (s.data.toList.drop (p+k));rwa [yL,<- Lib.size_eq] at this
   obtain⟨kd,n,er⟩:=t;simp only at htl
   have hzs:((s.extract (p+k) s.size).extract 0 n).size=n:=by rw[ByteArray.size_extract,ByteArray.size_extract];omega
   have hzl:((s.extract (p+k) s.size).extract 0 n).data.toList=(s.data.toList.drop (p+k)).take n:=by rw[iY,List.drop_zero,hul]
   rw[hxl] at hk;rw[hul,<- List.drop_drop] at ht;have HB:=ay hbt;have HT:=ay htk;have HYL:=ay hyl;have HZL:=ay hzl;have HTL:=ay ht;have HK:=ay hk;have HL:=ay hl;have HZS:=ay hzs;clear hbt htk hy hyl hul hxl hk hl huz hxz ht hzl hzs;go_wp2_with (first|(go_at_call 151;refine HB.out.mono ?_;rintro e w2 ⟨rfl,hb2⟩)|(go_at_call 152;refine(HT.out _).mono ?_));rintro e w3 ⟨he,hb3⟩;obtain rfl:e=.returned (.tuple #[.int .i64 kd,.string ((s.extract (p+k) s.size).extract 0 n),.int .i64 er]):=he;have aiW:=hb3.size;have aiX:=hb2.size;have KA:Below w1.heap.size w1 w3:=(hb.trans (hb2.mono hz)).trans (hb3.mono (by omega));have kK:=own_below (own_below hown hb2) hb3
   have hf3:w3.heap[w.heap.size]?=some (.cells #[.int .i64 0,.int .i64 0] 31 (0,0)):=by rw[KA.block _ hlt1];exact hf1
   have hbw:Below w.heap.size w w3:=hb1.trans (KA.mono (by omega));clear hb2 hb3 hown hb
   by_cases her:er=0
   ·subst her
    generalize hzz:(s.extract (p+k) s.size).extract 0 n=z;have HZZ:=ay hzz
    have hzn:z.size=n:=by rw[<- hzz];exact HZS.out
    have afy:z.data.toList=(s.data.toList.drop (p+k)).take n:=by rw[<- hzz];exact HZL.out
    have ahp:=ay afy;clear hzz afy;go_wp2_with (at_builtin;refine wpList_append_own _ rfl _ _ 90 rfl w1.heap.size 159 i0 (.agg #[.int .i64 0,.string ByteArray.empty,.string ByteArray.empty,.int .i64 0]) 4 48 Tryz.underlying90 hi hz0 hz1 hz2 rfl (by decide) _ _ _ rfl (kK.alloc _) ⟨w3.heap.size,0,none⟩ 1 1 [.int .i64 kd,.string y,.string z,.int .i64 (p+k)] rfl rfl ?c1 ?c2 ?c3 ?c4 ?c5 ?_)
    case c1=>exact Qh (by go_simp) (by go_simp) (by go_simp) (by go_simp)
    case c2=>intro u hu;simp at hu;rcases hu with rfl|rfl|rfl|rfl<;>rfl
    case c3=>unfold maxLen;omega
    case c4=>omega
    case c5=>simp;omega
    intro v' w4 hown' hgrow _;have hb4:Below w1.heap.size w1 w4:=(KA.alloc (by omega) _).grown hgrow (by simp;omega) (λq hq=>(kK.lt q hq).1);have KC:=iW (kK.alloc _) hgrow ((gZ w3 _ _ (by omega)).trans hf3) (by decide);have hcl:=UJ (kd:=kd) (pk:=p+k) HYL.out ahp.out (by rfl:((p:Int)+(k:Int))=((p+k:Nat):Int));rw[hcl] at hown'
    have zO:w4.ownsRow w1.heap.size 159 4 v' (acc++[Tok.mk kd ((s.data.toList.drop p).take k) ((s.data.toList.drop (p+k)).take n) (p+k)]).length ((acc++[Tok.mk kd ((s.data.toList.drop p).take k) ((s.data.toList.drop (p+k)).take n) (p+k)]).flatMap dP):=by
     rw[abo,bY];exact hown'
    have aiY:=hb4.size;have qo:Below w.heap.size w w4:=hb1.trans (hb4.mono (by omega));clear hgrow hown' hcl kK KA hbw
    by_cases h5:kd=5
    ·have iN:((kd:Int) == 5)=true:=by rw[h5];rfl
     have hq:=HL.out;rw[XH _ _ _ _ _ HK.out HTL.out rfl h5] at hq
     have hn0:n=0:=by have:=UH ((s.data.toList.drop p).drop k) (by rw[HTL.out];exact h5);rw[HTL.out] at this;exact this
     rw[hn0,List.take_zero,h5] at zO;have Qc:=ay hq;clear hq h5 hn0
     have f0:w4.cell? ⟨w.heap.size,0,none⟩=some (.int .i64 0):=by rw[aZ KC];rfl
     have f1:w4.cell? ⟨w.heap.size,1,none⟩=some (.int .i64 0):=by rw[aZ KC];rfl
     have z0:∀ j,w4.frozen? ⟨w.heap.size,j,none⟩=false:=by intro j;simp[World.frozen?,KC]
     go_wp2;refine nI (v:=.tuple #[v',.agg #[.int .i64 0,.int .i64 0]]) (by simp[results,Tryz.results102,go_sem,f0,f1]) rfl ?_;refine⟨(qo.setCell (bD _) _).setCell (bD _) _,?_⟩;rw[HQ.out,Qc.out];exact⟨_,rfl,Sl.fQ (ownsRow_setCell_below (ownsRow_setCell_below zO hlt1 _) hlt1 _)⟩
    ·have iN:((kd:Int) == 5)=false:=by rw[<- vM,beq_iff_eq];omega
     have hq:=HL.out;rw[UG _ _ _ _ _ HK.out HTL.out rfl h5,UF,List.drop_drop,List.drop_drop,<- vN p k] at hq
     have hn0:0<n:=by have:=Et ((s.data.toList.drop p).drop k) (by rw[HTL.out]) (by rw[HTL.out];exact h5);rw[HTL.out] at this;exact this
     have Qc:=ay hq;clear hq;go_wp2
     go_roundw
     case rel=>exact⟨p+k+n,m,_,by go_num,by omega,by omega,Qc.out,by rw[bY];simp;omega,zO,hb4⟩
     case measure=>simp[intOf];omega
   ·have hne:((er:Int) == 0)=false:=by rw[<- vM,beq_iff_eq];omega
    have f0:w3.cell? ⟨w.heap.size,0,none⟩=some (.int .i64 0):=by rw[aZ hf3];rfl
    have f1:w3.cell? ⟨w.heap.size,1,none⟩=some (.int .i64 0):=by rw[aZ hf3];rfl
    have z0:∀ j,w3.frozen? ⟨w.heap.size,j,none⟩=false:=by intro j;simp[World.frozen?,hf3]
    have hq:=HL.out;rw[XG _ _ _ _ _ HK.out HTL.out her] at hq;have Qc:=ay hq;clear hq;go_wp2;refine nI (v:=.tuple #[.slice none 0 0,.agg #[.int .i64 er,.int .i64 (p+k)]]) (by simp[results,Tryz.results102,go_sem,f0,f1]) rfl ?_;refine⟨(hbw.setCell (bD _) _).setCell (bD _) _,?_⟩;rw[HQ.out,Qc.out]
    rfl
variable{l:List Tok}{p:Nat}{T S:aH}
def oD (t:Tok):Nat:=t.lead.length+t.text.length
def iq:List Tok->Nat->Nat
 | [],_=>0
 | _ :: _,0=>0
 | t :: l,i+1=>oD t+iq l i
theorem yN (l:List Tok):iq l 0=0:=by cases l<;>rfl
theorem l9 (t:Tok)(l:List Tok)(i:Nat):iq (t :: l) (i+1)=oD t+iq l i:=rfl
theorem kL:∀ (l:List Tok) (i:Nat) (h:i<l.length),iq l (i+1)=iq l i+oD l[i]
 | [],i,h=>absurd h (by simp)
 | t :: l,0,_=>by simp[iq,yN]
 | t :: l,i+1,h=>by
  have:=kL l i (by simpa using h);simp only[l9,H9];rw[this];omega
theorem XI (T:aH)(h:(iP T).1=5):T=[]:=by
 cases T with
 | nil=>rfl
 | cons c r =>
  exfalso
  rw[iP] at h
  split at h
  ·rw[qD] at h
   split at h
   ·cases h
   ·split at h<;>cases h
  ·split at h
   ·rw[sO] at h
    split at h<;>cases h
   ·rw[Ib] at h
    split at h<;>cases h
structure Laid (T:aH) (p:Nat) (l:List Tok):Prop where
 some:0<l.length
 whole:iq l l.length=T.length
 place:∀ (i:Nat) (h:i<l.length),l[i].place=p+iq l i+l[i].lead.length
 last:∀ (i:Nat) (h:i<l.length),l[i].kind=5↔i=l.length - 1
 empty:∀ (i:Nat) (h:i<l.length),l[i].text=[]↔l[i].kind=5
 text:∀ (i:Nat) (h:i<l.length),(T.drop (iq l i+l[i].lead.length)).take l[i].text.length=l[i].text
 lead:∀ (i:Nat) (h:i<l.length),(T.drop (iq l i)).take l[i].lead.length=l[i].lead
theorem Laid.inside (h:Laid T p l):∀ i,i<=l.length->iq l i<=T.length:=by
 intro i hi
 have:∀ k,i+k=l.length->iq l i<=T.length:=by
  intro k
  induction k generalizing i with
  | zero=>intro e;rw[<- h.whole,<- e];exact bD _
  | succ k ih =>
   intro e;have:=ih (i+1) (by omega) (by omega);rw[kL l i (by omega)] at this;omega
 exact this (l.length - i) (by omega)
theorem Laid.count (h:Laid T p l):l.length<=T.length+1:=by
 have h1:∀ i,i<l.length->i<=iq l i:=by
  intro i
  induction i with
  | zero=>omega
  | succ i ih =>
   intro hi;have h2:=ih (by omega)
   have h5:l[i].kind≠5:=λq=>by have:=(h.last i (by omega)).1 q;omega
   have h6:l[i].text≠[]:=λq=>h5 ((h.empty i (by omega)).1 q)
   have h7:0<l[i].text.length:=List.length_pos_iff.2 h6;rw[kL l i (by omega),oD];omega
 have hs:=h.some;have:=h1 (l.length - 1) (by omega);have:=h.inside (l.length - 1) (by omega);omega
theorem I6:∀ (n:Nat) (T:aH) (p:Nat) (l:List Tok),rT n T p=.ok l->Laid T p l
 | 0,_,_,_,h=>by cases h
 | n+1,T,p,l,h=>by
  rw[rT] at h;have hk:=pV false T;generalize hkk:eB false T=k at h hk
  by_cases he:(iP (T.drop k)).2.2≠0
  ·rw[bR he] at h;cases h
  rw[aU he] at h
  by_cases h5:(iP (T.drop k)).1=5
  ·rw[bR h5] at h
   injection h with h
   subst h;have hnil:=XI _ h5
   have hl:T.length=k:=by
    have:=congrArg List.length hnil;rw[yL,jC] at this;omega
   have htk:(T.take k).length=k:=by rw[pK];omega
   have one:∀ i,i<1->i=0:=λi h=>by omega
   refine⟨by simp,by simp[iq,oD];omega,?_,?_,?_,?_,?_⟩<;>(intro i hi;obtain rfl:=one i hi;simp[iq])<;>omega
  ·rw[aU h5] at h
   have hpos:=Et (T.drop k) (by omega) h5;have hlen:=Es (T.drop k);rw[yL] at hlen;generalize iP (T.drop k)=t at h he h5 hpos hlen
   cases hr:rT n ((T.drop k).drop t.2.1) (p+k+t.2.1) with
   | error e=>simp only[hr] at h;cases h
   | ok r =>
    simp only[hr] at h
    injection h with h
    subst h;have ih:=I6 n _ _ _ hr
    have htk:(T.take k).length=k:=by rw[pK];omega
    have htx:((T.drop k).take t.2.1).length=t.2.1:=by rw[pK,yL];omega
    have hone:oD ⟨t.1,T.take k,(T.drop k).take t.2.1,p+k⟩=k+t.2.1:=by simp only[oD];rw[htk,htx]
    have hs:=ih.some;refine⟨by simp,?_,?_,?_,?_,?_,?_⟩
    ·rw[fu,l9,ih.whole,hone,yL,yL];omega
    ·intro i hi
     cases i with
     | zero=>simp only[List.getElem_cons_zero,iq];rw[htk];omega
     | succ i =>
      have:=ih.place i (by simpa using hi);simp only[H9,l9];rw[this,hone];omega
    ·intro i hi
     cases i with
     | zero=>simp only[List.getElem_cons_zero,fu];exact⟨λh=>absurd h h5,λh=>by omega⟩
     | succ i =>
      have:=ih.last i (by simpa using hi);simp only[H9,fu];rw[this];omega
    ·intro i hi
     cases i with
     | zero =>
      simp only[List.getElem_cons_zero];exact⟨λh=>by rw[h] at htx;simp at htx;omega,λh=>absurd h h5⟩
     | succ i =>
      simp only[H9];exact ih.empty i (by simpa using hi)
    ·intro i hi
     cases i with
     | zero=>simp only[List.getElem_cons_zero,iq];rw[htk,htx,Nat.zero_add]
     | succ i =>
      have:=ih.text i (by simpa using hi);simp only[H9,l9];rw[List.drop_drop,List.drop_drop] at this;rw[hone]
      have hi':i<r.length:=by simpa using hi
      rw[show k+t.2.1+iq r i+r[i].lead.length=k+(t.2.1+(iq r i+r[i].lead.length)) from by omega];exact this
    ·intro i hi
     cases i with
     | zero=>simp only[List.getElem_cons_zero,iq];rw[htk,List.drop_zero]
     | succ i =>
      have:=ih.lead i (by simpa using hi);simp only[H9,l9];rw[List.drop_drop,List.drop_drop] at this;rw[hone];rw[show k+t.2.1+iq r i=k+(t.2.1+iq r i) from by omega];exact this
theorem Ew:∀ (n:Nat) (T:aH) (p:Nat) (e:Nat × Nat),rT n T p=.error e->T.length<n->p<=e.2/\e.2<=p+T.length/\(e.1=20\/e.1=21)
 | 0,_,_,_,_,h=>absurd h (by omega)
 | n+1,T,p,e,h,hn=>by
  rw[rT] at h;have hk:=pV false T;generalize hkk:eB false T=k at h hk
  by_cases he:(iP (T.drop k)).2.2≠0
  ·rw[bR he] at h
   injection h with h
   subst h;refine⟨by simp,by simp only;omega,?_⟩;simp only
   cases hd:T.drop k with
   | nil=>rw[hd] at he;exact absurd rfl he
   | cons c r =>
    rw[hd] at he;rw[iP] at he |-
    by_cases hc:kF c=true
    ·rw[bR hc] at he |-
     simp only[qD] at he |-
     split
     ·exact .inl rfl
     ·rename_i h40;rw[aU h40] at he;exfalso;apply he;split<;>rfl
    ·rw[aU hc] at he |-
     by_cases hd:bI c=true
     ·rw[bR hd] at he |-
      simp only[sO] at he |-
      split
      ·exact .inr rfl
      ·rename_i P8;rw[aU P8] at he;exact absurd rfl he
     ·rw[aU hd] at he |-
      rw[Ib] at he |-
      cases hs:I4 (c :: r) with
      | none=>exact .inl rfl
      | some x=>rw[hs] at he;exact absurd rfl he
  rw[aU he] at h
  by_cases h5:(iP (T.drop k)).1=5
  ·rw[bR h5] at h;cases h
  ·rw[aU h5] at h
   have hpos:=Et (T.drop k) (by omega) h5;have hlen:=Es (T.drop k);rw[yL] at hlen;generalize iP (T.drop k)=t at h he h5 hpos hlen
   cases hr:rT n ((T.drop k).drop t.2.1) (p+k+t.2.1) with
   | ok r=>simp only[hr] at h;cases h
   | error x =>
    simp only[hr] at h
    injection h with h
    subst h;have:=Ew n _ _ _ hr (by rw[yL,yL];omega);rw[yL,yL] at this;omega
theorem iZ (h:dQ S=.ok l):Laid S 0 l:=by
 rw[dQ] at h
 split at h
 ·cases h
 ·exact I6 _ _ _ _ h
theorem uH {e:Nat × Nat}(h:dQ S=.error e):e.2<=S.length/\(e.1=20\/e.1=21\/e.1=11):=by
 rw[dQ] at h
 split at h
 ·injection h with h;subst h;exact⟨kJ _,.inr (.inr rfl)⟩
 ·have:=Ew _ _ _ _ h (by omega);omega
variable{acc:aH}{B b k:Nat}{fr:Nat × Nat}{cs:Array Value}
theorem sizeBuilder:(Tryz.prog.info? 223).map (·.size)=some 2:=by kernel_rfl
class UK (T:TypeId):Prop where
 lies:liesAt Tryz.prog Tryz.prog.depth T (2 / Tryz.prog.cellsOf T) 0 223 1=true
 ne:T≠5
instance:UK 223:=⟨by kernel_rfl,by decide⟩
instance:UK 225:=⟨by kernel_rfl,by decide⟩
theorem Tryz.infoByte:(Tryz.prog.info? 5).map (λi=>(i.zero,i.size,i.bytes))=some (some (.int .u8 0),1,1):=by kernel_rfl
theorem Ey (b:Nat)(w:World)(h0:w.cell? ⟨b,0,none⟩=some (.pointer (some ⟨b,0,none⟩))) :
  Calls Tryz.prog 229 #[.pointer (some ⟨b,0,none⟩)] w λe w'=>e=.returned (.tuple #[])/\w'=w:=by
 obtain⟨j,hj,_⟩:=Option.map_eq_some_iff.1 sizeBuilder;go_enter Tryz.func229,Tryz.ntmps229;go_wp2;rw[Lib.run_neq_ptr_same w _ Tryz.underlying221 hj];go_wp2
 go_end0
 exact⟨rfl,rfl⟩
theorem Dz {T:TypeId}[hT:UK T](b:Nat)(w:World)(h0:w.cell? ⟨b,0,none⟩=some (.pointer none))(hsh:w.shape? b=some (T,2))(hfz:w.frozen? ⟨b,0,none⟩=false) :
  Calls Tryz.prog 229 #[.pointer (some ⟨b,0,none⟩)] w λe w'=>e=.returned (.tuple #[])/\w'=w.setCell ⟨b,0,none⟩ (.pointer (some ⟨b,0,none⟩)):=by
 obtain⟨j,hj,hjs⟩:=Option.map_eq_some_iff.1 sizeBuilder;go_enter Tryz.func229,Tryz.ntmps229;go_wp2;rw[Lib.run_to_unsafe w ⟨b,0,none⟩ Tryz.underlying221 Tryz.underlying347 hj (by rw[hjs];decide) hsh (Nat.zero_lt_succ 1)];simp only[Result.andThen];rw[Oper.upon_value];go_wp2;rw[run_callFunc_extern Tryz.func276 (by kernel_rfl) (by kernel_rfl) (by kernel_rfl) (e:=Extern.AbiNoEscape.same) (by kernel_rfl)];rw[Lib.run_noEscape];simp only[Result.andThen];rw[Oper.upon_value];go_wp2;rw[Lib.run_from_unsafe w ⟨b,0,none⟩ Tryz.underlying347 Tryz.underlying221 hj hsh hT.lies];simp only[Result.andThen];rw[Oper.upon_value];go_wp2
 go_end0
 exact⟨rfl,rfl⟩
theorem MF {T:TypeId}[hT:UK T](B b:Nat)(bs:List Value)(w:World)(h:Lib.IsBuilderF T 5 B b bs w) :
  Calls Tryz.prog 229 #[.pointer (some ⟨b,0,none⟩)] w λe w'=>e=.returned (.tuple #[])/\(Lib.BuilderAtF T 5 B b (.pointer (some ⟨b,0,none⟩)) bs w'/\Below B w w'/\Lib.OthersKept 5 (some b) w w'):=by
 rcases h with h|h
 ·refine(Dz b w h.cell0 h.shape h.frozen0).mono ?_
  rintro e w' ⟨rfl,rfl⟩;exact⟨rfl,h.used _,(bQ B w).setCell (p:=⟨b,0,none⟩) h.1 _,(Lib.OthersKept.refl _ _ w).setCell ⟨b,0,none⟩ rfl _⟩
 ·refine(Ey b w h.cell0).mono ?_
  rintro e w' ⟨rfl,rfl⟩;exact⟨rfl,h,bQ B _,Lib.OthersKept.refl _ _ _⟩
theorem writeString {T:TypeId}[hT:UK T](B b:Nat)(bs:List Value)(s:ByteArray)(w:World)(h:Lib.IsBuilderF T 5 B b bs w)(hlen:bs.length+s.size<=140737488355328)(hBw:B<=w.heap.size) :
  Calls Tryz.prog 176 #[.pointer (some ⟨b,0,none⟩),.string s] w λe w'=>e=.returned (.tuple #[.int .i64 s.size,.nilIface])/\(Lib.IsBuilderF T 5 B b (bs++Lib.strCells s) w'/\Below B w w'/\Lib.OthersKept 5 (some b) w w'):=by
 obtain⟨i0,hi,hz0,hz1,hz2⟩:=info_parts Tryz.infoByte;go_enter Tryz.func176,Tryz.ntmps176;go_wp2_with (go_at_call 229;refine(MF B b bs _ h).mono ?_);rintro e w1 ⟨rfl,h1,hb1,hk1⟩;obtain⟨hB,v,hbk,hown,hne⟩:=h1
 have c0:w1.cell? ⟨b,0,none⟩=some (.pointer (some ⟨b,0,none⟩)):=by rw[aZ hbk];rfl
 have c1:w1.cell? ⟨b,1,none⟩=some v:=by rw[aZ hbk];rfl
 go_wp2_with (at_builtin;refine Lib.wpList_append_own_stringF _ rfl _ _ 195 9 rfl B 5 i0 Tryz.underlying195 Tryz.underlying9 hi hz0 hz1 hz2 _ _ _ rfl hown s rfl ?c3 ?c4 ?c5 ?_)
 case c3=>unfold maxLen;omega
 case c4=>omega
 case c5=>have:=hb1.size;omega
 intro v' w2 hown' hgrow _
 have hlt:b<w1.heap.size:=by
  rcases Nat.lt_or_ge b w1.heap.size with h'|h'
  ·exact h'
  ·simp[Array.getElem?_eq_none h'] at hbk
 have hb2:w2.heap[b]?=some (.cells #[.pointer (some ⟨b,0,none⟩),v] T (0,0)):=by
  rw[hgrow.block b hlt (λe=>hne e.symm)];exact hbk
 have d0:w2.cell? ⟨b,0,none⟩=some (.pointer (some ⟨b,0,none⟩)):=by rw[aZ hb2];rfl
 have d1:w2.cell? ⟨b,1,none⟩=some v:=by rw[aZ hb2];rfl
 have f1:w2.frozen? ⟨b,1,none⟩=false:=Lib.frozen_of_heap hb2 1
 obtain⟨ao,n',cap,rfl⟩:∃ ao n' cap,v'=.slice ao n' cap:=by
  rcases hown'.2 with ⟨hv,_⟩|⟨g,cap,cur,fz,hv,_⟩
  ·exact⟨_,_,_,hv⟩
  ·exact⟨_,_,_,hv⟩
 go_wp2;go_ret2;refine⟨rfl,?_,?_,(hk1.grown hgrow (Lib.ownsRowF_kind hown)).setCell ⟨b,1,none⟩ rfl _⟩
 ·exact Or.inr (Lib.BuilderAtF.put (T:=T) (e:=5) hB hb2 (bs':=bs++Lib.strCells s) (by simpa [Lib.strCells_length] using hown') hT.ne)
 ·exact(hb1.grown hgrow (by have:=hb1.size;omega) (λk hk=>(hown.lt k hk).1)).setCell (p:=⟨b,1,none⟩) hB _
def lV (B b:Nat)(acc:aH)(w:World)(T:TypeId:=223):Prop:=Lib.IsBuilderF T 5 B b (Lib.byteCells acc) w
theorem lV.at {T:TypeId}(h:lV B b acc w T):∃ p,Lib.BuilderAtF T 5 B b p (Lib.byteCells acc) w:=by
 rcases h with h|h
 ·exact⟨_,h⟩
 ·exact⟨_,h⟩
theorem lV.le {T:TypeId}(h:lV B b acc w T):B<=b:=by obtain⟨p,h⟩:=h.at;exact h.1
theorem lV.lt {T:TypeId}{B b:Nat}{acc:aH}{w:World}(h:lV B b acc w T):b<w.heap.size:=by obtain⟨p,h⟩:=h.at;exact h.lt
theorem lV.alloc {T:TypeId}{B b:Nat}{acc:aH}{w:World}(h:lV B b acc w T)(o:Obj):lV B b acc (w.alloc o) T:=by
 rcases h with h|h
 ·exact Or.inl (h.alloc o)
 ·exact Or.inr (h.alloc o)
theorem lV.drew {T:TypeId}{B b:Nat}{acc:aH}{w:World}(h:lV B b acc w T):lV B b acc w.drew T:=by
 rcases h with h|h
 ·exact Or.inl h.drew
 ·exact Or.inr h.drew
theorem lV.fresh {T:TypeId}(w:World):lV w.heap.size w.heap.size [] (w.alloc (.cells #[.pointer none,.slice none 0 0] T)) T :=
 Lib.IsBuilderF.of (Lib.fresh_isBuilder T 5 w)
theorem lV.ne {T:TypeId}(h:lV B b acc w T){T':TypeId}(hk:w.heap[k]?=some (.cells cs T' fr))(hT:T'≠T):k≠b:=by
 obtain⟨p,_,v,hb,_⟩:=h.at;rintro rfl;rw[hk] at hb;simp only[Option.some.injEq,Obj.cells.injEq] at hb;exact hT hb.2.1
theorem lV.block {T:TypeId}{w':World}(h:lV B b acc w T)(ho:Lib.OthersKept 5 (some b) w w'){T':TypeId}(hk:w.heap[k]?=some (.cells cs T' fr))
  (hT:T'≠T) (he:T'≠5):w'.heap[k]?=some (.cells cs T' fr) :=
 ho k _ hk (λe=>h.ne hk hT (lG e)) (λc fz e=>he (by injection e))
theorem mO {T:TypeId}[UK T](B b:Nat)(acc:aH)(s:ByteArray)(w:World)(h:lV B b acc w T)(hlen:acc.length+s.size<=140737488355328)(hBw:B<=w.heap.size) :
  Calls Tryz.prog 176 #[.pointer (some ⟨b,0,none⟩),.string s] w λe w'=>e=.returned (.tuple #[.int .i64 s.size,.nilIface])/\lV B b (acc++s.data.toList) w' T/\Below B w w'/\Lib.OthersKept 5 (some b) w w':=by
 have:=writeString B b (Lib.byteCells acc) s w h (by rw[Lib.byteCells_length];exact hlen) hBw;rw[Lib.strCells_eq,<- Lib.byteCells_append] at this;exact this
theorem Cy (B b:Nat)(acc:aH)(w:World)(h:lV B b acc w)(hBw:B<=w.heap.size) :
  Calls Tryz.prog 123 #[.pointer (some ⟨b,0,none⟩)] w λe w'=>e=.returned (.string ⟨acc.toArray⟩)/\lV B b acc w'/\Below B w w'/\Lib.OthersKept 5 (some b) w w' :=
 Tryz.Builder_String_any_k B b acc w h hBw
theorem Rec.adn {α:Type}{v:Value}{sz n:Nat}{f:α->List Value}{l:List α}(h:Rec B w v sz f l)(hf:∀ x,(f x).length=sz)(hn:l.length=n) :
  ∃ ao cap,v=.slice ao n cap/\n<=cap/\(0<n->∃ b off,ao=some ⟨b,off,none⟩/\b<B /\
   ∀ k j u,(hk:k<l.length)->(f l[k])[j]?=some u->w.cell? ⟨b,off+k * sz+j,none⟩=some u):=by
 subst hn;exact h.form hf
def xA (x:Tok × Int × Int):List Value:=[.int .i64 x.2.1,.string ⟨x.1.lead.toArray⟩,.string ⟨x.1.text.toArray⟩,.int .i64 x.2.2]
theorem afz {B:Nat}{w:World}{v:Value}{ah:List Tok}(h:Rec B w v 4 dP ah):Rec B w v 4 xA (ah.map λt=>(t,(t.kind:Int),(t.place:Int))):=by
 unfold Rec at h |-;rw[oC,List.flatMap_map];exact h
def iE:List Tok->aH
 | []=>[]
 | t :: l=>t.lead++t.text++iE l
theorem Ez:∀ (l:List Tok),(iE l).length=iq l l.length
 | []=>rfl
 | t :: l=>by rw[iE,bY,bY,Ez l,fu,l9,oD]
theorem vW:∀ (l:List Tok) (t:Tok),iE (l++[t])=iE l++(t.lead++t.text)
 | [],t=>by simp[iE]
 | x :: l,t=>by simp only[pJ,iE,vW l t,om]
theorem Laid.EA {T:aH}{p:Nat}{l:List Tok}(h:Laid T p l):∀ k,k<=l.length->iE (l.take k)=T.take (iq l k)
 | 0,_=>by simp[iE,yN]
 | k+1,hk=>by
  have hl:k<l.length:=hk;have hle:=h.inside (k+1) hk;rw[kL l k hl,oD] at hle;rw[zF hl,vW,h.EA k (by omega),kL l k hl,oD];have h1:=h.lead k hl;have h2:=h.text k hl;generalize iq l k=a at h1 h2 hle |-;rw[<- vN,List.take_add (i:=a+l[k].lead.length),List.take_add (i:=a),h1,h2,om]
theorem Laid.MG {T:aH}{p:Nat}{l:List Tok}(h:Laid T p l):iE l=T:=by
 have:=h.EA l.length (bD _);rw[zG,h.whole,zG] at this;exact this
theorem vB:∀ (l:List Tok) (k:Nat),k<=l.length->(iE (l.take k)).length=iq l k
 | l,0,_=>by simp[iE,yN]
 | [],k+1,h=>absurd h (by simp)
 | t :: l,k+1,h=>by
  rw[List.take_succ_cons,iE,bY,bY,vB l k (by simpa using h),l9,oD]
theorem Qi (l:List Tok):∀ (i j:Nat),i<=j->j<=l.length->iq l i<=iq l j:=by
 intro i j h hj
 induction j with
 | zero=>exact Nat.le_of_eq (by rw[Nat.le_zero.1 h])
 | succ j ih =>
  rcases Nat.lt_or_ge i (j+1) with h'|h'
  ·have:=ih (by omega) (by omega)
   rw[kL l j (by omega)];omega
  ·obtain rfl:i=j+1:=by omega
   exact bD _
theorem jD (y:aH):∃ Y:ByteArray,Y.data.toList=y/\ByteArray.mk y.toArray=Y:=⟨⟨y.toArray⟩,rfl,rfl⟩
theorem Qj (v:Value)(xs:List (Tok × Int × Int))(l:List Tok)(he:xs.map Prod.fst=l)(w:World)(hl:l.length<=1099511627776)(hn:iq l l.length<=1099511627776)(hv:Rec w.heap.size w v 4 xA xs) :
  Calls Tryz.prog 167 #[v] w λe w'=>e=.returned (.string ⟨(iE l).toArray⟩)/\Below w.heap.size w w':=by
 have hxl:xs.length=l.length:=by rw[<- he,oC]
 obtain⟨ao,cap,rfl,hcap,hf⟩:=hv.adn (λ_=>rfl) hxl;have HX:=ay hxl;have HE:=ay he;clear hv hxl he;go_enter Tryz.func167,Tryz.ntmps167;go_wp2
 go_loopw [8] (λi wr=>∃ k:Nat,k<=l.length/\i=.int .i64 k/\lV w.heap.size w.heap.size (iE (l.take k)) wr/\Below w.heap.size w wr) (λi _=>l.length - (intOf i).toNat)
 case atStart=>exact⟨0,kJ _,rfl,lV.fresh w,(bQ _ _).alloc (bD _) _⟩
 case round =>
  obtain⟨k,hk,rfl,hbd,hbl⟩:=hrel;have hz:=hbl.size
  by_cases hlt:k<l.length
  ·obtain⟨b,off,rfl,hb,hcell⟩:=hf (by omega)
   have hxk:k<xs.length:=by rw[HX.out];exact hlt
   have hx0:=(hbl.cell (p:=⟨b,off+k * 4,none⟩) hb).trans (hcell k 0 _ hxk rfl);have hx1:=(hbl.cell (p:=⟨b,off+k * 4+1,none⟩) hb).trans (hcell k 1 _ hxk rfl);have hx2:=(hbl.cell (p:=⟨b,off+k * 4+2,none⟩) hb).trans (hcell k 2 _ hxk rfl);have hx3:=(hbl.cell (p:=⟨b,off+k * 4+3,none⟩) hb).trans (hcell k 3 _ hxk rfl)
   have hxe:xs[k].1=l[k]:=by simp[<- HE.out]
   have hmo:=Qi l (k+1) l.length hlt (bD _);rw[kL l k hlt,oD,<- vB l k hk] at hmo
   have hsn:iE (l.take (k+1))=iE (l.take k)++(l[k].lead++l[k].text):=by rw[zF hlt,vW]
   generalize l[k]=t at hxe hmo hsn;generalize xs[k]=xk at hxe hx0 hx1 hx2 hx3;obtain⟨⟨c0,x,y,q0⟩,c,q⟩:=xk;simp only at hxe hx0 hx1 hx2 hx3;subst hxe;simp only at hmo hsn;obtain⟨X,rfl,eX⟩:=jD x;obtain⟨Y,rfl,eY⟩:=jD y;rw[eX] at hx1;rw[eY] at hx2;simp only[aY] at hmo;generalize iE (l.take k)=acc at hbd hmo hsn;have HS:=ay hsn;have ahq:=hbd.alloc (.cells #[.int .i64 c,.string X,.string Y,.int .i64 q] 159);have ahr:=hbl.alloc hz (.cells #[.int .i64 c,.string X,.string Y,.int .i64 q] 159);clear hcell hf hsn eX eY hxk;go_wp2_with (go_at_call 176;refine(mO w.heap.size w.heap.size acc (X++Y) _ ahq ?c1 ?c2).mono ?_)
   case c1=>simp only[ByteArray.size_append];omega
   case c2=>simp;omega
   rintro e w2 ⟨rfl,afA,hb2,ho2⟩;rw[Cv,<- HS.out] at afA;clear ho2;go_wp2
   go_roundw
   case rel=>exact⟨k+1,by omega,by go_num,afA,ahr.trans hb2⟩
   case measure=>simp[intOf];omega
  ·have hkl:k=l.length:=by omega
   subst hkl;rw[zG] at hbd;clear hf;go_wp2_with (go_at_call 123;refine(Cy w.heap.size w.heap.size _ _ hbd hz).mono ?_;rintro e w4 ⟨rfl,aiZ,hb4,Qk⟩);go_ret;exact⟨rfl,hbl.trans hb4⟩
variable{ah:List Tok}
open Go.RowKit
open Go.RowKit
open Go.RowKit
open Go.RowKit
open Go.RowKit
open Go.RowKit
structure Nd where
 kind:Int
 tok:Int
 aB:List Int
structure aK where
 aj:List Nd
 used:Nat
 aC:Bool
 fE:Nat
 fAt:Nat
def afB:Tok:=⟨0,[],[],0⟩
def dx (ah:List Tok)(u:Nat):Tok:=ah.getD (min u (ah.length - 1)) afB
def bF (ah:List Tok)(st:aK)(l:List aH):Bool:=((dx ah st.used).kind == 2 || (dx ah st.used).kind == 4) && decide ((dx ah st.used).text∈l)
def iA (ah:List Tok)(e:Nat)(st:aK):aK:=if st.fE=0 then { st with fE:=e,fAt:=(dx ah st.used).place } else st
def aF (ah:List Tok)(st:aK):Int × aK :=
 if st.used=ah.length then (-1,st) else ((st.aj.length:Nat),{ st with aj:=st.aj++[⟨19,(st.used:Nat),[]⟩],used:=st.used+1 })
def Ih (kind:Int)(aB:List Int)(st:aK):Int × aK :=
 if aB.any (λk=>decide (k<0) || decide ((st.aj.length:Int)<=k)) then (-1,st) else ((st.aj.length:Nat),{ st with aj:=st.aj++[⟨kind,-1,aB⟩] })
def bL (kind:Int)(aB:List Int)(st:aK):Int × aK:=if st.fE=0 then Ih kind aB st else (0,st)
def aJ (ah:List Tok)(l:List aH)(st:aK):Int × aK:=if st.fE=0/\bF ah st l=true then aF ah st else (0,iA ah 22 st)
def bC (ah:List Tok)(k:Nat)(st:aK):Int × aK:=if st.fE=0/\(dx ah st.used).kind=k then aF ah st else (0,iA ah 22 st)
def bg (ah:List Tok)(depth aG:Nat)(st:aK):aK:=if depth<aG then iA ah 23 st else st
def Bg:Nat->List aH
 | 0=>[[124,124]]
 | 1=>[[38,38]]
 | 2=>[[61],[60,62],[60],[60,61],[62],[62,61]]
 | 3=>[[43],[45]]
 | _=>[[42],[47],[37]]
def bE (ah:List Tok)(one:aK->Option (Int × aK)):Nat->List Int->aK->Option (List Int × aK)
 | 0,aB,st=>some (aB,if st.fE=0 then iA ah 15 st else st)
 | r+1,aB,st =>
  if st.fE≠0 then some (aB,st)
  else (one st).bind λk =>
   if k.2.fE=0/\bF ah k.2 [[44]]=true then bE ah one r (aB++[k.1,(aF ah k.2).1]) (aF ah k.2).2
   else some (aB++[k.1],k.2)
def jW (ah:List Tok)(one:aK->Option (Int × aK))(st:aK):Option (List Int × aK) :=
 if bF ah st [[41]]=true then some ([],st) else bE ah one 8 [] st
inductive Task where
 | expr (aG:Nat)
 | formula (aG:Nat)
 | part (l aG:Nat)
 | row (l aG:Nat)
 | loop (l aG:Nat) (a:Int)
 | neg (aG:Nat)
 | factor (aG:Nat)
 | atom (aG:Nat)
 | name (aG:Nat)
def afC:aH:=[108,101,116]
def tIf:aH:=[105,102]
def Tf:aH:=[97,115,115,101,114,116]
def Xe:aH:=[105,110]
def I7:aH:=[116,104,101,110]
def I8:aH:=[101,108,115,101]
def Tg:aH:=[116,114,117,101]
def Ql:aH:=[102,97,108,115,101]
def ab3:aH:=[110,111,116]
def adL:aH:=[114,101,115]
def oo (ah:List Tok)(a:Int × aK):List Int × aK :=
 if bF ah a.2 [[46]]=true then ([a.1,(aF ah a.2).1,(bC ah 1 (aF ah a.2).2).1],(bC ah 1 (aF ah a.2).2).2) else ([a.1],a.2)
def run (ah:List Tok)(depth:Nat):Nat->Task->aK->Option (Int × aK)
 | 0,_,_=>none
 | g+1,.expr aG,st0 =>
  if (bg ah depth aG st0).fE≠0 then some (0,bg ah depth aG st0)
  else if (bg ah depth aG st0).aC=true then run ah depth g (.formula aG) (bg ah depth aG st0)
  else if bF ah (bg ah depth aG st0) [afC]=true then
   (run ah depth g (.expr (aG+1)) (aJ ah [[61]] (bC ah 1 (aF ah (bg ah depth aG st0)).2).2).2).bind λd =>
    (run ah depth g (.expr (aG+1)) (aJ ah [Xe] d.2).2).bind λf =>
     some (bL 7 [(aF ah (bg ah depth aG st0)).1,(bC ah 1 (aF ah (bg ah depth aG st0)).2).1,(aJ ah [[61]] (bC ah 1 (aF ah (bg ah depth aG st0)).2).2).1,d.1,(aJ ah [Xe] d.2).1,f.1] f.2)
  else if bF ah (bg ah depth aG st0) [tIf]=true then
   (run ah depth g (.expr (aG+1)) (aF ah (bg ah depth aG st0)).2).bind λb =>
    (run ah depth g (.expr (aG+1)) (aJ ah [I7] b.2).2).bind λd =>
     (run ah depth g (.expr (aG+1)) (aJ ah [I8] d.2).2).bind λf =>
      some (bL 8 [(aF ah (bg ah depth aG st0)).1,b.1,(aJ ah [I7] b.2).1,d.1,(aJ ah [I8] d.2).1,f.1] f.2)
  else if bF ah (bg ah depth aG st0) [Tf]=true then
   (run ah depth g (.expr (aG+1)) (aF ah (bg ah depth aG st0)).2).bind λb =>
    (run ah depth g (.expr (aG+1)) (aJ ah [Xe] b.2).2).bind λd =>
     some (bL 9 [(aF ah (bg ah depth aG st0)).1,b.1,(aJ ah [Xe] b.2).1,d.1] d.2)
  else run ah depth g (.formula aG) (bg ah depth aG st0)
 | g+1,.formula aG,st0 =>
  (run ah depth g (.row 0 aG) st0).bind λa =>
   if a.2.fE=0/\bF ah a.2 [[61,62]]=true then
    if (bg ah depth (aG+1) (aF ah a.2).2).fE≠0 then some (0,bg ah depth (aG+1) (aF ah a.2).2)
    else (run ah depth g (.formula (aG+1)) (bg ah depth (aG+1) (aF ah a.2).2)).bind λb=>some (bL 10 [a.1,(aF ah a.2).1,b.1] b.2)
   else some a
 | g+1,.part l aG,st=>if l=1 then run ah depth g (.neg aG) st else if l=4 then run ah depth g (.factor aG) st else run ah depth g (.row (l+1) aG) st
 | g+1,.row l aG,st=>(run ah depth g (.part l aG) st).bind λa=>run ah depth g (.loop l aG a.1) a.2
 | g+1,.loop l aG a,st =>
  if st.fE=0/\bF ah st (Bg l)=true then
   (run ah depth g (.part l aG) (aF ah st).2).bind λb =>
    if l=2 then some (bL 10 [a,(aF ah st).1,b.1] b.2)
    else run ah depth g (.loop l aG (bL 10 [a,(aF ah st).1,b.1] b.2).1) (bL 10 [a,(aF ah st).1,b.1] b.2).2
  else some (a,st)
 | g+1,.neg aG,st =>
  if st.fE=0/\bF ah st [ab3]=true then
   if (bg ah depth (aG+1) (aF ah st).2).fE≠0 then some (0,bg ah depth (aG+1) (aF ah st).2)
   else (run ah depth g (.neg (aG+1)) (bg ah depth (aG+1) (aF ah st).2)).bind λb=>some (bL 11 [(aF ah st).1,b.1] b.2)
  else run ah depth g (.row 2 aG) st
 | g+1,.factor aG,st =>
  if st.fE=0/\bF ah st [[45]]=true then
   if (bg ah depth (aG+1) (aF ah st).2).fE≠0 then some (0,bg ah depth (aG+1) (aF ah st).2)
   else (run ah depth g (.factor (aG+1)) (bg ah depth (aG+1) (aF ah st).2)).bind λb=>some (bL 11 [(aF ah st).1,b.1] b.2)
  else run ah depth g (.atom aG) st
 | g+1,.atom aG,st =>
  if st.fE≠0 then some (0,st)
  else if (dx ah st.used).kind=3 then some (bL 15 [(aF ah st).1] (aF ah st).2)
  else if bF ah st [Tg,Ql]=true then some (bL 16 [(aF ah st).1] (aF ah st).2)
  else if st.aC=true/\bF ah st [adL]=true then some (bL 17 [(aF ah st).1] (aF ah st).2)
  else if bF ah st [[40]]=true then
   (run ah depth g (.expr (aG+1)) (aF ah st).2).bind λb =>
    some (bL 12 [(aF ah st).1,b.1,(aJ ah [[41]] b.2).1] (aJ ah [[41]] b.2).2)
  else if (dx ah st.used).kind=1 then run ah depth g (.name aG) st
  else some (0,iA ah 22 st)
 | g+1,.name aG,st =>
  if (aF ah st).2.aC=true\/bF ah (aF ah st).2 [[46],[40]]=false then some (bL 14 [(aF ah st).1] (aF ah st).2)
  else
   (jW ah (λs=>run ah depth g (.expr (aG+1)) s) (aJ ah [[40]] (oo ah (aF ah st)).2).2).bind λl =>
    some (bL 13 ((oo ah (aF ah st)).1++[(aJ ah [[40]] (oo ah (aF ah st)).2).1]++l.1++[(aJ ah [[41]] l.2).1]) (aJ ah [[41]] l.2).2)
def lQ:aK:=⟨[],0,false,0,0⟩
def dR (a b:aK):Prop:=a.used<=b.used/\(a.fE≠0->b.fE=a.fE)/\b.aC=a.aC/\a.aj.length<=b.aj.length
theorem dR.refl (a:aK):dR a a:=⟨bD _,λ_=>rfl,rfl,bD _⟩
theorem dR.trans {a b c:aK}(h:dR a b)(k:dR b c):dR a c :=
 ⟨jq h.1 k.1,λq=>by have h1:=h.2.1 q;rw[k.2.1 (by rw[h1];exact q),h1],k.2.2.1.trans h.2.2.1,jq h.2.2.2 k.2.2.2⟩
theorem dR.zero {a b:aK}(h:dR a b)(hb:b.fE=0):a.fE=0:=by
 apply SY
 intro q;exact q (by rw[<- h.2.1 q];exact hb)
theorem qN (ah:List Tok)(e:Nat)(st:aK):dR st (iA ah e st):=by
 unfold iA
 split
 ·rename_i h;exact⟨bD _,λq=>absurd h q,rfl,bD _⟩
 ·exact dR.refl _
theorem aQ (ah:List Tok)(st:aK):dR st (aF ah st).2:=by
 unfold aF
 split
 ·exact dR.refl _
 ·exact⟨Nat.le_succ _,λ_=>rfl,rfl,by simp⟩
theorem XJ (k:Int)(l:List Int)(st:aK):dR st (Ih k l st).2:=by
 unfold Ih
 split
 ·exact dR.refl _
 ·exact⟨bD _,λ_=>rfl,rfl,by simp⟩
theorem aM (k:Int)(l:List Int)(st:aK):dR st (bL k l st).2:=by
 unfold bL
 split
 ·exact XJ _ _ _
 ·exact dR.refl _
theorem aN (ah:List Tok)(l:List aH)(st:aK):dR st (aJ ah l st).2:=by
 unfold aJ
 split
 ·exact aQ _ _
 ·exact qN _ _ _
theorem fF (ah:List Tok)(k:Nat)(st:aK):dR st (bC ah k st).2:=by
 unfold bC
 split
 ·exact aQ _ _
 ·exact qN _ _ _
theorem fT (ah:List Tok)(d n:Nat)(st:aK):dR st (bg ah d n st):=by
 unfold bg
 split
 ·exact qN _ _ _
 ·exact dR.refl _
theorem Bh (ah:List Tok)(a:Int × aK):dR a.2 (oo ah a).2:=by
 unfold oo
 split
 ·exact(aQ _ _).trans (fF _ _ _)
 ·exact dR.refl _
theorem nL (ah:List Tok)(one:aK->Option (Int × aK))(h1:∀ s k,one s=some k->dR s k.2):∀ (r:Nat) (aB:List Int) (st:aK) (l:List Int × aK),bE ah one r aB st=some l->dR st l.2
 | 0,aB,st,l,h=>by
  rw[bE] at h
  injection h with h
  subst h;show dR st (if st.fE=0 then iA ah 15 st else st)
  split
  ·exact qN _ _ _
  ·exact dR.refl _
 | r+1,aB,st,l,h=>by
  rw[bE] at h
  split at h
  ·injection h with h;subst h;exact dR.refl _
  ·obtain⟨k,hk,h⟩:=cZ h
   have:=h1 _ _ hk
   split at h
   ·exact(this.trans (aQ _ _)).trans (nL ah one h1 r _ _ _ h)
   ·injection h with h;subst h;exact this
theorem mP (ah:List Tok)(one:aK->Option (Int × aK))(h1:∀ s k,one s=some k->dR s k.2)(st:aK)(l:List Int × aK)(h:jW ah one st=some l):dR st l.2:=by
 unfold jW at h
 split at h
 ·injection h with h;subst h;exact dR.refl _
 ·exact nL ah one h1 _ _ _ _ h
theorem bA (ah:List Tok)(depth:Nat):∀ (g:Nat) (t:Task) (st:aK) (r:Int × aK),run ah depth g t st=some r->dR st r.2
 | 0,_,_,_,h=>by rw[run] at h;cases h
 | g+1,.expr aG,st,r,h=>by
  have ih:=bA ah depth g;rw[run] at h;have hd:=fT ah depth aG st;generalize bg ah depth aG st=s at h hd
  split at h
  ·injection h with h;subst h;exact hd
  split at h
  ·exact hd.trans (ih _ _ _ h)
  split at h
  ·obtain⟨d,h1,h⟩:=cZ h
   obtain⟨f,h2,h⟩:=cZ h
   injection h with h;subst h
   exact(((((hd.trans (aQ _ _)).trans (fF _ _ _)).trans (aN _ _ _)).trans (ih _ _ _ h1)).trans (aN _ _ _)).trans ((ih _ _ _ h2).trans (aM _ _ _))
  split at h
  ·obtain⟨b,h1,h⟩:=cZ h
   obtain⟨d,h2,h⟩:=cZ h;obtain⟨f,h3,h⟩:=cZ h
   injection h with h;subst h
   exact(((((hd.trans (aQ _ _)).trans (ih _ _ _ h1)).trans (aN _ _ _)).trans (ih _ _ _ h2)).trans (aN _ _ _)).trans ((ih _ _ _ h3).trans (aM _ _ _))
  split at h
  ·obtain⟨b,h1,h⟩:=cZ h
   obtain⟨d,h2,h⟩:=cZ h
   injection h with h;subst h
   exact(((hd.trans (aQ _ _)).trans (ih _ _ _ h1)).trans (aN _ _ _)).trans ((ih _ _ _ h2).trans (aM _ _ _))
  ·exact hd.trans (ih _ _ _ h)
 | g+1,.formula aG,st,r,h=>by
  have ih:=bA ah depth g;rw[run] at h;obtain⟨a,h1,h⟩:=cZ h;have ha:=ih _ _ _ h1
  split at h
  ·have hd:=(ha.trans (aQ ah a.2)).trans (fT ah depth (aG+1) _)
   split at h
   ·injection h with h;subst h;exact hd
   ·obtain⟨b,h2,h⟩:=cZ h
    injection h with h;subst h
    exact(hd.trans (ih _ _ _ h2)).trans (aM _ _ _)
  ·injection h with h;subst h;exact ha
 | g+1,.part l aG,st,r,h=>by
  have ih:=bA ah depth g;rw[run] at h
  split at h
  ·exact ih _ _ _ h
  ·split at h
   ·exact ih _ _ _ h
   ·exact ih _ _ _ h
 | g+1,.row l aG,st,r,h=>by
  have ih:=bA ah depth g;rw[run] at h;obtain⟨a,h1,h⟩:=cZ h;exact(ih _ _ _ h1).trans (ih _ _ _ h)
 | g+1,.loop l aG a,st,r,h=>by
  have ih:=bA ah depth g;rw[run] at h
  split at h
  ·obtain⟨b,h1,h⟩:=cZ h
   have hb:=((aQ ah st).trans (ih _ _ _ h1)).trans (aM 10 [a,(aF ah st).1,b.1] _)
   split at h
   ·injection h with h;subst h;exact hb
   ·exact hb.trans (ih _ _ _ h)
  ·injection h with h;subst h;exact dR.refl _
 | g+1,.neg aG,st,r,h=>by
  have ih:=bA ah depth g;rw[run] at h
  split at h
  ·have hd:=(aQ ah st).trans (fT ah depth (aG+1) _)
   split at h
   ·injection h with h;subst h;exact hd
   ·obtain⟨b,h2,h⟩:=cZ h
    injection h with h;subst h
    exact(hd.trans (ih _ _ _ h2)).trans (aM _ _ _)
  ·exact ih _ _ _ h
 | g+1,.factor aG,st,r,h=>by
  have ih:=bA ah depth g;rw[run] at h
  split at h
  ·have hd:=(aQ ah st).trans (fT ah depth (aG+1) _)
   split at h
   ·injection h with h;subst h;exact hd
   ·obtain⟨b,h2,h⟩:=cZ h
    injection h with h;subst h
    exact(hd.trans (ih _ _ _ h2)).trans (aM _ _ _)
  ·exact ih _ _ _ h
 | g+1,.atom aG,st,r,h=>by
  have ih:=bA ah depth g;rw[run] at h
  split at h
  ·injection h with h;subst h;exact dR.refl _
  split at h
  ·injection h with h;subst h;exact(aQ _ _).trans (aM _ _ _)
  split at h
  ·injection h with h;subst h;exact(aQ _ _).trans (aM _ _ _)
  split at h
  ·injection h with h;subst h;exact(aQ _ _).trans (aM _ _ _)
  split at h
  ·obtain⟨b,h1,h⟩:=cZ h
   injection h with h;subst h
   exact(((aQ _ _).trans (ih _ _ _ h1)).trans (aN _ _ _)).trans (aM _ _ _)
  split at h
  ·exact ih _ _ _ h
  ·injection h with h;subst h;exact qN _ _ _
 | g+1,.name aG,st,r,h=>by
  have ih:=bA ah depth g;rw[run] at h
  split at h
  ·injection h with h;subst h;exact(aQ _ _).trans (aM _ _ _)
  ·obtain⟨l,h1,h⟩:=cZ h
   injection h with h;subst h
   exact((((aQ _ _).trans (Bh _ _)).trans (aN _ _ _)).trans (mP ah _ (λs k hk=>ih _ _ _ hk) _ _ h1)).trans ((aN _ _ _).trans (aM _ _ _))
def iQ (ah:List Tok):Prop:=(dx ah ah.length).kind=5
theorem iQ.pos (h:iQ ah):0<ah.length:=by
 cases ah with
 | nil=>cases h
 | cons t l=>simp
theorem iQ.before (h:iQ ah){u:Nat}(hu:(dx ah u).kind≠5):u+1<ah.length:=by
 apply SY
 intro q
 apply hu
 have hp:=h.pos;rw[iQ] at h;unfold dx at h |-;rw[show min u (ah.length - 1)=min ah.length (ah.length - 1) by omega];exact h
theorem bM {st:aK}{l:List aH}(h:bF ah st l=true):(dx ah st.used).kind≠5:=by
 simp only[bF,uw,Bool.or_eq_true,beq_iff_eq] at h;omega
theorem Qm {st:aK}(h:st.used+1<ah.length):aF ah st=(((st.aj.length:Nat):Int),{ st with aj:=st.aj++[⟨19,(st.used:Nat),[]⟩],used:=st.used+1 }):=by
 unfold aF;rw[aU (by omega)]
theorem j5 (hE:iQ ah){st:aK}(h:(dx ah st.used).kind≠5):(aF ah st).2.used=st.used+1/\st.used+1<ah.length:=by
 have:=hE.before h;rw[Qm this];exact⟨rfl,this⟩
def jX:Task->Nat
 | .expr _=>18
 | .formula _=>17
 | .row l _=>if l<=1 then 16 - 2 * l else 15 - 2 * l
 | .part l _=>if l<=1 then 15 - 2 * l else 14 - 2 * l
 | .neg _=>12
 | .factor _=>5
 | .atom _=>4
 | .name _=>3
 | .loop _ _ _=>1
def okT (ah:List Tok)(st:aK):Task->Prop
 | .row l _=>l<=4
 | .part l _=>l<=4
 | .loop l _ _=>l<=4
 | .name _=>st.used<ah.length
 | _=>True
def fO (ah:List Tok)(t:Task)(st:aK):Nat:=20 * (ah.length - st.used)+jX t
theorem nM {e:Nat}(he:e≠0)(st:aK):(iA ah e st).fE≠0:=by
 unfold iA
 split
 ·exact he
 ·assumption
theorem UL (hE:iQ ah)(l:List aH)(st:aK):st.used+1<=(aJ ah l st).2.used\/(aJ ah l st).2.fE≠0:=by
 unfold aJ
 split
 ·rename_i h
  have:=(j5 hE (bM h.2)).1;exact .inl (by rw[this];exact bD _)
 ·exact .inr (nM (by decide) st)
theorem qV (ah:List Tok)(one:aK->Option (Int × aK))(base:Nat)(h1:∀ s,base<=s.used->∃ k,one s=some k/\dR s k.2):∀ (r:Nat) (aB:List Int) (st:aK),base<=st.used\/st.fE≠0->∃ l,bE ah one r aB st=some l
 | 0,aB,st,_=>⟨_,rfl⟩
 | r+1,aB,st,hb=>by
  rw[bE]
  split
  ·exact⟨_,rfl⟩
  ·rename_i hf
   obtain⟨k,hk,hx⟩:=h1 st (hb.resolve_right hf);rw[hk];simp only[pO]
   split
   ·exact qV ah one base h1 r _ _ (.inl (jq (hb.resolve_right hf) (jq hx.1 (aQ ah k.2).1)))
   ·exact⟨_,rfl⟩
theorem j6 (ah:List Tok)(depth:Nat)(hE:iQ ah):∀ (g:Nat) (t:Task) (st:aK),okT ah st t->fO ah t st<=g->∃ r,run ah depth g t st=some r
 | 0,t,st,_,h=>by
  exfalso
  have:1<=jX t:=by
   cases t<;>simp only[jX]<;>first|omega|(simp only[okT] at *;split<;>omega)
  unfold fO at h;omega
 | g+1,.expr aG,st,_,h=>by
  have ih:=j6 ah depth hE g;rw[run];have hd:=fT ah depth aG st;generalize bg ah depth aG st=s at hd;have hu:=hd.1;simp only[fO,jX] at h
  split
  ·exact⟨_,rfl⟩
  split
  ·exact ih _ _ trivial (by simp only[fO,jX];omega)
  split
  ·rename_i hn
   obtain⟨e1,e2⟩:=j5 hE (bM hn);have x1:=(fF ah 1 (aF ah s).2).1;have x2:=(aN ah [[61]] (bC ah 1 (aF ah s).2).2).1;obtain⟨d,hd1⟩:=ih (.expr (aG+1)) (aJ ah [[61]] (bC ah 1 (aF ah s).2).2).2 trivial (by simp only[fO,jX];omega);have x3:=(bA ah depth g _ _ _ hd1).1;have x4:=(aN ah [Xe] d.2).1;obtain⟨f,hf⟩:=ih (.expr (aG+1)) (aJ ah [Xe] d.2).2 trivial (by simp only[fO,jX];omega);rw[hd1,pO,hf,pO];exact⟨_,rfl⟩
  split
  ·rename_i hn
   obtain⟨e1,e2⟩:=j5 hE (bM hn);obtain⟨b,hb⟩:=ih (.expr (aG+1)) (aF ah s).2 trivial (by simp only[fO,jX];omega);have x3:=(bA ah depth g _ _ _ hb).1;have x4:=(aN ah [I7] b.2).1;obtain⟨d,hd1⟩:=ih (.expr (aG+1)) (aJ ah [I7] b.2).2 trivial (by simp only[fO,jX];omega);have x5:=(bA ah depth g _ _ _ hd1).1;have x6:=(aN ah [I8] d.2).1;obtain⟨f,hf⟩:=ih (.expr (aG+1)) (aJ ah [I8] d.2).2 trivial (by simp only[fO,jX];omega);rw[hb,pO,hd1,pO,hf,pO];exact⟨_,rfl⟩
  split
  ·rename_i hn
   obtain⟨e1,e2⟩:=j5 hE (bM hn);obtain⟨b,hb⟩:=ih (.expr (aG+1)) (aF ah s).2 trivial (by simp only[fO,jX];omega);have x3:=(bA ah depth g _ _ _ hb).1;have x4:=(aN ah [Xe] b.2).1;obtain⟨d,hd1⟩:=ih (.expr (aG+1)) (aJ ah [Xe] b.2).2 trivial (by simp only[fO,jX];omega);rw[hb,pO,hd1,pO];exact⟨_,rfl⟩
  ·exact ih _ _ trivial (by simp only[fO,jX];omega)
 | g+1,.formula aG,st,_,h=>by
  have ih:=j6 ah depth hE g;rw[run];simp only[fO,jX] at h;obtain⟨a,ha⟩:=ih (.row 0 aG) st (by simp[okT]) (by simp only[fO,jX];simp;omega);have x1:=(bA ah depth g _ _ _ ha).1;rw[ha,pO]
  split
  ·rename_i hn
   obtain⟨e1,e2⟩:=j5 hE (bM hn.2);have x2:=(fT ah depth (aG+1) (aF ah a.2).2).1
   split
   ·exact⟨_,rfl⟩
   ·obtain⟨b,hb⟩:=ih (.formula (aG+1)) (bg ah depth (aG+1) (aF ah a.2).2) trivial (by simp only[fO,jX];omega)
    rw[hb,pO];exact⟨_,rfl⟩
  ·exact⟨_,rfl⟩
 | g+1,.part l aG,st,hl,h=>by
  have ih:=j6 ah depth hE g;rw[run];simp only[fO,jX] at h;simp only[okT] at hl
  split
  ·rename_i h1;subst h1
   exact ih _ _ trivial (by simp only[fO,jX];simp at h;omega)
  ·split
   ·rename_i h4;subst h4
    exact ih _ _ trivial (by simp only[fO,jX];simp at h;omega)
   ·refine ih _ _ (by simp only[okT];omega) ?_
    simp only[fO,jX]
    split at h
    ·obtain rfl:l=0:=by omega
     simp;omega
    ·rw[aU (by omega)];omega
 | g+1,.row l aG,st,hl,h=>by
  have ih:=j6 ah depth hE g;rw[run];simp only[fO,jX] at h;simp only[okT] at hl;obtain⟨a,ha⟩:=ih (.part l aG) st hl (by simp only[fO,jX];split at h<;>split<;>omega);have x1:=(bA ah depth g _ _ _ ha).1;rw[ha,pO];refine ih _ _ hl ?_;simp only[fO,jX]
  split at h<;>omega
 | g+1,.loop l aG a,st,hl,h=>by
  have ih:=j6 ah depth hE g;rw[run];simp only[fO,jX] at h;simp only[okT] at hl
  split
  ·rename_i hn
   obtain⟨e1,e2⟩:=j5 hE (bM hn.2);obtain⟨b,hb⟩:=ih (.part l aG) (aF ah st).2 hl (by simp only[fO,jX];split<;>omega);have x1:=(bA ah depth g _ _ _ hb).1;have x2:=(aM 10 [a,(aF ah st).1,b.1] b.2).1;rw[hb,pO]
   split
   ·exact⟨_,rfl⟩
   ·exact ih _ _ hl (by simp only[fO,jX];omega)
  ·exact⟨_,rfl⟩
 | g+1,.neg aG,st,_,h=>by
  have ih:=j6 ah depth hE g;rw[run];simp only[fO,jX] at h
  split
  ·rename_i hn
   obtain⟨e1,e2⟩:=j5 hE (bM hn.2);have x2:=(fT ah depth (aG+1) (aF ah st).2).1
   split
   ·exact⟨_,rfl⟩
   ·obtain⟨b,hb⟩:=ih (.neg (aG+1)) (bg ah depth (aG+1) (aF ah st).2) trivial (by simp only[fO,jX];omega)
    rw[hb,pO];exact⟨_,rfl⟩
  ·exact ih _ _ (by simp[okT]) (by simp only[fO,jX];simp;omega)
 | g+1,.factor aG,st,_,h=>by
  have ih:=j6 ah depth hE g;rw[run];simp only[fO,jX] at h
  split
  ·rename_i hn
   obtain⟨e1,e2⟩:=j5 hE (bM hn.2);have x2:=(fT ah depth (aG+1) (aF ah st).2).1
   split
   ·exact⟨_,rfl⟩
   ·obtain⟨b,hb⟩:=ih (.factor (aG+1)) (bg ah depth (aG+1) (aF ah st).2) trivial (by simp only[fO,jX];omega)
    rw[hb,pO];exact⟨_,rfl⟩
  ·exact ih _ _ trivial (by simp only[fO,jX];omega)
 | g+1,.atom aG,st,_,h=>by
  have ih:=j6 ah depth hE g;rw[run];simp only[fO,jX] at h
  split
  ·exact⟨_,rfl⟩
  split
  ·exact⟨_,rfl⟩
  split
  ·exact⟨_,rfl⟩
  split
  ·exact⟨_,rfl⟩
  split
  ·rename_i hn
   obtain⟨e1,e2⟩:=j5 hE (bM hn);obtain⟨b,hb⟩:=ih (.expr (aG+1)) (aF ah st).2 trivial (by simp only[fO,jX];omega);rw[hb,pO];exact⟨_,rfl⟩
  split
  ·rename_i hk
   have:=hE.before (u:=st.used) (by omega);exact ih _ _ (by simp only[okT];omega) (by simp only[fO,jX];omega)
  ·exact⟨_,rfl⟩
 | g+1,.name aG,st,hl0,h=>by
  have ih:=j6 ah depth hE g;rw[run];simp only[fO,jX] at h
  split
  ·exact⟨_,rfl⟩
  ·have x1:=(aQ ah st).1
   have x2:=(Bh ah (aF ah st)).1;have x3:=UL hE [[40]] (oo ah (aF ah st)).2;generalize (aJ ah [[40]] (oo ah (aF ah st)).2)=b at x3
   have hl:∃ l,jW ah (λs=>run ah depth g (.expr (aG+1)) s) b.2=some l:=by
    unfold jW
    split
    ·exact⟨_,rfl⟩
    ·refine qV ah _ (st.used+1) (λs hs=>?_) _ _ _ (x3.imp (by omega) id)
     have hlt:st.used<ah.length:=hl0;obtain⟨k,hk⟩:=ih (.expr (aG+1)) s trivial (by simp only[fO,jX];omega);exact⟨k,hk,bA ah depth g _ _ _ hk⟩
   obtain⟨l,hl⟩:=hl;rw[hl,pO];exact⟨_,rfl⟩
inductive PT where
 | leaf
 | node (k:Nat) (l:List PT)
mutual
def PT.lv:PT->Nat
 | .leaf=>1
 | .node _ l=>bU l
def bU:List PT->Nat
 | []=>0
 | t :: l=>t.lv+bU l
end
mutual
def PT.nd:PT->Nat
 | .leaf=>1
 | .node _ l=>eZ l+1
def eZ:List PT->Nat
 | []=>0
 | t :: l=>t.nd+eZ l
end
def dA (b:Nat):List PT->List Int
 | []=>[]
 | t :: l=>(((b+t.nd:Nat):Int) - 1) :: dA (b+t.nd) l
mutual
def PT.em (b u:Nat):PT->List Nd
 | .leaf=>[⟨19,(u:Nat),[]⟩]
 | .node k l=>zP b u l++[⟨k,-1,dA b l⟩]
def zP (b u:Nat):List PT->List Nd
 | []=>[]
 | t :: l=>t.em b u++zP (b+t.nd) (u+t.lv) l
end
theorem jr:∀ (l k:List PT),bU (l++k)=bU l+bU k
 | [],k=>by simp[bU]
 | t :: l,k=>by simp only[pJ,bU,jr l k];omega
theorem oF:∀ (l k:List PT),eZ (l++k)=eZ l+eZ k
 | [],k=>by simp[eZ]
 | t :: l,k=>by simp only[pJ,eZ,oF l k];omega
theorem pW:∀ (b:Nat) (l k:List PT),dA b (l++k)=dA b l++dA (b+eZ l) k
 | b,[],k=>by simp[dA,eZ]
 | b,t :: l,k=>by simp only[pJ,dA,pW _ l k,eZ];rw[vN]
theorem EB:∀ (b u:Nat) (l k:List PT),zP b u (l++k)=zP b u l++zP (b+eZ l) (u+bU l) k
 | b,u,[],k=>by simp[zP,eZ,bU]
 | b,u,t :: l,k=>by simp only[pJ,zP,EB _ _ l k,eZ,bU,om];rw[vN,vN]
mutual
theorem PT.uI (b u:Nat):∀ (t:PT),(t.em b u).length=t.nd
 | .leaf=>by simp[PT.em,PT.nd]
 | .node k l=>by simp[PT.em,PT.nd,zQ b u l]
theorem zQ (b u:Nat):∀ (l:List PT),(zP b u l).length=eZ l
 | []=>by simp[zP,eZ]
 | t :: l=>by rw[zP,eZ,bY,PT.uI b u t,zQ _ _ l]
end
theorem PT.iF (t:PT):0<t.nd:=by cases t<;>simp[PT.nd]
theorem yO:∀ (b:Nat) (l:List PT) (k:Int),k∈dA b l->(b:Int)<=k/\k<((b+eZ l:Nat):Int)
 | _,[],k,h=>by cases h
 | b,t :: l,k,h=>by
  have hp:=t.iF;rw[dA,nY] at h;rw[eZ]
  rcases h with rfl|h
  ·omega
  ·have:=yO _ l k h
   omega
def fH (st:aK)(l:List PT)(st':aK):Prop:=st'={ st with aj:=st.aj++zP st.aj.length st.used l,used:=st.used+bU l }
theorem fH.nil (st:aK):fH st [] st:=by simp[fH,zP,bU]
theorem fH.append {a b c:aK}{l k:List PT}(h:fH a l b)(h2:fH b k c):fH a (l++k) c:=by
 rw[fH] at h h2 |-;rw[h2,h];simp only[bY,zQ,EB,jr,om,vN]
theorem fH.len {a b:aK}{l:List PT}(h:fH a l b):b.aj.length=a.aj.length+eZ l:=by rw[h];simp[zQ]
theorem fH.used {a b:aK}{l:List PT}(h:fH a l b):b.used=a.used+bU l:=by rw[h]
theorem fH.aC {a b:aK}{l:List PT}(h:fH a l b):b.aC=a.aC:=by rw[h]
theorem fH.fE {a b:aK}{l:List PT}(h:fH a l b):b.fE=a.fE:=by rw[h]
theorem fH.leaf {ah:List Tok}{st:aK}(h:st.used+1<=ah.length):fH st [.leaf] (aF ah st).2/\(aF ah st).1=((st.aj.length:Nat):Int):=by
 unfold aF;rw[aU (by omega)];exact⟨by simp[fH,zP,PT.em,bU,PT.lv],rfl⟩
theorem fH.node {a b:aK}{l:List PT}(h:fH a l b)(hf:b.fE=0)(k:Nat):fH a [.node k l] (bL k (dA a.aj.length l) b).2/\(bL k (dA a.aj.length l) b).1=((a.aj.length+eZ l:Nat):Int):=by
 have hlen:=h.len;unfold bL;rw[bR hf];unfold Ih;rw[aU]
 ·refine⟨?_,by rw[hlen]⟩
  rw[fH] at h |-;rw[h];simp[zP,PT.em,bU,PT.lv]
 ·intro q
  obtain⟨x,hx,hy⟩:=List.any_eq_true.1 q;have:=yO _ _ _ hx;simp only[Bool.or_eq_true,AZ] at hy;omega
inductive CE where
 | num|truth|res|Cz
 | group (e:CE)
 | un (e:CE)
 | bin (a b:CE)
 | iff (a b c:CE)
 | vO (a b:CE)
 | vP (a b:CE)
 | call (q:Bool) (l:List CE)
mutual
def CE.pt:CE->PT
 | .num=>.node 15 [.leaf]
 | .truth=>.node 16 [.leaf]
 | .res=>.node 17 [.leaf]
 | .Cz=>.node 14 [.leaf]
 | .group e=>.node 12 [.leaf,e.pt,.leaf]
 | .un e=>.node 11 [.leaf,e.pt]
 | .bin a b=>.node 10 [a.pt,.leaf,b.pt]
 | .iff a b c=>.node 8 [.leaf,a.pt,.leaf,b.pt,.leaf,c.pt]
 | .vO a b=>.node 7 [.leaf,.leaf,.leaf,a.pt,.leaf,b.pt]
 | .vP a b=>.node 9 [.leaf,a.pt,.leaf,b.pt]
 | .call q l=>.node 13 ((if q then [.leaf,.leaf,.leaf] else [.leaf])++[.leaf]++fI l++[.leaf])
def fI:List CE->List PT
 | []=>[]
 | e :: l=>e.pt :: (match l with | []=>[]|_ :: _=>.leaf :: fI l)
end
theorem uJ (e:CE):fI [e]=[e.pt]:=by simp[fI]
theorem oG (e f:CE)(l:List CE):fI (e :: f :: l)=e.pt :: .leaf :: fI (f :: l):=by
 conv=>lhs;rw[fI]
def aP (ah:List Tok)(u:Nat):aH:=(dx ah u).text
def gW (ah:List Tok)(u:Nat):Nat:=(dx ah u).kind
def sP:List aH:=[[43],[45],[42],[47],[37],[61],[60,62],[60],[60,61],[62],[62,61],[38,38],[124,124],[61,62]]
mutual
def CE.ok (ah:List Tok)(cl:Bool)(u:Nat):CE->Prop
 | .num=>gW ah u=3
 | .truth=>aP ah u=Tg\/aP ah u=Ql
 | .res=>cl=true/\aP ah u=adL
 | .Cz=>gW ah u=1
 | .group e=>aP ah u=[40]/\e.ok ah cl (u+1)
 | .un e=>(aP ah u=ab3\/aP ah u=[45])/\e.ok ah cl (u+1)
 | .bin a b=>aP ah (u+a.pt.lv)∈sP/\a.ok ah cl u/\b.ok ah cl (u+a.pt.lv+1)
 | .iff a b c=>cl=false/\a.ok ah cl (u+1)/\b.ok ah cl (u+1+a.pt.lv+1)/\c.ok ah cl (u+1+a.pt.lv+1+b.pt.lv+1)
 | .vO a b=>cl=false/\gW ah (u+1)=1/\a.ok ah cl (u+3)/\b.ok ah cl (u+3+a.pt.lv+1)
 | .vP a b=>cl=false/\a.ok ah cl (u+1)/\b.ok ah cl (u+1+a.pt.lv+1)
 | .call q l=>cl=false/\gW ah u=1/\l.length<=8/\(if q then aP ah (u+1)=[46]/\gW ah (u+2)=1/\qp ah cl (u+4) l else aP ah (u+1)=[40]/\qp ah cl (u+2) l)
def qp (ah:List Tok)(cl:Bool)(u:Nat):List CE->Prop
 | []=>True
 | e :: l=>e.ok ah cl u/\qp ah cl (u+e.pt.lv+1) l
end
def Xf (ah:List Tok)(st:aK)(r:Int × aK)(e:CE):Prop :=
 fH st [e.pt] r.2/\r.1=((st.aj.length+e.pt.nd:Nat):Int) - 1/\e.ok ah st.aC st.used/\(st.used<ah.length->r.2.used<ah.length)
def jy (nt i:Nat)(n:Nd):Bool :=
 if n.kind<1\/19<n.kind then false
 else if n.kind=19 then decide (n.aB.length=0) && (decide (0<=n.tok) && decide (n.tok<nt))
 else decide (n.tok=-1) && !(n.aB.any λk=>decide (k<0) || decide ((i:Int)<=k))
def zR:List Bool->List Int->Option (List Bool)
 | nJ,[]=>some nJ
 | nJ,k :: ks=>if nJ.getD k.toNat false=true then none else zR (nJ.set k.toNat true) ks
def nN (nt:Nat):Nat->List Nd->List Bool->Option (List Bool)
 | _,[],nJ=>some nJ
 | i,n :: l,nJ=>if jy nt i n=true then (zR nJ n.aB).bind (nN nt (i+1) l) else none
def gF (aj:List Nd):Nat->List Int->List Int->Option (List Int)
 | 0,_,_=>none
 | _+1,[],out=>some out
 | g+1,i :: rest,out =>
  if i<0 then none
  else match aj[i.toNat]? with
   | none=>none
   | some x=>if x.kind=19 then gF aj g rest (out++[x.tok]) else if 549755813888<(x.aB++rest).length then none else gF aj g (x.aB++rest) out
def pF:Nat->List Int->Bool
 | _,[]=>true
 | i,k :: l=>decide ((i:Int)=k) && pF (i+1) l
def qW (nt:Nat)(aj:List Nd):Option (List Bool):=nN nt 0 aj (List.replicate aj.length false)
def mh (nt:Nat)(aj:List Nd)(l:List Int):Bool :=
 match qW nt aj with
 | none=>false
 | some nJ=>!(decide (nJ.length=0)) && !((nJ.take (aj.length - 1)).contains false) && pF 0 l && decide (l.length=nt)
def kg (n:Nat):aH:=if h:n<10 then [UInt8.ofNat (48+n)] else kg (n / 10)++[UInt8.ofNat (48+n % 10)]
decreasing_by omega
def pX (t:Tok):aH:=(if t.kind=5 then [36] else [])++t.text
def nO (f:Int->Option aH):List Int->Option aH
 | []=>some []
 | k :: ks=>(f k).bind λa=>(nO f ks).bind λb=>some ([32]++a++b)
def vC (ah:List Tok)(aj:List Nd):Nat->Int->Option aH
 | 0,_=>none
 | g+1,n =>
  if n<0 then none
  else match aj[n.toNat]? with
   | none=>none
   | some x =>
    if x.kind=19 then (if x.tok<0 then none else (ah[x.tok.toNat]?).map pX)
    else (nO (vC ah aj g) x.aB).map λb=>[40]++kg x.kind.toNat++b++[41]
mutual
def PT.dump (ah:List Tok)(u:Nat):PT->aH
 | .leaf=>pX (dx ah u)
 | .node k l=>[40]++kg k++CB ah u l++[41]
def CB (ah:List Tok)(u:Nat):List PT->aH
 | []=>[]
 | t :: l=>[32]++t.dump ah u++CB ah (u+t.lv) l
end
mutual
def oH (aj:List Nd)(n:Int)(u:Nat):PT->Prop
 | .leaf=>0<=n/\aj[n.toNat]?=some ⟨19,(u:Nat),[]⟩
 | .node k l=>∃ ks,0<=n/\aj[n.toNat]?=some ⟨k,-1,ks⟩/\fP aj ks u l
def fP (aj:List Nd)(ks:List Int)(u:Nat):List PT->Prop
 | []=>ks=[]
 | t :: l=>∃ k ks',ks=k :: ks'/\oH aj k u t/\fP aj ks' (u+t.lv) l
end
mutual
theorem oH.more {aj more:List Nd}:∀ {t:PT} {n:Int} {u:Nat},oH aj n u t->oH (aj++more) n u t
 | .leaf,n,u,h=>by
  rw[oH] at h |-;exact⟨h.1,by rw[List.getElem?_append_left (pE h.2).1];exact h.2⟩
 | .node k l,n,u,h=>by
  rw[oH] at h |-;obtain⟨ks,h0,h1,h2⟩:=h;exact⟨ks,h0,by rw[List.getElem?_append_left (pE h1).1];exact h1,fP.more h2⟩
theorem fP.more {aj more:List Nd}:∀ {l:List PT} {ks:List Int} {u:Nat},fP aj ks u l->fP (aj++more) ks u l
 | [],ks,u,h=>by rw[fP] at h |-;exact h
 | t :: l,ks,u,h=>by
  rw[fP] at h |-;obtain⟨k,ks',e,h1,h2⟩:=h;exact⟨k,ks',e,oH.more h1,fP.more h2⟩
end
mutual
theorem oH.em {pre:List Nd}:∀ (t:PT) (b u:Nat),pre.length=b->oH (pre++t.em b u) (((b+t.nd:Nat):Int) - 1) u t
 | .leaf,b,u,hb=>by
  rw[oH,PT.em,PT.nd];refine⟨by omega,?_⟩;rw[show ((((b+1:Nat):Int) - 1).toNat)=pre.length by omega]
  simp
 | .node k l,b,u,hb=>by
  have hl:=fP.em (pre:=pre) l b u hb
  have hn:(pre++zP b u l).length=b+eZ l:=by rw[bY,zQ,hb]
  rw[oH,PT.em,PT.nd,<- om];refine⟨dA b l,by omega,?_,hl.more⟩;rw[show ((((b+(eZ l+1):Nat):Int) - 1).toNat)=(pre++zP b u l).length by omega]
  simp
theorem fP.em {pre:List Nd}:∀ (l:List PT) (b u:Nat),pre.length=b->fP (pre++zP b u l) (dA b l) u l
 | [],b,u,hb=>by rw[fP,dA]
 | t :: l,b,u,hb=>by
  have h1:=oH.em (pre:=pre) t b u hb;have h2:=fP.em (pre:=pre++t.em b u) l (b+t.nd) (u+t.lv) (by rw[bY,PT.uI,hb]);rw[fP,zP,dA];refine⟨_,_,rfl,?_,?_⟩
  ·rw[<- om];exact h1.more
  ·rw[<- om];exact h2
end
