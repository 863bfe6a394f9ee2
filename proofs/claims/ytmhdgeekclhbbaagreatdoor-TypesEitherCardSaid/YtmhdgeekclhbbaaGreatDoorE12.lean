/- Walks and plain laws, without a condition. -/
import Derived.Test.YtmhdgeekclhbbaaGreatDoorE11
set_option maxHeartbeats 16000000
set_option maxRecDepth 100000
set_option linter.unusedVariables false
set_option linter.unusedSimpArgs false
namespace Go.Proofs.YtmhdgeekclhbbaaGreatDoor
variable{r t:aH}{c:UInt8}{n:Nat}{l a:List Pc}
def Ends (r:aH):Prop:=∀ c,r.head?=some c->bJ c=false
theorem Ends.cons (h:bJ c=false):Ends (c :: r):=by
 intro d hd;simp only[List.head?_cons,Option.some.injEq] at hd;rw[<- hd];exact h
theorem M8 (h:bJ c=false):bf c=false:=by
 simp only[bJ,abn] at h;exact h.1.2
theorem abN {k:Nat}(hk:k≠4)(h:Ends r):qG k t r.head?=true:=by
 cases hr:r.head? with
 | none=>rfl
 | some c =>
  have:=h c hr;rw[qG,aP hk]
  split
  ·rw[M8 this];rfl
  ·rw[this];rfl
def Le (t:aH):Bool:=t.all bJ && (t.headD 0 |> fq) && decide (0<t.length) && decide (t.length<=40) && decide (t ∉ uy)
theorem qc {w:aH}(h:bZ w=true):Le w=true:=by
 unfold bZ at h
 cases hl:bV w with
 | error x=>rw[hl] at h;cases h
 | ok l =>
  rw[hl] at h
  match l,h with
  | [t,x],h =>
   simp only[qM,uK] at h;obtain⟨h1,h2⟩:=h;unfold bV at hl
   split at hl
   ·cases hl
   ·unfold kZ at hl
    dsimp only at hl
    split at hl
    ·cases hl
    ·rename_i he
     split at hl
     ·injection hl with hl;cases hl
     ·split at hl
      ·cases hl
      ·injection hl with hl
       have ht:=(List.cons.inj hl).1
       have hk:(fP (w.drop (cK false w))).1=1:=by rw[<- ht] at h1;exact h1
       have htx:(w.drop (cK false w)).take (fP (w.drop (cK false w))).2.1=w:=by rw[<- ht] at h2;exact h2
       have hp:=AU (w.drop (cK false w)) (by simpa using he) (by rw[hk];decide);have hlen:=congrArg List.length htx;rw[qX,zh] at hlen;have hle:=AQ (w.drop (cK false w));rw[zh] at hle
       have hk0:cK false w=0:=by omega
       rw[hk0,List.drop_zero] at hk htx he hle;rw[hk0] at hlen
       have hwl:(fP w).2.1=w.length:=by rw[List.drop_zero] at hlen;omega
       cases w with
       | nil=>simp[fP] at hk
       | cons c r =>
        rw[fP] at hk hwl
        by_cases hc:fq c=true
        ·rw[bq hc] at hk hwl
         unfold pq at hk hwl;simp only at hk hwl
         split at hk
         ·cases hk
         ·rename_i h40
          rw[aP h40] at hwl
          split at hk
          ·cases hk
          ·rename_i hkey
           rw[aP hkey] at hwl;simp only at hwl;have hall:(c :: r).takeWhile bJ=c :: r:=(List.takeWhile_prefix bJ).eq_of_length hwl;rw[hall] at h40 hkey
           have ha:(c :: r).all bJ=true:=by rw[<- hall];exact List.all_takeWhile
           simp only[Le,qM,uK];exact⟨⟨⟨⟨ha,hc⟩,by simp⟩,by omega⟩,hkey⟩
        ·rw[aP hc] at hk
         split at hk
         ·unfold rT at hk
          simp only at hk
          split at hk<;>cases hk
         ·unfold EG at hk
          split at hk<;>cases hk
  | [],h=>cases h
  | [_],h=>cases h
  | _ :: _ :: _ :: _,h=>cases h
theorem abO (t:aH):ny (abG t)=(t.all bf && decide (0<t.length) && decide (t.length<=60) && (decide (t.length=1) || !decide (t[0]?=some 48))):=rfl
theorem afu (t:aH):ny ⟨[],1,t⟩=(t.all bJ && fq (t.headD 0) && decide (0<t.length) && decide (t.length<=40) && decide (1=if t∈uy then 2 else 1)):=rfl
theorem wu (h:Le t=true):eU t=⟨[],1,t⟩/\ny (eU t)=true:=by
 simp only[Le,qM,uK] at h
 have e:eU t=⟨[],1,t⟩:=by rw[eU,aP h.2]
 refine⟨e,?_⟩;rw[e,afu];simp only[qM,uK];exact⟨⟨⟨⟨h.1.1.1.1,h.1.1.1.2⟩,h.1.1.2⟩,h.1.2⟩,by rw[aP h.2]⟩
theorem XJ:∀ t∈uy,ny (eU t)=true:=by decide
theorem vw:∀ t∈jQ,ny (qR t)=true:=by decide
theorem XK:(iw n).all bf=true:=by
 induction n using Nat.strongRecOn with
 | ind n ih =>
  rw[iw]
  split
  ·have:∀ k:Fin 10,bf (UInt8.ofNat (48+k.val))=true:=by decide
   have:=this ⟨n,by omega⟩
   simpa using this
  ·rename_i h
   rw[List.all_append,ih (n / 10) (by omega),Bool.true_and]
   have:∀ k:Fin 10,bf (UInt8.ofNat (48+k.val))=true:=by decide
   have:=this ⟨n % 10,by omega⟩
   simpa using this
theorem abP:(iw n).length=1\/(iw n)[0]?≠some 48:=by
 induction n using Nat.strongRecOn with
 | ind n ih =>
  rw[iw]
  split
  ·left;simp
  ·rename_i h
   right
   have hp:=BL (n / 10);rw[List.getElem?_append_left hp]
   rcases ih (n / 10) (by omega) with q|q
   ·intro q2
    have:n / 10<10:=by
     apply LY
     intro q3;rw[iw,dif_neg (by omega)] at q;have:=BL (n / 10 / 10);simp only[bQ,dN,iF] at q;omega
    rw[iw,dif_pos this] at q2;simp only[dN,iF,Nat.zero_add,Nat.lt_add_one,AB,List.getElem_cons_zero,Option.some.injEq] at q2;have h2:=congrArg UInt8.toNat q2;rw[UInt8.toNat_ofNat'] at h2;simp at h2;omega
   ·exact q
theorem Lf {n:Int}(h0:0<=n)(L6:(kr n).length<=60):ny (abG (kr n))=true:=by
 obtain⟨m,rfl⟩:=Int.eq_ofNat_of_zero_le h0;rw[Bb] at L6 |-;rw[abO];simp only[qM,uK,Bool.or_eq_true,Bool.not_eq_true',decide_eq_false_iff_not];exact⟨⟨⟨XK,BL m⟩,L6⟩,abP⟩
theorem Dg:NY (Ag l) r↔NY l r:=by
 cases l with
 | nil=>exact Iff.rfl
 | cons p l =>
  rw[Ag,NY,NY]
  have:ny ⟨32 :: p.lead,p.kind,p.text⟩=ny p:=by simp[ny,eH]
  rw[this]
theorem Hy (h:l≠[])(r:aH):Ends (aX (Ag l)++r):=by
 rw[fJ h];exact Ends.cons (by decide)
theorem Lg (t:aH)(h:t∈[[40],[41],[44],[46],[123],[125],[58],[59]])(c:Option UInt8):qG 4 t c=true:=by
 cases c with
 | none=>rfl
 | some c =>
  have:∀ t∈([[40],[41],[44],[46],[123],[125],[58],[59]]:List aH),∀ n:Fin 256,qG 4 t (some (UInt8.ofNat n.val))=true:=by decide +kernel
  have h1:=this t h ⟨c.toNat,c.toNat_lt⟩;rw[UInt8.ofNat_toNat] at h1;exact h1
theorem Hz:∀ t∈jQ,qG 4 t (some 32)=true:=by decide
theorem TP {c:Option UInt8}(h:c≠some 45):qG 4 [45] c=true:=by
 cases c with
 | none=>rfl
 | some c =>
  have:∀ n:Fin 256,UInt8.ofNat n.val≠45->qG 4 [45] (some (UInt8.ofNat n.val))=true:=by decide +kernel
  have h1:=this ⟨c.toNat,c.toNat_lt⟩;rw[UInt8.ofNat_toNat] at h1
  exact h1 λq=>h (by rw[q])
def gV (l:List Pc):Prop:=∀ r,Ends r->NY l r
theorem gV.word (h:ny (eU t)=true):gV [eU t]:=λr hr=>⟨h,by
 have:(eU t).kind≠4:=by unfold eU;simp only;split<;>decide
 exact abN this hr,trivial⟩
theorem gV.key (h:t∈uy):gV [eU t]:=gV.word (XJ t h)
theorem gV.mR {b:List Pc}(h:gV a)(hb:gV b)(hne:b≠[]):gV (a++Ag b):=λr hr=>jF.2 ⟨h _ (Hy hne r),Dg.2 (hb r hr)⟩
theorem gV.close (h:gV a)(t:aH)(ht:t∈[[40],[41],[44],[46],[123],[125],[58],[59]])(hi:∀ x∈t,bJ x=false):∀ r,NY (a++[qR t]) r:=λr=>by
 have hs:t∈jQ:=by
  have:∀ t∈([[40],[41],[44],[46],[123],[125],[58],[59]]:List aH),t∈jQ:=by decide
  exact this t ht
 refine jF.2 ⟨h _ ?_,vw t hs,Lg t ht _,trivial⟩;intro c hc
 cases t with
 | nil=>exact absurd hs (by decide)
 | cons x t=>simp[aX,qR] at hc;rw[<- hc];exact hi x (by simp)
theorem abQ (t:aH)(ht:t∈[[40],[41],[44],[46],[123],[125],[58],[59]])(h:NY l r):NY (qR t :: l) r:=by
 have hs:t∈jQ:=by
  have:∀ t∈([[40],[41],[44],[46],[123],[125],[58],[59]]:List aH),t∈jQ:=by decide
  exact this t ht
 exact⟨vw t hs,Lg t ht _,h⟩
theorem M9 {least:Int}{k:Int × List Pc}(h:gV k.2):gV (EP least k):=by
 intro r hr;unfold EP
 split
 ·exact abQ [40] (by decide) (h.close [41] (by decide) (by decide) r)
 ·exact h r hr
theorem Qh:∀ (es:List PZ),(∀ x∈es,gV x.uJ/\x.uJ≠[])->gV (sF (es.map PZ.uJ))
 | [],_=>λ_ _=>trivial
 | [e],h=>(h e (by simp)).1
 | e :: f :: l,h=>by
  have ih:=Qh (f :: l) λx hx=>h x (xu _ hx)
  have he:=(h e (by simp)).1;intro r hr;simp only[mE] at ih |-;rw[sF,show e.uJ++qR [44] :: Ag (sF (f.uJ :: l.map PZ.uJ))=(e.uJ++[qR [44]])++Ag (sF (f.uJ :: l.map PZ.uJ)) by simp];exact jF.2 ⟨he.close [44] (by decide) (by decide) _,Dg.2 (ih r hr)⟩
theorem afv (nm md:aH)(num:Int)(yes:Bool)(ks:List (Int × List Pc)):kJ 2 nm md num yes ks=[eU (if yes=true then [116,114,117,101] else [102,97,108,115,101])]:=rfl
theorem abR (nm md:aH)(num:Int)(yes:Bool)(ks:List (Int × List Pc)):kJ 3 nm md num yes ks=[eU nm]:=rfl
theorem afw (nm md:aH)(num:Int)(yes:Bool)(ks:List (Int × List Pc)):kJ 4 nm md num yes ks=[eU [114,101,115]]:=rfl
theorem abS {e:PZ}{fm:Bool}(h:Hw fm e)(hne:e.uJ≠[])(r:aH):(aX (EP 9 (e.op,e.uJ))++r).head?≠some 45:=by
 unfold EP
 split
 ·simp[aX,qR]
 ·rename_i hl
  have F:=h.form;simp only at hl;rw[e.MV];have hnm:=h.names;have hv:=h.values;generalize hc:e.aA.length=c at F;generalize e.op=op at *
  cases F with
  | none h1 h2 =>
   have:op=1\/op=2\/op=3\/op=4:=by omega
   rcases this with rfl|rfl|rfl|rfl
   ·simp only[tY,bq,qM,uK] at hv
    have hp:=Lf hv.1.1 hv.1.2;rw[abO] at hp;simp only[qM] at hp;have hd:=hp.1.1.1;have hpos:=abM e.num;simp only[kJ,bq,aX,abG]
    cases hi:kr e.num with
    | nil=>rw[hi] at hpos;simp at hpos
    | cons c r =>
     rw[hi,List.all_cons,qM] at hd;simp only[qW,kF,List.head?_cons,ne_eq,Option.some.injEq];exact(Py c hd.1).2.2
   ·simp[kJ,aX,eU];split<;>simp
   ·have hnm:bZ e.name=true:=by
     simp only[p9] at hnm;rw[bq (by decide),qM] at hnm;exact hnm.1
    have hn:=qc hnm;simp only[Le,qM] at hn;rw[abR]
    cases hi:e.name with
    | nil=>rw[hi] at hn;simp at hn
    | cons c r =>
     rw[hi] at hn;simp only[aX,eU,qW,kF,List.head?_cons,ne_eq,Option.some.injEq];exact(CX c hn.1.1.1.2).2.2
   ·simp[kJ,aX,eU]
  | one h=>rcases h with rfl|rfl<;>exact absurd (by decide) hl
  | two h1 h2 =>
   exfalso
   apply hl
   unfold KV;rw[aP (by omega),aP (by omega)]
   repeat (first|omega|(split;(first|omega|decide)))
  | iff=>exact absurd (by decide) hl
  | sZ=>exact absurd (by decide) hl
  | tq=>exact absurd (by decide) hl
  | call h =>
   have hnm:bZ e.name=true/\(e.module=[]\/bZ e.module=true):=by
    simp only[p9] at hnm;rw[aP (by decide),bq trivial,qM,Bool.or_eq_true,uK] at hnm;exact hnm
   simp only[kJ];simp only[aP,bq,show ¬ (24:Int)=1 by decide,show ¬ (24:Int)=2 by decide,show ¬ (24:Int)=3 by decide,show ¬ (24:Int)=4 by decide,show ¬ (24:Int)=5 by decide,show ¬ (24:Int)=6 by decide,show ¬ (24:Int)=21 by decide,show ¬ (24:Int)=22 by decide,show ¬ (24:Int)=23 by decide,not_false_eq_true]
   have key:∀ w,bZ w=true->∀ l,(w++l).head?≠some 45:=by
    intro w hw l;have hn:=qc hw;simp only[Le,qM] at hn
    cases w with
    | nil=>simp at hn
    | cons c r =>
     simp only[kF,List.head?_cons,ne_eq,Option.some.injEq];exact(CX c hn.1.1.1.2).2.2
   split
   ·simp only[qW,aX,eU,kF,om]
    exact key _ hnm.1 _
   ·rename_i hm
    have:=hnm.2.resolve_left hm;simp only[qW,aX,eU,kF,om];exact key _ this _
theorem abT {op:Int}(h1:7<=op)(h2:op<=20):vk op∈jQ/\vk op∈rV:=by
 have:∀ k:Fin 14,vk ((k.val+7:Nat):Int)∈jQ/\vk ((k.val+7:Nat):Int)∈rV:=by decide
 have h:=this ⟨(op - 7).toNat,by omega⟩;rw[show (((⟨(op - 7).toNat,by omega⟩:Fin 14).val+7:Nat):Int)=op by simp only;omega] at h;exact h
theorem PZ.aeD {fm:Bool}:∀ (n:Nat) (e:PZ),SizeOf.sizeOf e<n->e.right fm=true->gV e.uJ
 | 0,_,h,_=>absurd h (by omega)
 | n+1,e,hs,hr=>by
  have R:=PZ.MW hr
  have ih:∀ x∈e.aA,gV x.uJ/\x.uJ≠[]:=λx hx=>⟨PZ.aeD n x (by have:=e.lQ x hx;omega) (R.aA x hx),(PZ.bytes n x (by have:=e.lQ x hx;omega) (R.aA x hx)).2⟩
  have hrk:∀ x∈e.aA,Hw fm x:=λx hx=>PZ.MW (R.aA x hx)
  have F:=R.form;rw[e.MV]
  have hk:∀ i,(h:i<e.aA.length)->(J3 e.aA).getD i (0,[])=(e.aA[i].op,e.aA[i].uJ)/\gV e.aA[i].uJ/\e.aA[i].uJ≠[]:=λi h=>⟨Qb h,ih _ (oQ h)⟩
  have hm:(J3 e.aA).map Prod.snd=e.aA.map PZ.uJ:=by rw[BJ];simp
  have hcm:=Qh e.aA ih;have hnm:=R.names;have hv:=R.values;generalize e.aA=ks at *;generalize hn:ks.length=c at F;generalize e.op=op at *
  cases F with
  | none h1 h2 =>
   have:op=1\/op=2\/op=3\/op=4:=by omega
   rcases this with rfl|rfl|rfl|rfl
   ·simp only[tY,bq,qM,uK] at hv
    simp only[kJ,bq]
    exact λr hr=>⟨Lf hv.1.1 hv.1.2,abN (by show (3:Nat)≠4;decide) hr,trivial⟩
   ·rw[afv]
    split
    ·exact gV.key (by decide)
    ·exact gV.key (by decide)
   ·simp only[p9] at hnm
    rw[bq (by decide),qM] at hnm;rw[abR];exact gV.word (wu (qc hnm.1)).2
   ·rw[afw]
    exact gV.key (by decide)
  | one h =>
   obtain⟨a1,a2,a3⟩:=hk 0 (by omega);have aiz:=hrk _ (oQ (show 0<ks.length by omega))
   rcases h with rfl|rfl
   ·simp only[kJ]
    simp only[aP,bq,show ¬ (5:Int)=1 by decide,show ¬ (5:Int)=2 by decide,show ¬ (5:Int)=3 by decide,show ¬ (5:Int)=4 by decide,not_false_eq_true];rw[a1]
    exact λr hr=>⟨vw [45] (by decide),TP (abS aiz a3 r),M9 (k:=(ks[0].op,ks[0].uJ)) a2 r hr⟩
   ·simp only[kJ]
    simp only[aP,bq,show ¬ (6:Int)=1 by decide,show ¬ (6:Int)=2 by decide,show ¬ (6:Int)=3 by decide,show ¬ (6:Int)=4 by decide,show ¬ (6:Int)=5 by decide,not_false_eq_true];rw[a1];exact(gV.key (t:=[110,111,116]) (by decide)).mR (M9 (k:=(ks[0].op,ks[0].uJ)) a2) (Fv a3)
  | two h1 h2 =>
   obtain⟨a1,a2,a3⟩:=hk 0 (by omega);obtain⟨b1,b2,b3⟩:=hk 1 (by omega)
   have e1:∀ k:Int,(k<=6\/21<=k)->¬ op=k:=λk hk q=>by omega
   simp only[kJ];rw[aP (e1 1 (by omega)),aP (e1 2 (by omega)),aP (e1 3 (by omega)),aP (e1 4 (by omega)),aP (e1 5 (by omega)),aP (e1 6 (by omega)),aP (e1 21 (by omega)),aP (e1 22 (by omega)),aP (e1 23 (by omega)),aP (e1 24 (by omega)),a1,b1];have hs:=(abT h1 h2).1;have hpb:=Fv (least:=BH op) (k:=(ks[1].op,ks[1].uJ)) b3;intro r hr;refine jF.2 ⟨M9 (k:=(ks[0].op,ks[0].uJ)) a2 _ ?_,jF.2 ⟨Dg.2 ⟨vw _ hs,?_,trivial⟩,Dg.2 (M9 (k:=(ks[1].op,ks[1].uJ)) b2 r hr)⟩⟩
   ·rw[dQ,fJ (by simp)]
    exact Ends.cons (by decide)
   ·rw[aX,qW,fJ hpb]
    exact Hz _ hs
  | iff =>
   obtain⟨a1,a2,a3⟩:=hk 0 (by omega);obtain⟨b1,b2,b3⟩:=hk 1 (by omega);obtain⟨c1,c2,c3⟩:=hk 2 (by omega);simp only[kJ];simp only[aP,bq,show ¬ (21:Int)=1 by decide,show ¬ (21:Int)=2 by decide,show ¬ (21:Int)=3 by decide,show ¬ (21:Int)=4 by decide,show ¬ (21:Int)=5 by decide,show ¬ (21:Int)=6 by decide,not_false_eq_true];rw[a1,b1,c1]
   have:=((((gV.key (t:=[105,102]) (by decide)).mR a2 a3).mR (gV.key (t:=[116,104,101,110]) (by decide)) (by simp)).mR b2 b3).mR (gV.key (t:=[101,108,115,101]) (by decide)) (by simp) |>.mR c2 c3
   simpa using this
  | sZ =>
   obtain⟨a1,a2,a3⟩:=hk 0 (by omega);obtain⟨b1,b2,b3⟩:=hk 1 (by omega);simp only[p9] at hnm;rw[bq (by decide),qM] at hnm;simp only[kJ];simp only[aP,bq,show ¬ (22:Int)=1 by decide,show ¬ (22:Int)=2 by decide,show ¬ (22:Int)=3 by decide,show ¬ (22:Int)=4 by decide,show ¬ (22:Int)=5 by decide,show ¬ (22:Int)=6 by decide,show ¬ (22:Int)=21 by decide,not_false_eq_true];rw[a1,b1];have hq:=(gV.key (t:=[108,101,116]) (by decide)).mR (gV.word (wu (qc hnm.1)).2) (by simp)
   have h1:gV ([eU [108,101,116]]++Ag [eU e.name]++(Ag [qR [61]]++Ag ks[0].uJ)):=λr hr=>jF.2 ⟨hq _ (by
     rw[dQ,fJ (by simp)]
     exact Ends.cons (by decide)),jF.2 ⟨Dg.2 ⟨vw [61] (by decide),by rw[aX,qW,fJ a3];exact Hz [61] (by decide),trivial⟩,Dg.2 (a2 r hr)⟩⟩
   have:=(h1.mR (gV.key (t:=[105,110]) (by decide)) (by simp)).mR b2 b3
   simpa using this
  | tq =>
   obtain⟨a1,a2,a3⟩:=hk 0 (by omega);obtain⟨b1,b2,b3⟩:=hk 1 (by omega);simp only[kJ];simp only[aP,bq,show ¬ (23:Int)=1 by decide,show ¬ (23:Int)=2 by decide,show ¬ (23:Int)=3 by decide,show ¬ (23:Int)=4 by decide,show ¬ (23:Int)=5 by decide,show ¬ (23:Int)=6 by decide,show ¬ (23:Int)=21 by decide,show ¬ (23:Int)=22 by decide,not_false_eq_true];rw[a1,b1];have:=(((gV.key (t:=[97,115,115,101,114,116]) (by decide)).mR a2 a3).mR (gV.key (t:=[105,110]) (by decide)) (by simp)).mR b2 b3
   simpa using this
  | call h =>
   simp only[p9] at hnm;rw[aP (by decide),bq trivial,qM,Bool.or_eq_true,uK] at hnm;simp only[kJ];simp only[aP,bq,show ¬ (24:Int)=1 by decide,show ¬ (24:Int)=2 by decide,show ¬ (24:Int)=3 by decide,show ¬ (24:Int)=4 by decide,show ¬ (24:Int)=5 by decide,show ¬ (24:Int)=6 by decide,show ¬ (24:Int)=21 by decide,show ¬ (24:Int)=22 by decide,show ¬ (24:Int)=23 by decide,not_false_eq_true];rw[hm];intro r hr
   have h1:NY ([eU e.name,qR [40]]++(sF (ks.map PZ.uJ)++[qR [41]])) r:=by
    refine jF.2 ⟨?_,hcm.close [41] (by decide) (by decide) r⟩;have:=(gV.word (wu (qc hnm.1)).2).close [40] (by decide) (by decide);exact this _
   split
   ·exact h1
   ·rename_i hmd
    refine jF.2 ⟨?_,h1⟩;have:=(gV.word (wu (qc (hnm.2.resolve_left hmd))).2).close [46] (by decide) (by decide);exact this _
open Go.RowKit Go
variable{w:World}{ae:Option Addr}{B:Nat}{e:PZ}{ks:List PZ}{kv:Value}
theorem abU {T:TypeId}(B b:Nat)(acc:aH)(w:World)(h:kW B b acc w T)(h0:acc≠[]) :
  Calls Tryz.prog 72 #[.pointer (some ⟨b,0,none⟩)] w λe w'=>e=.returned (.string ⟨acc.toArray⟩)/\Below B w w':=by
 obtain⟨p,hB,v,hbk,hown,hne⟩:=h.at
 have hl0:acc.length≠0:=by simpa using h0
 rw[Lib.byteCells_length] at hown
 obtain⟨g,cap,cur,fz,rfl,hbg,hg,hfz,hnc,hcm,hcs,htake⟩:∃ g cap cur fz,v=.slice (some ⟨g,0,none⟩) acc.length cap/\B<=g/\w.heap[g]?=some (.cells cur 5 fz)/\fz.2<=acc.length * 1/\acc.length<=cap/\cap<=maxLen/\cur.size=cap * 1/\cur.toList.take (acc.length * 1)=Lib.byteCells acc:=by
  rcases hown.2 with ⟨_,hz⟩|⟨g,cap,cur,fz,hv,r⟩
  ·exact absurd hz hl0
  ·exact⟨g,cap,cur,fz,hv,r⟩
 have c1:w.drew.cell? ⟨b,1,none⟩=some (.slice (some ⟨g,0,none⟩) acc.length cap):=by
  have:w.drew.heap[b]?=some (.cells #[p,.slice (some ⟨g,0,none⟩) acc.length cap] T (0,0)):=hbk;rw[bg this];rfl
 have hSD:(Builtin.unsafeSliceData_ #[147] 215 #[.slice (some ⟨g,0,none⟩) acc.length cap]).run Tryz.prog w.drew=.ok (.pointer (some ⟨g,0,none⟩)) w.drew :=
  Lib.run_unsafeSliceData_row _ _ _ _ _ _ (by omega)
 have hUS:(Builtin.unsafeString_ #[215,3] 9 #[.pointer (some ⟨g,0,none⟩),.int .i64 acc.length]).run Tryz.prog w.drew=.ok (.string ⟨acc.toArray⟩) (w.drew.freeze ⟨g,0,none⟩ acc.length):=by
  refine Lib.run_unsafeString_row w.drew 215 3 9 5 (by kernel_rfl) (by kernel_rfl) g cur.size (by have hg':w.drew.heap[g]?=some (.cells cur 5 fz):=hg;simp[World.shape?,hg']) acc h0 (by omega) (by unfold maxLen at hcm;omega) ?_;intro j x hx;exact hown.cells (g:=g) rfl j (.int .u8 x.toNat) (by simp[Lib.byteCells,hx])
 clear h hne hown hbk htake hcs hcm hfz hg
 have mixed:Tryz.prog.follows .mixedOrders=true:=by kernel_rfl
 go_enter Tryz.func72,Tryz.ntmps72;go_wp2
 go_region_o
 all_goals (go_wp2;go_ret;exact⟨rfl,Lib.below_freeze (Below.drew (bY B w)) (p:=⟨g,0,none⟩) hbg _⟩)
structure InZ (e:PZ) (B:Nat) (am:Option Addr) (wn cm:Nat) (ae:Option Addr) (ce:Nat) (w:World):Prop where
 at_:nD YA (λk=>k<B) w (.slice am wn cm) (.slice ae e.aA.length ce) e
 hB:B<=w.heap.size
 fit:e.fit
theorem InZ.below {am:Option Addr}{wn cm:Nat}{ce:Nat}{w':World}(h:InZ e B am wn cm ae ce w)(hb:Below w.heap.size w w'):InZ e B am wn cm ae ce w':=⟨h.at_.frame (bA.of hb),iY h.hB hb.size,h.fit⟩
theorem Vt {fm:Bool}(h:e.right fm=true):e.text≠[]:=by
 obtain⟨h1,h2⟩:=PZ.bytes (SizeOf.sizeOf e+1) e (by omega) h;have hok:=PZ.aeD (SizeOf.sizeOf e+1) e (by omega) h [] (by intro c hc;cases hc)
 cases hp:e.uJ with
 | nil=>exact absurd hp h2
 | cons p l =>
  rw[hp] at hok h1;have:=(KS (r:=aX l++[]) hok.1 hok.2.1).2.2.1;rw[<- h1,aX];intro q;have:=congrArg List.length q;simp only[bQ,iF] at this;omega
def lU (base:Int)(ks:List PZ):Bool:=(decide (base=1) || decide (base=2)) && (decide (ks.length<=1) && jO true ks)
def wQ (base:Int):aH:=if base=2 then [98,111,111,108] else [105,110,116]
def gW:List PZ->aH
 | []=>[]
 | e :: l=>[32,123]++e.text++[125]++gW l
def lV (base:Int)(ks:List PZ):aH:=wQ base++gW ks
theorem sH:∀ a b:List PZ,gW (a++b)=gW a++gW b
 | [],b=>rfl
 | e :: a,b=>by rw[kF,gW,gW,sH a b];simp
theorem Na {k:Nat}(h:k<ks.length):gW (ks.take (k+1))=gW (ks.take k)++([32,123]++ks[k].text++[125]):=by
 rw[EF h,sH];simp[gW]
theorem TQ (ks:List PZ)(k:Nat):(gW (ks.take k)).length<=(gW ks).length:=by
 conv=>rhs;rw[<- List.take_append_drop k ks,sH,bQ]
 omega
theorem lS.below {W:World}(h:lS B w ae ks)(hW:Below w.heap.size w W):lS B W ae ks:=λh0=>by
 obtain⟨b,off,q1,q2,q3,q4⟩:=h h0;refine⟨b,off,q1,q2,zI q3 hW.size,λi hi=>?_⟩;obtain⟨NZ,wn',N7,M0,M4,q5,q6⟩:=q4 i hi;exact⟨NZ,wn',N7,M0,M4,q5.frame (bA.of hW),λj u hu=>(hW.cell (p:=⟨b,off+i * 8+j,none⟩) q3).trans (q6 j u hu)⟩
theorem Lh {zs:List PZ}(h:RowK (ZK YA) (λb=>b<B) w kv zs):∃ ao cap,kv=.slice ao zs.length cap/\lS B w ao zs:=by
 obtain⟨ao,cap,hv,_,hf⟩:=h.form;refine⟨ao,cap,hv,λh0=>?_⟩;obtain⟨b,off,h1,h2,h3,h4⟩:=hf h0;refine⟨b,off,h1,h2,h3,λi hi=>?_⟩;obtain⟨x,h5,h6⟩:=h4 i hi;have h5':nD YA (λb=>b<B) w x.1 x.2 zs[i]:=h5;obtain⟨am,wn,cm,ak,ck,e1,e2⟩:=h5'.Xt;refine⟨am,wn,cm,ak,ck,by rw[<- e1,<- e2];exact h5',λj u hu=>h6 j u ?_⟩;show (YA.cells zs[i] x.1 x.2)[j]?=some u;rw[e1,e2];exact hu
theorem Qi (x:PZ)(hf:x.fit)(B:Nat)(w:World)(hB:B<=w.heap.size):adP 121 #[] (λx=>!x.right true) B w x:=by
 intro W am wn cm ak ck hW hE;have hs:=hW.size;have hz:=(PZ.ru hf).2.2.2.1;have hbx:=aB W (.cells (aT x.op ⟨x.name.toArray⟩ ⟨x.module.toArray⟩ (decide (x.num<0)) (.slice am wn cm) x.yes (.slice ak x.aA.length ck) x.at_) 64);have HX:=ay (Aj true _ x (Nat.lt_succ_self _) hf B am wn cm ak ck (W.alloc (.cells (aT x.op ⟨x.name.toArray⟩ ⟨x.module.toArray⟩ (decide (x.num<0)) (.slice am wn cm) x.yes (.slice ak x.aA.length ck) x.at_) 64)) (hE.frame (bA.of hbx)) (by simp;omega) (by omega));have hN:=aZ W (.cells (aT x.op ⟨x.name.toArray⟩ ⟨x.module.toArray⟩ (decide (x.num<0)) (.slice am wn cm) x.yes (.slice ak x.aA.length ck) x.at_) 64)
 show Calls _ _ #[_] _ λr w'=>r=.returned (.bool (!x.right true))/\Below W.heap.size W w'
 generalize x.right true=rb at *;clear hE hz hf;go_enter Tryz.func121,Tryz.ntmps121
 go_upto_region 1 with fail
 change Code.wp _ _ _ _ (W.alloc (.cells (aT x.op ⟨x.name.toArray⟩ ⟨x.module.toArray⟩ (decide (x.num<0)) (.slice am wn cm) x.yes (.slice ak x.aA.length ck) x.at_) 64));generalize W.alloc _=w0 at hbx hN HX |-;obtain⟨y0,y1,y2,y3,y4,y5,y6,y7⟩:=aL hN;go_wp2_with (go_at_call 122;refine HX.out.mono ?_;rintro r w1 ⟨rfl,hb1⟩);go_ret;exact⟨rfl,hbx.trans (hb1.mono hbx.size)⟩
theorem Ep (base:Int)(B:Nat)(ae:Option Addr)(ce:Nat)(ks:List PZ)(w:World)(hk:lS B w ae ks)(hB:B<=w.heap.size)(hn:ks.length<=1099511627776)(hf:∀ x∈ks,x.fit) :
  Calls Tryz.prog 70 #[.int .i64 base,.slice ae ks.length ce] w λr w'=>r=.returned (.bool (lU base ks))/\Below w.heap.size w w':=by
 have HC:=ay (λW (hW:Below w.heap.size w W)=>zD 121 #[] (λx=>!x.right true) (enters_of Tryz.func121 (by kernel_rfl) rfl) B ae ce ks W (hk.below hW) (iY hB hW.size) hn λx hx=>Qi x (hf x hx) B W (iY hB hW.size))
 have hdef:lU base ks=((decide (base=1) || decide (base=2)) && (decide (ks.length<=1) && !(ks.any λx=>!x.right true))):=by rw[lU,Ai]
 rw[hdef];clear hdef hk hf;generalize (ks.any λx=>!x.right true)=an at *;generalize ks.length=n at *
 by_cases h1:n<=1
 ·have h1I:(n:Int)<=1:=by omega
  rw[kS h1,Bool.true_and];clear h1
  by_cases hb1:base=1
  ·subst hb1
   rw[kS rfl,Bool.true_or,Bool.true_and];go_enter Tryz.func70,Tryz.ntmps70;go_wp2_with (go_at_call 90;refine(HC.out _ (bY _ _)).mono ?_;rintro r w5 ⟨rfl,hb5⟩);go_ret;exact⟨rfl,hb5⟩
  ·have ht1:(base == 1)=false:=Fa.2 hb1
   by_cases hb2:base=2
   ·subst hb2
    rw[fu (by decide),kS rfl,Bool.false_or,Bool.true_and];clear hb1;go_enter Tryz.func70,Tryz.ntmps70;go_wp2_with (go_at_call 90;refine(HC.out _ (bY _ _)).mono ?_;rintro r w5 ⟨rfl,hb5⟩);go_ret;exact⟨rfl,hb5⟩
   ·have ht2:(base == 2)=false:=Fa.2 hb2
    rw[fu hb1,fu hb2,Bool.false_or,Bool.false_and];clear hb1 hb2 HC;go_enter Tryz.func70,Tryz.ntmps70;go_wp2;go_ret;exact⟨rfl,bY _ _⟩
 ·have h1I:(1:Int)<(n:Int):=by omega
  rw[fu h1,Bool.false_and,Bool.and_false];clear h1 HC
  by_cases hb1:base=1
  ·subst hb1
   go_enter Tryz.func70,Tryz.ntmps70;go_wp2;go_ret;exact⟨rfl,bY _ _⟩
  ·have ht1:(base == 1)=false:=Fa.2 hb1
   by_cases hb2:base=2
   ·subst hb2
    clear hb1;go_enter Tryz.func70,Tryz.ntmps70;go_wp2;go_ret;exact⟨rfl,bY _ _⟩
   ·have ht2:(base == 2)=false:=Fa.2 hb2
    clear hb1 hb2;go_enter Tryz.func70,Tryz.ntmps70;go_wp2;go_ret;exact⟨rfl,bY _ _⟩
theorem Qj (w:World):(Instr.index 213 (.agg #[.string ⟨#[]⟩,.string ⟨#[105,110,116]⟩,.string ⟨#[98,111,111,108]⟩]) (.int .i64 1)).run Tryz.prog w=.ok (.string ⟨#[105,110,116]⟩) w:=by kernel_rfl
theorem Qk (w:World):(Instr.index 213 (.agg #[.string ⟨#[]⟩,.string ⟨#[105,110,116]⟩,.string ⟨#[98,111,111,108]⟩]) (.int .i64 2)).run Tryz.prog w=.ok (.string ⟨#[98,111,111,108]⟩) w:=by kernel_rfl
theorem TR {base:Int}(h:base=1\/base=2):∀ w:World,(Instr.index 213 (.agg #[.string ⟨#[]⟩,.string ⟨#[105,110,116]⟩,.string ⟨#[98,111,111,108]⟩]) (.int .i64 base)).run Tryz.prog w=.ok (.string ⟨(wQ base).toArray⟩) w:=by
 rcases h with rfl|rfl
 ·exact Qj
 ·exact Qk
theorem H7 (base:Int)(hbase:base=1\/base=2)(ks:List PZ)(B B' b:Nat)(ae:Option Addr)(ce:Nat)(acc:aH)(w:World)(hk:∀ x∈ks,TI x)(h:lS B w ae ks)(nS:B<=B')(hbd:kW B' b acc w 151)(hB:B'<=w.heap.size)(hn:acc.length+(lV base ks).length<=1099511627776)(hkl:ks.length<=1000000) :
  Calls Tryz.prog 71 #[.pointer (some ⟨b,0,none⟩),.int .i64 base,.slice ae ks.length ce] w (bW B' b (acc++lV base ks) w):=by
 have HH:=ay h;have HK:=ay hk;have hix:=TR hbase;have hw1:=ay (dV ⟨(wQ base).toArray⟩ B' b acc w hbd hB (by rw[lV,bQ] at hn;show acc.length+(wQ base).toArray.size<=_;simp only[List.size_toArray];omega))
 have hn2:(acc++wQ base).length+(gW ks).length<=1099511627776:=by rw[lV,bQ] at hn;rw[bQ];omega
 have hfin:acc++lV base ks=(acc++wQ base)++gW ks:=by rw[lV,om]
 rw[hfin];clear hfin hn h hk hbase;have hbs:(ByteArray.mk (wQ base).toArray).data.toList=wQ base:=rfl;rw[hbs] at hw1;clear hbs;have Vq:=ay hbd;clear hbd;generalize ByteArray.mk (wQ base).toArray=BS at hix hw1;generalize acc++wQ base=XL at *;go_enter Tryz.func71,Tryz.ntmps71
 go_upto_region 1 with (go_at_call 123;refine hw1.out.mono ?_;rintro r w1 h1;obtain rfl:=h1.eq)
 have hs1:=(iP.start Vq.out).write h1;have H1:=ay h1;have Jz:=ay (iP.start hs1.mH);have hz1:=hs1.lT.size;clear hs1 h1 hix hw1;go_wp2
 go_loopw [16] (λq wr=>∃ k:Nat,k<=ks.length/\q=.int .i64 k/\iP w1 B' b (XL++gW (ks.take k)) wr) (λq _=>ks.length - (intOf q).toNat)
 case atStart=>exact⟨0,mD _,rfl,by simpa [gW] using Jz.out⟩
 case round =>
  obtain⟨k,hkk,rfl,st⟩:=hrel;have hz:=st.lT.size
  by_cases hlt:k<ks.length
  ·have hsn:=Na hlt
   have hle:=TQ ks (k+1);rw[hsn] at hle;have HD:=ay (HK.out _ (oQ hlt));obtain⟨kb,off,rC,rD,rE,N8,ck1,rfl,hkB,hE,x0,x1,x2,x3,x4,x5,x6,x7⟩:=HH.out.at ((H1.out.2.2.1.trans st.lT).mono nS) hlt;have tZ:=ay hsn;have HST:=ay st;clear hsn st;generalize gW (ks.take k)=c at hle tZ HST;generalize ks[k]=x at *
   have qF:(k:Int)<(ks.length:Int):=by omega
   simp only[bQ,dN,iF] at hle
   have hl1:(XL++c).length+2<=1099511627776:=by rw[bQ];omega
   have hl2:(XL++c++[32,123]).length+x.text.length+1<=1099511627776:=by simp only[bQ,dN,iF];omega
   have hal:=aB wr (.cells (aT x.op ⟨x.name.toArray⟩ ⟨x.module.toArray⟩ (decide (x.num<0)) (.slice rC rD rE) x.yes (.slice N8 x.aA.length ck1) x.at_) 64);have hN:=aZ wr (.cells (aT x.op ⟨x.name.toArray⟩ ⟨x.module.toArray⟩ (decide (x.num<0)) (.slice rC rD rE) x.yes (.slice N8 x.aA.length ck1) x.at_) 64);have s1:=HST.out.below hal (by omega);have hE1:=hE.frame (bA.uD (hal.mono (by omega:B'<=wr.heap.size)) (λb hb=>by omega:∀ b,b<B->b<B'));clear hle hE
   go_upto_region 4 with fail
   change Code.wp _ _ _ _ (wr.alloc (.cells (aT x.op ⟨x.name.toArray⟩ ⟨x.module.toArray⟩ (decide (x.num<0)) (.slice rC rD rE) x.yes (.slice N8 x.aA.length ck1) x.at_) 64));clear x0 x1 x2 x3 x4 x5 x6 x7;generalize wr.alloc _=w2 at hal hN s1 hE1 |-;have hz2:=hal.size
   go_upto_region 5 with (go_at_call 123;refine(dV ⟨#[32,123]⟩ B' b (XL++c) w2 s1.mH (by omega) hl1).mono ?_;rintro r w3 h3;obtain rfl:=h3.eq)
   have s3:=s1.write h3;have hz3:=s3.lT.size;have hN3:=s1.mH.block h3.2.2.2 hN (by decide) (by decide);obtain⟨y0,y1,y2,y3,y4,y5,y6,y7⟩:=aL hN3;have hlx:=h3.2.2.1.size;have HX:=ay (HD.out B B' b rC rD rE N8 ck1 (XL++c++[32,123]) w3 (hE1.frame (bA.uD h3.2.2.1 λb hb=>by omega)) nS s3.mH (by omega) (by omega));have J4:=ay s3;clear HST HD hal hN hN3 s1 hE1 s3 h3
   go_upto_region 6 with (go_at_call 124;refine HX.out.mono ?_;rintro r w4 h4;obtain rfl:=h4.eq)
   have s4:=J4.out.write h4;have D7:=s4.lT.size;have TS:=ay s4;have HW4:=ay (dV ⟨#[125]⟩ B' b (XL++c++[32,123]++x.text) w4 s4.mH (by omega) (by rw[bQ];show _+1<=_;omega));clear HX J4 s4 h4 y0 y1 y2 y3 y4 y5 y6 y7;go_wp2_with (go_at_call 123;refine HW4.out.mono ?_;rintro r w5 h5;obtain rfl:=h5.eq);refine⟨⟨k+1,by omega,by go_num,?_⟩,by simp[intOf];omega⟩;have:=TS.out.write h5;rw[tZ.out]
   simpa [om] using this
  ·obtain rfl:k=ks.length:=by omega
   have qF:decide ((ks.length:Int)<(ks.length:Int))=false:=fu (by omega);rw[Fe] at st;have HST:=ay st;clear st;go_wp2
   go_end0
   exact⟨rfl,HST.out.mH,H1.out.2.2.1.trans HST.out.lT,H1.out.2.2.2.trans HST.out.kept⟩
structure ZF where
 name:aH
 base:Int
 aC:List PZ
 at_:Int
 bare:Int
structure ZD where
 pub:Bool
 params:List ZF
 res:ZF
 body:PZ
structure ZP where
 aG:List (aH × Int)
 defs:List ZD
def ZF.right (f:ZF):Bool:=bZ f.name && lU f.base f.aC
def ZD.sound (d:ZD):Bool:=bZ d.res.name && (decide (d.params.length<=8) && (!(d.params.any λf=>!f.right) && (lU d.res.base d.res.aC && d.body.right false)))
def ZF.text (f:ZF):aH:=f.name++[58,32]++lV f.base f.aC
def ZD.text (d:ZD):aH:=(if d.pub=true then [112,117,98,32] else [])++([102,117,110,32]++d.res.name++[40])++bR (d.params.map ZF.text)++[41,58,32]++lV d.res.base d.res.aC++[32,61,32]++d.body.text++[59,10]
def uG (m:aH × Int):aH:=[105,109,112,111,114,116,32]++m.1++[59,10]
def ZP.right (p:ZP):Bool:=decide (p.aG.length<=16) && (decide (p.defs.length<=64) && (p.aG.all (λm=>bZ m.1) && p.defs.all ZD.sound))
def ZP.text (p:ZP):aH:=p.aG.flatMap uG++p.defs.flatMap ZD.text
def ZF.fit (f:ZF):Prop:=f.name.length<=65536/\f.aC.length<=1000000/\∀ e∈f.aC,e.fit
def ZD.fit (d:ZD):Prop:=d.params.length<=1000000/\(∀ f∈d.params,f.fit)/\d.res.fit/\d.body.fit
def ZP.fit (p:ZP):Prop:=p.aG.length<=1000000/\(∀ m∈p.aG,m.1.length<=65536)/\p.defs.length<=1000000/\∀ d∈p.defs,d.fit
def ZFK:RK ZF Value where
 sz:=5
 cells f cv:=[dX f.name,.int .i64 f.base,cv,.int .i64 f.at_,.int .i64 f.bare]
 inn P w f cv:=RowK (ZK YA) P w cv f.aC
 len _ _:=rfl
 frame h ha:=h.frame ha
 imp h hq:=h.imp hq
def Vu:RK ZD DV where
 sz:=15
 cells d x:=[.bool d.pub,dX d.res.name,x.pv,.int .i64 d.res.base,x.cv,.int .i64 d.body.op,dX d.body.name,dX d.body.module,.bool (decide (d.body.num<0)),x.m,.bool d.body.yes,x.k,.int .i64 d.body.at_,.int .i64 d.res.at_,.int .i64 d.res.bare]
 inn P w d x:=RowK ZFK P w x.pv d.params/\RowK (ZK YA) P w x.cv d.res.aC/\nD YA P w x.m x.k d.body
 len _ _:=rfl
 frame h ha:=⟨h.1.frame ha,h.2.1.frame ha,h.2.2.frame ha⟩
 imp h hq:=⟨h.1.imp hq,h.2.1.imp hq,h.2.2.imp hq⟩
def Er (B:Nat)(w:World)(ae:Option Addr)(fs:List ZF):Prop:=0<fs.length->∃ b off,ae=some ⟨b,off,none⟩/\b<B/\b<w.heap.size/\∀ i,(hi:i<fs.length)->∃ ac cc,lS B w ac fs[i].aC/\w.cell? ⟨b,off+i * 5,none⟩=some (.string ⟨fs[i].name.toArray⟩)/\w.cell? ⟨b,off+i * 5+1,none⟩=some (.int .i64 fs[i].base)/\w.cell? ⟨b,off+i * 5+2,none⟩=some (.slice ac fs[i].aC.length cc)/\w.cell? ⟨b,off+i * 5+3,none⟩=some (.int .i64 fs[i].at_)/\w.cell? ⟨b,off+i * 5+4,none⟩=some (.int .i64 fs[i].bare)
theorem XM {zs:List ZF}(h:RowK ZFK (λb=>b<B) w kv zs):∃ ao cap,kv=.slice ao zs.length cap/\Er B w ao zs:=by
 obtain⟨ao,cap,hv,_,hf⟩:=h.form;refine⟨ao,cap,hv,λh0=>?_⟩;obtain⟨b,off,h1,h2,h3,h4⟩:=hf h0;refine⟨b,off,h1,h2,h3,λi hi=>?_⟩;obtain⟨x,h5,h6⟩:=h4 i hi;obtain⟨ac,cc,rfl,hk⟩:=Lh h5;exact⟨ac,cc,hk,h6 0 _ rfl,h6 1 _ rfl,h6 2 _ rfl,h6 3 _ rfl,h6 4 _ rfl⟩
theorem lS.uD {B:Nat}{w W:World}{ae:Option Addr}{ks:List PZ}(h:lS B w ae ks)(hW:Below B w W):lS B W ae ks:=λh0=>by
 obtain⟨b,off,q1,q2,q3,q4⟩:=h h0;refine⟨b,off,q1,q2,zI q3 hW.size,λi hi=>?_⟩;obtain⟨NZ,wn',N7,M0,M4,q5,q6⟩:=q4 i hi;exact⟨NZ,wn',N7,M0,M4,q5.frame (bA.uD hW λb hb=>hb),λj u hu=>(hW.cell (p:=⟨b,off+i * 8+j,none⟩) q2).trans (q6 j u hu)⟩
theorem Er.uD {B:Nat}{w W:World}{ae:Option Addr}{ks:List ZF}(h:Er B w ae ks)(hW:Below B w W):Er B W ae ks:=λh0=>by
 obtain⟨b,off,q1,q2,q3,q4⟩:=h h0;refine⟨b,off,q1,q2,zI q3 hW.size,λi hi=>?_⟩;obtain⟨ac,cc,q5,c0,c1,c2,c3,c4⟩:=q4 i hi;exact⟨ac,cc,q5.uD hW,(hW.cell (p:=⟨b,off+i * 5,none⟩) q2).trans c0,(hW.cell (p:=⟨b,off+i * 5+1,none⟩) q2).trans c1,(hW.cell (p:=⟨b,off+i * 5+2,none⟩) q2).trans c2,(hW.cell (p:=⟨b,off+i * 5+3,none⟩) q2).trans c3,(hW.cell (p:=⟨b,off+i * 5+4,none⟩) q2).trans c4⟩
theorem dL {b:Nat}{c0 c1 c2 c3 c4:Value}(h:w.heap[b]?=some (.cells #[c0,c1,c2,c3,c4] 68 (0,0))):w.cell? ⟨b,0,none⟩=some c0/\w.cell? ⟨b,1,none⟩=some c1/\w.cell? ⟨b,2,none⟩=some c2/\w.cell? ⟨b,3,none⟩=some c3/\w.cell? ⟨b,4,none⟩=some c4:=by
 refine⟨?_,?_,?_,?_,?_⟩<;>(rw[bg h];rfl)
def afx (f:FuncId)(lb:Array Value)(p:ZF->Bool)(B:Nat)(w:World)(x:ZF):Prop:=∀ (W:World) (ac:Option Addr) (cc:Nat),Below w.heap.size w W->lS B W ac x.aC ->
 Calls Tryz.prog f (#[.agg #[.string ⟨x.name.toArray⟩,.int .i64 x.base,.slice ac x.aC.length cc,.int .i64 x.at_,.int .i64 x.bare]]++lb) W λr w'=>r=.returned (.bool (p x))/\Below W.heap.size W w'
def Dh (p:ZF->Bool):List ZF->Nat->Int
 | [],_=>-1
 | x :: l,k=>if p x=true then k else Dh p l (k+1)
theorem Ql (p:ZF->Bool):∀ (l:List ZF) (k:Nat),decide (0<=Dh p l k)=l.any p
 | [],k=>rfl
 | x :: l,k=>by
  rw[Dh,List.any_cons]
  split
  ·rename_i h;rw[h];exact kS (by omega)
  ·rename_i h;rw[wT] at h;rw[h,Ql p l];rfl
theorem Vv {p:ZF->Bool}:∀ {ks:List ZF} {k:Nat} (j:Nat) (h:k<ks.length),(∀ i,i<k->(hi:i<ks.length)->p ks[i]=false)->Dh p ks j=if p ks[k]=true then ((j+k:Nat):Int) else Dh p (ks.drop (k+1)) (j+k+1)
 | x :: l,0,j,h,_=>by simp[Dh]
 | x :: l,k+1,j,h,hf=>by
  have h0:=hf 0 (by omega) (by simp)
  have ih:=Vv (p:=p) (ks:=l) (k:=k) (j+1) (by simpa using h) λi hi hl=>by have:=hf (i+1) (by omega) (by simpa using hl);simpa using this
  rw[Dh,aP (by simpa using h0),ih];simp only[JG,List.drop_succ_cons];rw[show j+1+k=j+(k+1) by omega]
theorem Vw {p:ZF->Bool}:∀ {ks:List ZF} (j:Nat),(∀ i,(hi:i<ks.length)->p ks[i]=false)->Dh p ks j=-1
 | [],_,_=>rfl
 | x :: l,j,hf=>by
  have h0:=hf 0 (by simp);rw[Dh,aP (by simpa using h0)]
  exact Vw (j+1) λi hi=>by have:=hf (i+1) (by simpa using hi);simpa using this
theorem TT (f:FuncId)(lb:Array Value)(p:ZF->Bool)(eg:∀ args w,(callFunc f args).run Tryz.prog w=.ok (.enter f args) w)(B:Nat)(ae:Option Addr)(ce:Nat)(ks:List ZF)(w:World)(hk:Er B w ae ks)(hB:B<=w.heap.size)(hn:ks.length<=1099511627776)(ha:∀ x∈ks,afx f lb p B w x) :
  Calls Tryz.prog 257 #[.slice ae ks.length ce,.func (.func f) #[] lb] w λr w'=>r=.returned (.int .i64 (Dh p ks 0))/\Below w.heap.size w w':=by
 have HK:=ay hk;have HA:=ay ha;clear hk ha;go_enter Tryz.func257,Tryz.ntmps257;go_wp2
 go_loopw [5,8] (λ_ q wr=>∃ k:Nat,k<=ks.length/\q=.int .i64 k/\(∀ i,i<k->(hi:i<ks.length)->p ks[i]=false)/\Below w.heap.size w wr) (λ_ q _=>ks.length - (intOf q).toNat)
 case atStart=>exact⟨0,mD _,rfl,λi hi=>absurd hi (by omega),bY _ _⟩
 case round =>
  obtain⟨k,hkl,rfl,hno,hbl⟩:=hrel;have hw:=hbl.size;have HN:=ay hno;clear hno
  by_cases hlt:k<ks.length
  ·obtain⟨b,off,rfl,Vb,hbw,kK⟩:=HK.out.uD (hbl.mono hB) (by omega)
   obtain⟨ac,cc,hE,y0,y1,y2,y3,y4⟩:=kK k hlt;have hA:=HA.out _ (oQ hlt) wr ac cc hbl hE;have hix:=Vv (p:=p) 0 hlt HN.out
   have hnx:p ks[k]=false->∀ i,i<k+1->(hi:i<ks.length)->p ks[i]=false:=λq i hi hl=>by
    by_cases e:i=k
    ·subst e;exact q
    ·exact HN.out i (by omega) hl
   have HX:=ay hix;have ER:=ay hnx;clear kK hE hix hnx;generalize ks[k]=x at y0 y1 y2 y3 y4 hA HX ER
   have qF:(k:Int)<(ks.length:Int):=by omega
   cases hq:p x with
   | true =>
    rw[hq] at hA;have Lc:Hid (Dh p ks 0=(k:Int)):=ay (by rw[HX.out,bq hq,Nat.zero_add]);have HAA:=ay hA;clear hA hq HX ER;go_wp2_with (go_at_fn f;refine HAA.out.mono ?_;rintro r w2 ⟨rfl,hb2⟩);go_ret;exact⟨AO (by rw[Lc.out]),hbl.trans (hb2.mono hw)⟩
   | false =>
    rw[hq] at hA;have aft:=ay (ER.out hq);have HAA:=ay hA;clear hA hq HX ER;go_wp2_with (go_at_fn f;refine HAA.out.mono ?_;rintro r w2 ⟨rfl,hb2⟩);exact⟨⟨k+1,by omega,by go_num,aft.out,hbl.trans (hb2.mono hw)⟩,by simp[intOf];omega⟩
  ·obtain rfl:k=ks.length:=by omega
   have qF:decide ((ks.length:Int)<(ks.length:Int))=false:=fu (by omega);have Lc:Hid (Dh p ks 0=-1):=ay (Vw 0 λi hi=>HN.out i hi hi);clear HN;go_wp2;go_ret;exact⟨AO (by rw[Lc.out]),hbl⟩
theorem J5 (f:FuncId)(lb:Array Value)(p:ZF->Bool)(eg:∀ args w,(callFunc f args).run Tryz.prog w=.ok (.enter f args) w)(B:Nat)(ae:Option Addr)(ce:Nat)(ks:List ZF)(w:World)(hk:Er B w ae ks)(hB:B<=w.heap.size)(hn:ks.length<=1099511627776)(ha:∀ x∈ks,afx f lb p B w x) :
  Calls Tryz.prog 209 #[.slice ae ks.length ce,.func (.func f) #[] lb] w λr w'=>r=.returned (.bool (ks.any p))/\Below w.heap.size w w':=by
 have HI:=ay (TT f lb p eg B ae ce ks w hk hB hn ha);have HY:=ay (Ql p ks 0);clear hk ha hn hB eg;generalize Dh p ks 0=i at *;go_enter Tryz.func209,Tryz.ntmps209;go_wp2_with (go_at_call 257;refine HI.out.mono ?_;rintro r w2 ⟨rfl,hb2⟩);go_ret;exact⟨bF (by rw[<- HY.out]),hb2⟩
theorem TU (x:ZF)(hf:x.fit)(B:Nat)(w:World)(hB:B<=w.heap.size):afx 208 #[] (λx=>!x.right) B w x:=by
 intro W ac cc hW hE;have hs:=hW.size;have hbx:=aB W (.cells #[.string ⟨x.name.toArray⟩,.int .i64 x.base,.slice ac x.aC.length cc,.int .i64 x.at_,.int .i64 x.bare] 68);have hN:=aZ W (.cells #[.string ⟨x.name.toArray⟩,.int .i64 x.base,.slice ac x.aC.length cc,.int .i64 x.at_,.int .i64 x.bare] 68);have HP:=ay (λV=>nC ⟨x.name.toArray⟩ V (by have:=hf.1;show x.name.toArray.size<=_;simp;omega));have HC:=ay (λV (hV:Below W.heap.size W V)=>Ep x.base B ac cc x.aC V (hE.below hV) (by have:=hV.size;omega) (by have:=hf.2.1;omega) hf.2.2)
 have hdef:(!x.right)=(!bZ x.name || !lU x.base x.aC):=by rw[ZF.right,Bool.not_and]
 show Calls _ _ #[_] _ λr w'=>r=.returned (.bool (!x.right))/\Below W.heap.size W w'
 rw[hdef];have eN:(ByteArray.mk x.name.toArray).data.toList=x.name:=rfl;rw[eN] at HP;generalize bZ x.name=pl at *;generalize lU x.base x.aC=cl at *;clear hE hf hdef eN;go_enter Tryz.func208,Tryz.ntmps208
 go_upto_region 1 with fail
 change Code.wp _ _ _ _ (W.alloc (.cells #[.string ⟨x.name.toArray⟩,.int .i64 x.base,.slice ac x.aC.length cc,.int .i64 x.at_,.int .i64 x.bare] 68));generalize W.alloc _=w0 at hbx hN |-;have hl0:=(bU hN).1;obtain⟨y0,y1,y2,y3,y4⟩:=dL hN
 cases pl with
 | false =>
  clear HC;go_wp2_with (go_at_call 42;refine(HP.out _).mono ?_;rintro r w1 ⟨rfl,hb1⟩);go_ret;exact⟨rfl,hbx.trans (hb1.mono hbx.size)⟩
 | true =>
  go_wp2_with (first|(go_at_call 42;refine(HP.out _).mono ?_;rintro r w1 ⟨rfl,hb1⟩;have pV:=hbx.trans (hb1.mono hbx.size);obtain⟨z0,z1,z2,z3,z4⟩:=dL ((hb1.block _ hl0).trans hN))|(go_at_call 70;refine(HC.out _ pV).mono ?_;rintro r w2 ⟨rfl,hb2⟩));go_ret;exact⟨rfl,pV.trans (hb2.mono pV.size)⟩
variable{k:Nat}{l:List PZ}
abbrev Fl:=Option (Int × Int)
def nG:Fl->Fl->Fl
 | none,b=>b
 | some x,_=>some x
theorem qJ (a:Fl):nG a none=a:=by cases a<;>rfl
theorem vB (a b c:Fl):nG (nG a b) c=nG a (nG b c):=by cases a<;>rfl
structure SE where
 imps:List aH
 arity:aH->Option Nat
 ext:aH->aH->Option Nat
def xZ (o:Option Nat)(n:Nat)(a:Int):Fl:=match o with
 | none=>some (31,a)
 | some k=>if k=n then none else some (32,a)
def H8 (E:SE)(nm md:aH)(n:Nat)(a:Int):Fl :=
 if md=[] then xZ (E.arity nm) n a else if md∈E.imps then xZ (E.ext md nm) n a else some (33,a)
def sI (E:SE)(bd:List aH)(res:Bool)(op:Int)(nm md:aH)(n:Nat)(a:Int):Fl :=
 if (op=3/\nm ∉ bd)\/(op=4/\res=false) then some (31,a) else if op=24 then H8 E nm md n a else none
def Qm (op:Int)(nm:aH)(bd:List aH)(i:Nat):List aH:=if op=22/\i=1 then gB (bd++[nm]) else bd
mutual
def PZ.fB (E:SE)(bd:List aH)(res:Bool):PZ->Fl
 | .mk op nm md _ _ aA a=>nG (sI E bd res op nm md aA.length a) (fF E op nm bd res 0 aA)
def fF (E:SE)(op:Int)(nm:aH)(bd:List aH)(res:Bool):Nat->List PZ->Fl
 | _,[]=>none
 | i,e :: l=>nG (e.fB E (Qm op nm bd i) res) (fF E op nm bd res (i+1) l)
end
theorem PZ.TV (E:SE)(bd:List aH)(res:Bool)(e:PZ):e.fB E bd res=nG (sI E bd res e.op e.name e.module e.aA.length e.at_) (fF E e.op e.name bd res 0 e.aA):=by cases e;rw[PZ.fB];rfl
theorem BM (E:SE)(op:Int)(nm:aH)(bd:List aH)(res:Bool)(e:PZ):∀ (l:List PZ) (i:Nat),fF E op nm bd res i (l++[e])=nG (fF E op nm bd res i l) (e.fB E (Qm op nm bd (i+l.length)) res)
 | [],i=>by rw[qW,fF,fF,fF,qJ];rfl
 | x :: l,i=>by
  rw[kF,fF,fF,BM E op nm bd res e l (i+1),vB,dN,show i+1+l.length=i+(l.length+1) by omega]
theorem Nb (E:SE)(op:Int)(nm:aH)(bd:List aH)(res:Bool)(h:k<l.length) :
  fF E op nm bd res 0 (l.take (k+1))=nG (fF E op nm bd res 0 (l.take k)) (l[k].fB E (Qm op nm bd k) res):=by
 rw[EF h,BM,qX,Nat.min_eq_left (Nat.le_of_lt h),Nat.zero_add]
def dB (E:SE)(bd:List aH)(res:Bool):List PZ->Fl
 | []=>none
 | e :: l=>nG (e.fB E bd res) (dB E bd res l)
theorem zF (E:SE)(bd:List aH)(res:Bool)(e:PZ):∀ l:List PZ,dB E bd res (l++[e])=nG (dB E bd res l) (e.fB E bd res)
 | []=>by rw[qW,dB,dB,dB,qJ];rfl
 | x :: l=>by rw[kF,dB,dB,zF E bd res e l,vB]
theorem J6 (E:SE)(bd:List aH)(res:Bool)(h:k<l.length):dB E bd res (l.take (k+1))=nG (dB E bd res (l.take k)) (l[k].fB E bd res):=by
 rw[EF h,zF]
def mI (E:SE)(s:List aH × Fl):List ZF->List aH × Fl
 | []=>s
 | f :: l=>mI E (gB (s.1++[f.name]),nG (nG s.2 (if f.name∈s.1 then some (30,f.at_) else none)) (dB E (gB (s.1++[f.name])) false f.aC)) l
theorem Es (E:SE)(f:ZF):∀ (l:List ZF) (s:List aH × Fl),mI E s (l++[f])=mI E (mI E s l) [f]
 | [],s=>rfl
 | x :: l,s=>Es E f l _
theorem Qn (E:SE)(s:List aH × Fl){l:List ZF}(h:k<l.length):mI E s (l.take (k+1))=mI E (mI E s (l.take k)) [l[k]]:=by
 rw[EF h,Es]
def BN (E:SE)(f:Fl)(d:ZD):Fl :=
 nG (nG (mI E ([],f) d.params).2 (dB E (mI E ([],f) d.params).1 true d.res.aC)) (d.body.fB E (mI E ([],f) d.params).1 false)
def sJ (E:SE)(f:Fl):List ZD->Fl
 | []=>f
 | d :: l=>sJ E (BN E f d) l
theorem Et (E:SE)(d:ZD):∀ (l:List ZD) (f:Fl),sJ E f (l++[d])=BN E (sJ E f l) d
 | [],f=>rfl
 | x :: l,f=>Et E d l _
theorem Qo (E:SE)(f:Fl){l:List ZD}(h:k<l.length):sJ E f (l.take (k+1))=BN E (sJ E f (l.take k)) l[k]:=by
 rw[EF h,Et]
def Nc (own:aH)(face:aH->Bool)(s:List aH × Fl):List (aH × Int)->List aH × Fl
 | []=>s
 | m :: l=>Nc own face (gB (s.1++[m.1]),nG s.2 (if m.1=own then some (33,m.2) else if m.1∈s.1 then some (30,m.2) else if face m.1=true then none else some (33,m.2))) l
def iT (l:List ZD)(nm:aH):Option Nat:=(l.find? λd=>decide (d.res.name=nm)).map λd=>d.params.length
def jP (f:Fl):List aH->List ZD->Fl
 | _,[]=>f
 | seen,d :: l=>jP (nG f (if d.res.name∈seen then some (30,d.res.at_) else none)) (seen++[d.res.name]) l
theorem BO (d:ZD):∀ (l:List ZD) (f:Fl) (seen:List aH),jP f seen (l++[d])=nG (jP f seen l) (if d.res.name∈seen++l.map (λx=>x.res.name) then some (30,d.res.at_) else none)
 | [],f,seen=>by rw[qW,jP,jP,jP,List.map_nil,List.append_nil]
 | x :: l,f,seen=>by rw[kF,jP,jP,BO d l,mE,om];rfl
theorem Nf (f:Fl){l:List ZD}(h:k<l.length):jP f [] (l.take (k+1))=nG (jP f [] (l.take k)) (if l[k].res.name∈(l.take k).map (λx=>x.res.name) then some (30,l[k].res.at_) else none):=by
 rw[EF h,BO,qW]
def ZP.se (p:ZP)(own:aH)(face:aH->Bool)(ext:aH->aH->Option Nat):SE:=⟨(Nc own face ([],none) p.aG).1,iT p.defs,ext⟩
def ZP.fB (p:ZP)(own:aH)(face:aH->Bool)(ext:aH->aH->Option Nat):Fl :=
 sJ (p.se own face ext) (jP (Nc own face ([],none) p.aG).2 [] p.defs) p.defs
abbrev gX:=aH->Option Int
abbrev rF:=gX->Int->Fl->Int × Fl
def mO (f:Fl)(a b want:Int):Fl:=nG f (if b=want then none else some (34,a))
def kL (g:gX)(res want:Int):Fl->List (Int × rF)->Fl
 | f,[]=>f
 | f,k :: l=>kL g res want (mO (k.2 g res f).2 k.1 (k.2 g res f).1 want) l
def oN (g:gX)(res:Int)(f:Fl)(a b:Int × rF):Int × Fl:=((a.2 g res f).1,mO (b.2 g res (a.2 g res f).2).2 b.1 (b.2 g res (a.2 g res f).2).1 (a.2 g res f).1)
def wX (ks:List (Int × rF))(i:Nat):Int × rF:=ks.getD i (0,λ_ _ f=>(0,f))
def Ak (g:gX)(nm:aH)(b:Int):gX:=λy=>if y=nm then some b else g y
def BP (g:gX)(nm:aH):Int × Fl:=match g nm with
 | some b=>(b,none)
 | none=>(0,some (10,0))
def afy (op:Int)(ks:List (Int × rF))(g:gX)(res:Int)(f:Fl):Int × Fl:=if op=21 then oN g res f (wX ks 1) (wX ks 2) else (wX ks 1).2 g res f
def wz (op:Int)(nm:aH)(ks:List (Int × rF))(g:gX)(res:Int):Int × Fl :=
 if op=1 then (1,none) else if op=2 then (2,none) else if op=3 then BP g nm else if op=4 then (res,none)
 else if op=5\/(7<=op/\op<=11) then (1,kL g res 1 none ks)
 else if 14<=op/\op<=17 then (2,kL g res 1 none ks)
 else if op=12\/op=13 then (2,(oN g res none (wX ks 0) (wX ks 1)).2)
 else if op=6\/(18<=op/\op<=20) then (2,kL g res 2 none ks)
 else if op=22 then (wX ks 1).2 (Ak g nm ((wX ks 0).2 g res none).1) res ((wX ks 0).2 g res none).2
 else afy op ks g res (mO ((wX ks 0).2 g res none).2 (wX ks 0).1 ((wX ks 0).2 g res none).1 2)
def Qp (op:Int)(nm:aH)(ks:List (Int × rF)):rF:=λg res f=>match f with
 | some x=>(0,some x)
 | none=>wz op nm ks g res
mutual
def PZ.ty:PZ->rF
 | .mk op nm _ _ _ aA _=>Qp op nm (TW aA)
def TW:List PZ->List (Int × rF)
 | []=>[]
 | e :: l=>(e.at_,e.ty) :: TW l
end
theorem H9:∀ l:List PZ,TW l=l.map λe=>(e.at_,e.ty)
 | []=>rfl
 | e :: l=>by rw[TW,H9 l];rfl
theorem PZ.afz (e:PZ):e.ty=Qp e.op e.name (e.aA.map λe=>(e.at_,e.ty)):=by cases e;rw[PZ.ty,H9];rfl
theorem Ia (g:gX)(res want:Int)(k:Int × rF):∀ (l:List (Int × rF)) (f:Fl),kL g res want f (l++[k])=mO (k.2 g res (kL g res want f l)).2 k.1 (k.2 g res (kL g res want f l)).1 want
 | [],f=>rfl
 | x :: l,f=>Ia g res want k l _
theorem TY (g:gX)(res want:Int)(f:Fl)(h:k<l.length) :
  kL g res want f ((l.take (k+1)).map λe=>(e.at_,e.ty))=mO (l[k].ty g res (kL g res want f ((l.take k).map λe=>(e.at_,e.ty)))).2 l[k].at_ (l[k].ty g res (kL g res want f ((l.take k).map λe=>(e.at_,e.ty)))).1 want:=by
 rw[EF h,zJ,mE,List.map_nil,Ia]
mutual
def PZ.jY:PZ->Bool
 | .mk op _ _ _ _ aA _=>jZ aA || decide (op=24)
def jZ:List PZ->Bool
 | []=>false
 | e :: l=>e.jY || jZ l
end
theorem PZ.XO (e:PZ):e.jY=(jZ e.aA || decide (e.op=24)):=by cases e;rw[PZ.jY];rfl
theorem Eu (e:PZ):∀ l:List PZ,jZ (l++[e])=(jZ l || e.jY)
 | []=>by simp[jZ]
 | x :: l=>by rw[kF,jZ,jZ,Eu e l,Bool.or_assoc]
theorem Qq (h:k<l.length):jZ (l.take (k+1))=(jZ (l.take k) || l[k].jY):=by
 rw[EF h,Eu]
theorem Ib:∀ {l:List PZ} {e:PZ},e∈l->e.jY=true->jZ l=true
 | x :: l,e,h,he=>by
  rw[jZ,Bool.or_eq_true]
  rcases oo.1 h with rfl|h
  ·exact .inl he
  ·exact .inr (Ib h he)
def ug (g:gX):List ZF->gX
 | []=>g
 | f :: l=>ug (Ak g f.name f.base) l
theorem Ic (g:gX)(f:ZF):∀ l:List ZF,ug g (l++[f])=Ak (ug g l) f.name f.base
 | []=>ug.eq_2 g f []
 | x :: l=>Ic (Ak g x.name x.base) f l
theorem T9 (g:gX){l:List ZF}(h:k<l.length):ug g (l.take (k+1))=Ak (ug g (l.take k)) l[k].name l[k].base:=by
 rw[EF h,Ic]
def Ie (f:Fl)(d:ZD):Fl:=mO (d.body.ty (ug (λ_=>none) d.params) 0 f).2 d.body.at_ (d.body.ty (ug (λ_=>none) d.params) 0 f).1 d.res.base
mutual
def PZ.na:PZ->PZ
 | .mk op nm md num yes aA _=>.mk op nm md num yes (vC aA) 0
def vC:List PZ->List PZ
 | []=>[]
 | e :: l=>e.na :: vC l
end
theorem Ig:∀ l:List PZ,(vC l).length=l.length
 | []=>rfl
 | e :: l=>by rw[vC,dN,dN,Ig l]
mutual
theorem PZ.Ih (fm:Bool):∀ e:PZ,e.na.right fm=e.right fm
 | .mk op nm md num yes aA a=>by rw[PZ.na,PZ.right,PZ.right,Li fm aA,Ig]
theorem Li (fm:Bool):∀ l:List PZ,jO fm (vC l)=jO fm l
 | []=>rfl
 | e :: l=>by rw[vC,jO,jO,PZ.Ih fm e,Li fm l]
end
mutual
theorem PZ.Ng:∀ e:PZ,e.na.jY=e.jY
 | .mk op nm md num yes aA a=>by rw[PZ.na,PZ.jY,PZ.jY,Qr aA]
theorem Qr:∀ l:List PZ,jZ (vC l)=jZ l
 | []=>rfl
 | e :: l=>by rw[vC,jZ,jZ,PZ.Ng e,Qr l]
end
theorem lW {a b:Fl}:nG a b=none↔a=none/\b=none:=by cases a<;>simp[nG]
theorem Lj (E:SE)(bd:List aH)(res:Bool)(op:Int)(nm md:aH)(n:Nat)(a b:Int):sI E bd res op nm md n a=none->sI E bd res op nm md n b=none:=by
 have hA:∀ o,xZ o n a=none->xZ o n b=none:=λo h=>by
  unfold xZ at h |-
  split at h
  ·cases h
  ·split at h
   ·rename_i q;simp[q]
   ·cases h
 unfold sI
 split
 ·intro h;cases h
 ·split
  ·unfold H8
   split
   ·exact hA _
   ·split
    ·exact hA _
    ·intro h;cases h
  ·exact id
mutual
theorem PZ.Ii (E:SE)(res:Bool):∀ (e:PZ) (bd:List aH),e.na.fB E bd res=none↔e.fB E bd res=none
 | .mk op nm md num yes aA a,bd=>by
  rw[PZ.na,PZ.fB,PZ.fB,lW,lW,Ll E op nm res aA bd 0,Ig];exact and_congr ⟨Lj _ _ _ _ _ _ _ _ _,Lj _ _ _ _ _ _ _ _ _⟩ Iff.rfl
theorem Ll (E:SE)(op:Int)(nm:aH)(res:Bool):∀ (l:List PZ) (bd:List aH) (i:Nat),fF E op nm bd res i (vC l)=none↔fF E op nm bd res i l=none
 | [],bd,i=>Iff.rfl
 | e :: l,bd,i=>by rw[vC,fF,fF,lW,lW,PZ.Ii E res e,Ll E op nm res l]
end
def Ij (k m:rF):Prop:=∀ (g:gX) (res:Int) (f h:Fl),(f=none↔h=none)->(k g res f).1=(m g res h).1/\((k g res f).2=none↔(m g res h).2=none)
theorem Di {f h:Fl}{a b x y want:Int}(hf:f=none↔h=none)(hx:x=y):mO f a x want=none↔mO h b y want=none:=by
 unfold mO;rw[lW,lW,hf,hx]
 by_cases q:y=want
 ·rw[bq q,bq q]
 ·rw[aP q,aP q];simp
def Ua:List (Int × rF)->List (Int × rF)->Prop
 | [],[]=>True
 | k :: a,m :: b=>Ij k.2 m.2/\Ua a b
 | _,_=>False
theorem Ua.l6:∀ {a b:List (Int × rF)},Ua a b->∀ i,Ij (wX a i).2 (wX b i).2
 | [],[],_,i=>λg res f h q=>⟨rfl,q⟩
 | _ :: _,_ :: _,h,0=>h.1
 | k :: a,m :: b,h,i+1=>by
  have:=Ua.l6 h.2 i;unfold wX at this |-;rw[List.getD_cons_succ,List.getD_cons_succ];exact this
 | [],_ :: _,h,_=>h.elim
 | _ :: _,[],h,_=>h.elim
theorem Lm (g:gX)(res want:Int):∀ {a b:List (Int × rF)},Ua a b->∀ {f h:Fl},(f=none↔h=none)->(kL g res want f a=none↔kL g res want h b=none)
 | [],[],_,_,_,q=>q
 | k :: a,m :: b,s,f,h,q=>Lm g res want s.2 (Di (s.1 g res f h q).2 (s.1 g res f h q).1)
 | [],_ :: _,h,_,_,_=>h.elim
 | _ :: _,[],h,_,_,_=>h.elim
theorem Ik (g:gX)(res:Int){f h:Fl}(q:f=none↔h=none){k m x y:Int × rF}(s1:Ij k.2 x.2)(s2:Ij m.2 y.2):(oN g res f k m).1=(oN g res h x y).1/\((oN g res f k m).2=none↔(oN g res h x y).2=none):=by
 have h1:=s1 g res f h q;have h2:=s2 g res _ _ h1.2;refine⟨h1.1,?_⟩;unfold oN;simp only;rw[h1.1];exact Di h2.2 h2.1
theorem abV (op:Int)(nm:aH){a b:List (Int × rF)}(s:Ua a b):Ij (Qp op nm a) (Qp op nm b):=by
 intro g res f h q
 cases f with
 | some x =>
  cases h with
  | none=>exact absurd (q.2 rfl) (by simp)
  | some y=>exact⟨rfl,by simp[Qp]⟩
 | none =>
  obtain rfl:=q.1 rfl;have k0:=s.l6 0 g res none none Iff.rfl
  have hA:=λwant=>Lm g res want s (f:=none) (h:=none) Iff.rfl
  show (wz op nm a g res).1=(wz op nm b g res).1/\((wz op nm a g res).2=none↔(wz op nm b g res).2=none)
  unfold wz
  split
  ·exact⟨rfl,Iff.rfl⟩
  split
  ·exact⟨rfl,Iff.rfl⟩
  split
  ·exact⟨rfl,Iff.rfl⟩
  split
  ·exact⟨rfl,Iff.rfl⟩
  split
  ·exact⟨rfl,hA 1⟩
  split
  ·exact⟨rfl,hA 1⟩
  split
  ·exact⟨rfl,(Ik g res Iff.rfl (s.l6 0) (s.l6 1)).2⟩
  split
  ·exact⟨rfl,hA 2⟩
  split
  ·rw[k0.1]
   exact s.l6 1 _ res _ _ k0.2
  ·have hm:=Di (a:=(wX a 0).1) (b:=(wX b 0).1) (want:=2) k0.2 k0.1
   unfold afy
   split
   ·exact Ik g res hm (s.l6 1) (s.l6 2)
   ·exact s.l6 1 g res _ _ hm
mutual
theorem PZ.abW:∀ e:PZ,Ij e.na.ty e.ty
 | .mk op nm md num yes aA a=>by rw[PZ.na,PZ.ty,PZ.ty];exact abV op nm (abX aA)
theorem abX:∀ l:List PZ,Ua (TW (vC l)) (TW l)
 | []=>trivial
 | e :: l=>⟨PZ.abW e,abX l⟩
end
theorem abY {e d:PZ}(h:e.na=d.na):Ij e.ty d.ty:=λg res f k q=>by
 have h1:=PZ.abW e g res f f Iff.rfl;have h2:=PZ.abW d g res f k q;rw[h] at h1;exact⟨h1.1.symm.trans h2.1,h1.2.symm.trans h2.2⟩
end Go.Proofs.YtmhdgeekclhbbaaGreatDoor

namespace Go.Proofs.YtmhdgeekclhbbaaGreatDoor
end Go.Proofs.YtmhdgeekclhbbaaGreatDoor

namespace Go.Proofs.YtmhdgeekclhbbaaGreatDoor
variable{y0:Int}{b0:Nat}
theorem XP (op:Int):(vk op).length<=2:=by
 unfold vk;generalize op.toNat - 7=i
 have h:∀ x∈([[43],[45],[42],[47],[37],[61],[60,62],[60],[60,61],[62],[62,61],[38,38],[124,124],[61,62]]:List aH),x.length<=2:=by decide
 rw[Fb]
 cases hx:([[43],[45],[42],[47],[37],[61],[60,62],[60],[60,61],[62],[62,61],[38,38],[124,124],[61,62]]:List aH)[i]? with
 | none=>simp
 | some x=>exact h x (List.mem_of_getElem? hx)
theorem BQ (l:Int)(k:Int × aH):(tC l k).length<=k.2.length+2:=by
 unfold tC
 split
 ·simp only[bQ,dN,iF];omega
 ·omega
def BR:List (Int × aH)->Nat
 | []=>0
 | k :: l=>k.2.length+BR l
theorem Ub:∀ ks:List (Int × aH),(ks.getD 0 (0,[])).2.length+(ks.getD 1 (0,[])).2.length+(ks.getD 2 (0,[])).2.length<=BR ks
 | []=>by simp[BR]
 | [a]=>by simp[BR]
 | [a,b]=>by simp[BR]
 | a :: b :: c :: l=>by simp[BR];omega
theorem Il:∀ ks:List (Int × aH),(bR (ks.map Prod.snd)).length<=BR ks+2 * ks.length
 | []=>by simp[bR,BR]
 | [a]=>by simp[bR,BR]
 | a :: b :: l=>by
  have h:=Il (b :: l);simp only[mE,bR,bQ,dN,iF,BR] at h |-;omega
theorem XQ (op:Int)(nm md:aH)(num:Int)(yes:Bool)(ks:List (Int × aH))(h1:nm.length<=65536)(h2:md.length<=65536)(h3:(kr num).length<=61)(h4:ks.length<=65536):(pE op nm md num yes ks).length<=BR ks+300000:=by
 have h5:=Ub ks;have h6:=Il ks;have h7:=XP op;have p1:=BQ 9 (ks.getD 0 (0,[]));have p2:=BQ 4 (ks.getD 0 (0,[]));have p3:=BQ (xV op) (ks.getD 0 (0,[]));have p4:=BQ (BH op) (ks.getD 1 (0,[]))
 have hm:(if md=[] then [] else md++[46]).length<=65537:=by
  split
  ·simp
  ·simp only[bQ,dN,iF];omega
 unfold pE;generalize (if md=[] then [] else md++[46])=mm at hm |-
 repeat' split
 all_goals ((try simp only[bQ,dN,iF]);omega)
theorem Qs:∀ (k n:Nat),n<10 ^ (k+1)->(iw n).length<=k+1
 | 0,n,h=>by
  rw[iw,dif_pos (by omega)]
  simp
 | k+1,n,h=>by
  rw[iw]
  split
  ·simp
  ·rw[bQ,List.length_singleton]
   have:=Qs k (n / 10) (by rw[Nat.pow_succ] at h;omega);omega
theorem abZ {n:Int}(h:n.natAbs<10 ^ 60):(kr n).length<=61:=by
 unfold kr;rw[bQ];have:=Qs 59 n.natAbs h
 split
 ·simp only[dN,iF];omega
 ·simp only[iF];omega
mutual
theorem PZ.Im:∀ e:PZ,e.fit->e.text.length<=300000 * e.size
 | .mk op nm md num yes aA at_,h=>by
  rw[PZ.fit] at h;obtain⟨h1,h2,h3,h4,h5⟩:=h;have hs:=BU aA h5
  have hl:(je aA).length=aA.length:=by rw[sD,vL]
  have:=XQ op nm md num yes (je aA) h1 h2 (abZ h3) (by omega);rw[PZ.text,PZ.size];omega
theorem BU:∀ l:List PZ,MX l->BR (je l)<=300000 * qI l
 | [],_=>by simp[je,BR]
 | e :: l,h=>by
  rw[MX] at h;have h1:=PZ.Im e h.1;have h2:=BU l h.2;rw[je,BR,qI];simp only;omega
end
theorem Vx {aj:List Nd}:∀ (l:List PT) (ks:List Int) (u:Nat),fT aj ks u l->ks.length=l.length/\∀ j,(h1:j<ks.length)->(h2:j<l.length)->pK aj ks[j] (u+cO (l.take j)) l[j]
 | [],ks,u,h=>by
  rw[fT] at h;subst h;exact⟨rfl,λj h1=>absurd h1 (by simp)⟩
 | i :: l,ks,u,h=>by
  rw[fT] at h;obtain⟨k,ks',rfl,h1,h2⟩:=h;obtain⟨h3,h4⟩:=Vx l ks' _ h2;refine⟨by simp[h3],λj q1 q2=>?_⟩
  cases j with
  | zero=>simpa [cO] using h1
  | succ j =>
   have:=h4 j (by simpa using q1) (by simpa using q2);rw[List.take_succ_cons,cO,<- wU];exact this
theorem Qt:∀ (l:List PT) (j:Nat) (h:j<l.length),cO (l.take j)+l[j].lv<=cO l
 | [],j,h=>absurd h (by simp)
 | i :: l,0,h=>by simp[cO]
 | i :: l,j+1,h=>by
  have:=Qt l j (by simpa using h);rw[List.take_succ_cons,cO,cO];simp only[JG];omega
theorem Io (ah:List Tok):∀ (n u j:Nat) (h:j<(qP ah u n).length),(qP ah u n)[j]=(aJ ah (u+3 * j+1),bN ah (u+3 * j+1))
 | 0,u,j,h=>absurd h (by simp[qP])
 | n+1,u,0,h=>rfl
 | n+1,u,j+1,h=>by
  have:=Io ah n (u+3) j (by simpa [qP] using h);simp only[qP,JG,this];rw[show u+3+3 * j+1=u+3 * (j+1)+1 by omega]
theorem Ip (ah:List Tok):∀ (l:List dY) (u j:Nat) (h:j<l.length) (h2:j<(mZ ah u l).length),(mZ ah u l)[j]=l[j].dd ah (u+cO ((l.take j).map dY.pt))
 | [],u,j,h,_=>absurd h (by simp)
 | d :: l,u,0,h,_=>by simp[mZ,cO]
 | d :: l,u,j+1,h,h2=>by
  have:=Ip ah l (u+d.pt.lv) j (by simpa using h) (by simpa [mZ] using h2);simp only[mZ,JG,this,List.take_succ_cons,mE,cO,wU]
theorem Iq {ah:List Tok}:∀ (l:List dY) (u j:Nat) (h:j<l.length),CV ah u l->l[j].ok ah (u+cO ((l.take j).map dY.pt))
 | [],u,j,h,_=>absurd h (by simp)
 | d :: l,u,0,h,ho=>by simpa [cO] using ho.1
 | d :: l,u,j+1,h,ho=>by
  have:=Iq l (u+d.pt.lv) j (by simpa using h) ho.2
  simpa [cO,wU] using this
theorem lD.adU (p:lD)(j:Nat)(h:j<p.imps):∃ h2:j<p.aA.length,p.aA[j]=xP/\cO (p.aA.take j)=3 * j:=by
 have h2:j<p.aA.length:=by simp only[lD.aA,bQ,abt];omega
 refine⟨h2,?_,?_⟩
 ·simp only[lD.aA]
  rw[List.getElem_append_left (by simpa using h),List.getElem_replicate]
 ·simp only[lD.aA]
  rw[abk (by simp;omega),List.take_replicate,Fp,Nat.min_eq_left (by omega)]
theorem lD.adV (p:lD)(j:Nat)(h:j<p.defs.length):∃ h2:p.imps+j<p.aA.length,p.aA[p.imps+j]=p.defs[j].pt/\cO (p.aA.take (p.imps+j))=3 * p.imps+cO ((p.defs.take j).map dY.pt):=by
 have h2:p.imps+j<p.aA.length:=by simp only[lD.aA,bQ,abt,vL];omega
 refine⟨h2,?_,?_⟩
 ·simp only[lD.aA]
  rw[List.getElem_append_right (by simp),List.getElem_append_left (by simp;omega)]
  simp
 ·simp only[lD.aA]
  rw[List.take_append,DL (by simp),jA,Fp,abt,Nat.add_sub_cancel_left,abk (by simp;omega),List.map_take]
theorem lD.adW (p:lD):∃ h2:p.imps+p.defs.length<p.aA.length,p.aA[p.imps+p.defs.length]=.leaf:=by
 have h2:p.imps+p.defs.length<p.aA.length:=by simp only[lD.aA,bQ,abt,vL,List.length_singleton];omega
 refine⟨h2,?_⟩;simp only[lD.aA];rw[List.getElem_append_right (by simp),List.getElem_append_right (by simp)]
 simp
theorem lD.ab0 (p:lD):p.aA.length=p.imps+p.defs.length+1:=by
 simp only[lD.aA,bQ,abt,vL,List.length_singleton];omega
inductive It where
 | leaf
 | expr (e:CE)
 | par (t:gN)
 | base
 | cl (e:CE)
def It.pt:It->PT
 | .leaf=>.leaf
 | .expr e=>e.pt
 | .par t=>t.par
 | .base=>.node 5 [.leaf]
 | .cl e=>.node 6 [.leaf,e.pt,.leaf]
structure TyA where
 base:Nat
 aC:List PE
 bare:Int
def It.step (ah:List Tok)(u:Nat):It->TyA->TyA
 | .base,a=>⟨if aJ ah u=jJ then 2 else 1,a.aC,((bN ah u+(aJ ah u).length:Nat):Int)⟩
 | .cl e,a=>⟨a.base,[e.pe ah (u+1)],-1⟩
 | _,a=>a
def oO (ah:List Tok):Nat->List It->TyA->TyA
 | _,[],a=>a
 | u,i :: l,a=>oO ah (u+i.pt.lv) l (i.step ah u a)
theorem nX (ah:List Tok):∀ (l k:List It) (u:Nat) (a:TyA),oO ah u (l++k) a=oO ah (u+cO (l.map It.pt)) k (oO ah u l a)
 | [],k,u,a=>by simp[oO,cO]
 | i :: l,k,u,a=>by
  rw[kF,oO,nX ah l k,oO,mE,cO,wU]
def gI (ah:List Tok):Nat->List It->List FF
 | _,[]=>[]
 | u,.par t :: l=>t.xQ ah u :: gI ah (u+(It.par t).pt.lv) l
 | u,i :: l=>gI ah (u+i.pt.lv) l
theorem iD (ah:List Tok):∀ (l k:List It) (u:Nat),gI ah u (l++k)=gI ah u l++gI ah (u+cO (l.map It.pt)) k
 | [],k,u=>by simp[gI,cO]
 | .par t :: l,k,u=>by
  rw[kF,gI,iD ah l k,gI,mE,cO,wU,kF]
 | .leaf :: l,k,u=>by
  rw[kF,gI,iD ah l k,gI,mE,cO,wU]<;>simp
 | .base :: l,k,u=>by
  rw[kF,gI,iD ah l k,gI,mE,cO,wU]<;>simp
 | .expr e :: l,k,u=>by
  rw[kF,gI,iD ah l k,gI,mE,cO,wU]<;>simp
 | .cl e :: l,k,u=>by
  rw[kF,gI,iD ah l k,gI,mE,cO,wU]<;>simp
def gN.its (t:gN):List It:=[.leaf,.base]++(match t.cl with|none=>[]|some e=>[.cl e])
theorem gN.Ir (t:gN):t.its.map It.pt=t.pts:=by
 unfold gN.its gN.pts
 cases t.cl<;>rfl
def gN.sK (t:gN):List It:=.leaf :: t.its
theorem gN.XT (t:gN):t.par=.node 4 (t.sK.map It.pt):=by
 rw[gN.par,gN.sK,mE,t.Ir]
 rfl
def gM:List gN->List It
 | []=>[]
 | t :: l=>.par t :: (match l with | []=>[]|_ :: _=>.leaf :: gM l)
theorem vD:∀ l:List gN,(gM l).map It.pt=lN (l.map gN.par)
 | []=>rfl
 | [t]=>rfl
 | t :: s :: l=>by
  have:=vD (s :: l);rw[show gM (t :: s :: l)=.par t :: .leaf :: gM (s :: l) from by rw[gM],mE,mE,this];show _=lN (t.par :: s.par :: l.map gN.par);rw[uW]
  rfl
def dY.gJ (d:dY):List It:=if d.pub=true then [.leaf] else []
def dY.its (d:dY):List It:=d.gJ++([.leaf,.leaf,.leaf]++(gM d.mG++([.leaf]++(d.ty.its++[.leaf,.expr d.body,.leaf]))))
theorem dY.Ir (d:dY):d.pt=.node 3 (d.its.map It.pt):=by
 have h:d.gJ.map It.pt=d.lead:=by unfold dY.gJ dY.lead;split<;>rfl
 rw[dY.pt,dY.aA,dY.its];simp only[zJ,h,vD,d.ty.Ir,mE,List.map_nil,It.pt]
theorem rQ (ah:List Tok):∀ (l:List It) (u:Nat) (a:TyA),(∀ i∈l,(i matches .leaf)\/(i matches .par _)\/(i matches .expr _))->oO ah u l a=a
 | [],u,a,_=>rfl
 | i :: l,u,a,h=>by
  rw[oO,rQ ah l _ _ λx hx=>h x (xu _ hx)];have:=h i xq
  cases i<;>simp_all [It.step]
theorem Qu (ah:List Tok)(t:gN)(u:Nat)(name:aH)(at_:Nat):oO ah u t.its ⟨b0,[],y0⟩=⟨(t.ff ah u name at_).base,(t.ff ah u name at_).aC,(t.ff ah u name at_).bare⟩:=by
 unfold gN.its gN.ff
 cases t.cl with
 | none=>simp[oO,It.step,It.pt,PT.lv]
 | some e=>simp[oO,It.step,It.pt,PT.lv,cO]
theorem Iu:∀ l:List gN,∀ i∈gM l,(i matches .leaf)\/(i matches .par _)\/(i matches .expr _)
 | [],i,h=>by rw[gM] at h;cases h
 | [t],i,h=>by
  rw[gM,DN] at h;subst h;exact .inr (.inl rfl)
 | t :: s :: l,i,h=>by
  rw[show gM (t :: s :: l)=.par t :: .leaf :: gM (s :: l) from by rw[gM],oo,oo] at h
  rcases h with rfl|rfl|h
  ·exact .inr (.inl rfl)
  ·exact .inl rfl
  ·exact Iu (s :: l) i h
theorem gN.adX (ah:List Tok)(t:gN)(u:Nat):oO ah u t.sK ⟨b0,[],y0⟩=⟨(t.xQ ah u).base,(t.xQ ah u).aC,(t.xQ ah u).bare⟩:=by
 rw[gN.sK,oO,gN.xQ];exact Qu ah t (u+1) _ _
theorem dY.typ (ah:List Tok)(d:dY)(u:Nat):oO ah u d.its ⟨b0,[],y0⟩=⟨(d.dd ah u).res.base,(d.dd ah u).res.aC,(d.dd ah u).res.bare⟩:=by
 have h1:∀ i∈d.gJ,(i matches .leaf)\/(i matches .par _)\/(i matches .expr _):=λi h=>by
  unfold dY.gJ at h
  split at h
  ·rw[DN] at h;subst h;exact .inl rfl
  ·cases h
 have h2:∀ i∈[It.leaf,.leaf,.leaf],(i matches .leaf)\/(i matches .par _)\/(i matches .expr _):=λi h=>by
  simp only[oo,List.not_mem_nil,or_false,or_self] at h;subst h;exact .inl rfl
 have h3:∀ i∈[It.leaf,.expr d.body,.leaf],(i matches .leaf)\/(i matches .par _)\/(i matches .expr _):=λi h=>by
  simp only[oo,List.not_mem_nil,or_false] at h
  rcases h with rfl|rfl|rfl
  ·exact .inl rfl
  ·exact .inr (.inr rfl)
  ·exact .inl rfl
 have h4:∀ i∈[It.leaf],(i matches .leaf)\/(i matches .par _)\/(i matches .expr _):=λi h=>by
  rw[DN] at h;subst h;exact .inl rfl
 have hl:cO (d.gJ.map It.pt)=cO d.lead:=by unfold dY.gJ dY.lead;split<;>rfl
 rw[dY.its,nX,rQ ah _ _ _ h1,nX,rQ ah _ _ _ h2,nX,rQ ah _ _ _ (Iu _),nX,rQ ah _ _ _ h4,nX,rQ ah _ _ _ h3]
 rw[show u+cO (d.gJ.map It.pt)+cO ([It.leaf,.leaf,.leaf].map It.pt)+cO ((gM d.mG).map It.pt)+cO ([It.leaf].map It.pt)=d.at2 u by
  rw[hl,vD]
  simp only[dY.at2,dY.G5,mE,List.map_nil,It.pt,cO,PT.lv]]
 exact Qu ah d.ty _ _ _
theorem yU (ah:List Tok):∀ (l:List It) (u:Nat),(∀ i∈l,¬ (i matches .par _))->gI ah u l=[]
 | [],u,_=>rfl
 | i :: l,u,h=>by
  have h1:=h i xq
  have h2:=yU ah l (u+i.pt.lv) λx hx=>h x (xu _ hx)
  cases i with
  | par t=>simp at h1
  | leaf=>rw[gI];exact h2;simp
  | base=>rw[gI];exact h2;simp
  | expr e=>rw[gI];exact h2;simp
  | cl e=>rw[gI];exact h2;simp
theorem Qv (ah:List Tok):∀ (l:List gN) (u:Nat),gI ah u (gM l)=pY ah u l
 | [],u=>rfl
 | [t],u=>by rw[gM,gI,gI,pY,pY]
 | t :: s :: l,u=>by
  rw[show gM (t :: s :: l)=.par t :: .leaf :: gM (s :: l) from by rw[gM],gI,gI,Qv ah (s :: l),pY]
  ·rfl
  ·simp
theorem dY.ab1 (ah:List Tok)(d:dY)(u:Nat):gI ah u d.its=(d.dd ah u).params:=by
 have h1:∀ i∈d.gJ,¬ (i matches .par _):=λi h=>by
  unfold dY.gJ at h
  split at h
  ·rw[DN] at h;subst h;simp
  ·cases h
 have h2:∀ i∈[It.leaf,.leaf,.leaf],¬ (i matches .par _):=λi h=>by
  simp only[oo,List.not_mem_nil,or_false,or_self] at h;subst h;simp
 have h3:∀ i∈([It.leaf]++(d.ty.its++[.leaf,.expr d.body,.leaf])),¬ (i matches .par _):=λi h=>by
  unfold gN.its at h
  cases hc:d.ty.cl with
  | none =>
   rw[hc] at h;simp only[List.mem_append,oo,List.not_mem_nil,or_false] at h
   rcases h with rfl|(rfl|rfl)|rfl|rfl|rfl<;>simp
  | some e =>
   rw[hc] at h;simp only[List.mem_append,oo,List.not_mem_nil,or_false] at h
   rcases h with rfl|((rfl|rfl)|rfl)|rfl|rfl|rfl<;>simp
 have hl:cO (d.gJ.map It.pt)=cO d.lead:=by unfold dY.gJ dY.lead;split<;>rfl
 rw[dY.its,iD,yU ah _ _ h1,iD,yU ah _ _ h2,iD,yU ah _ _ h3,Qv,qW,qW,List.append_nil,hl];simp only[mE,List.map_nil,It.pt,cO,PT.lv]
 rfl
