/- Walks and plain laws: PrintOk, RShowB, OwnQ. -/
import Derived.Test.YtdednahplodojaaGreatDoorD19
set_option maxHeartbeats 16000000
set_option maxRecDepth 100000
set_option linter.unusedVariables false
set_option linter.unusedSimpArgs false
namespace Go.Proofs.YtdednahplodojaaGreatDoor
def Ends (r:List UInt8):Prop:=∀ c,r.head?=some c→insideB c=false
theorem Ends.cons {c:UInt8}{r:List UInt8}(h:insideB c=false):Ends (c :: r):=by
 intro d hd
 simp only [List.head?_cons,Option.some.injEq] at hd
 rw [← hd];exact h
theorem inside_digit {c:UInt8}(h:insideB c=false):digitB c=false:=by
 simp only [insideB,Bool.or_eq_false_iff] at h
 exact h.1.2
theorem end_of {k:Nat}(hk:k≠4){t r:List UInt8}(h:Ends r):endB k t r.head?=true:=by
 cases hr:r.head? with
 | none=>rfl
 | some c =>
  have:=h c hr
  rw [endB,if_neg hk]
  split
  ·rw [inside_digit this];rfl
  ·rw [this];rfl
def nameB (t:List UInt8):Bool:=t.all insideB && (t.headD 0 |> letterB) && decide (0<t.length) && decide (t.length≤40) && decide (t ∉ keyL)
theorem plain_name {w:List UInt8}(h:plainB w=true):nameB w=true:=by
 unfold plainB at h
 cases hl:lexAll w with
 | error x=>rw [hl] at h;cases h
 | ok l =>
  rw [hl] at h
  match l,h with
  | [t,x],h =>
   simp only [Bool.and_eq_true,decide_eq_true_eq] at h
   obtain ⟨h1,h2⟩:=h
   unfold lexAll at hl
   split at hl
   ·cases hl
   ·unfold lexF at hl
    dsimp only at hl
    split at hl
    ·cases hl
    ·rename_i he
     split at hl
     ·injection hl with hl;cases hl
     ·split at hl
      ·cases hl
      ·injection hl with hl
       have ht:=(List.cons.inj hl).1
       have hk:(tokF (w.drop (leadF false w))).1=1:=by rw [← ht] at h1;exact h1
       have htx:(w.drop (leadF false w)).take (tokF (w.drop (leadF false w))).2.1=w:=by rw [← ht] at h2;exact h2
       have hp:=tokF_pos (w.drop (leadF false w)) (by simpa using he) (by rw [hk];decide)
       have hlen:=congrArg List.length htx
       rw [List.length_take,List.length_drop] at hlen
       have hle:=tokF_len (w.drop (leadF false w))
       rw [List.length_drop] at hle
       have hk0:leadF false w=0:=by omega
       rw [hk0,List.drop_zero] at hk htx he hle
       rw [hk0] at hlen
       have hwl:(tokF w).2.1=w.length:=by rw [List.drop_zero] at hlen;omega
       cases w with
       | nil=>simp [tokF] at hk
       | cons c r =>
        rw [tokF] at hk hwl
        by_cases hc:letterB c=true
        ·rw [if_pos hc] at hk hwl
         unfold wordF at hk hwl
         simp only at hk hwl
         split at hk
         ·cases hk
         ·rename_i h40
          rw [if_neg h40] at hwl
          split at hk
          ·cases hk
          ·rename_i hkey
           rw [if_neg hkey] at hwl
           simp only at hwl
           have hall:(c :: r).takeWhile insideB=c :: r:=(List.takeWhile_prefix insideB).eq_of_length hwl
           rw [hall] at h40 hkey
           have ha:(c :: r).all insideB=true:=by rw [← hall];exact List.all_takeWhile
           simp only [nameB,Bool.and_eq_true,decide_eq_true_eq]
           exact ⟨⟨⟨⟨ha,hc⟩,by simp⟩,by omega⟩,hkey⟩
        ·rw [if_neg hc] at hk
         split at hk
         ·unfold numF at hk
          simp only at hk
          split at hk <;> cases hk
         ·unfold symF at hk
          split at hk <;> cases hk
  | [],h=>cases h
  | [_],h=>cases h
  | _ :: _ :: _ :: _,h=>cases h
theorem piece3 (t:List UInt8):pieceB (numP t)=(t.all digitB && decide (0<t.length) && decide (t.length≤60) && (decide (t.length=1) || !decide (t[0]?=some 48))):=rfl
theorem piece1 (t:List UInt8):pieceB ⟨[],1,t⟩=(t.all insideB && letterB (t.headD 0) && decide (0<t.length) && decide (t.length≤40) && decide (1=if t∈keyL then 2 else 1)):=rfl
theorem name_piece {t:List UInt8}(h:nameB t=true):wordP t=⟨[],1,t⟩∧pieceB (wordP t)=true:=by
 simp only [nameB,Bool.and_eq_true,decide_eq_true_eq] at h
 have e:wordP t=⟨[],1,t⟩:=by rw [wordP,if_neg h.2]
 refine ⟨e,?_⟩
 rw [e,piece1]
 simp only [Bool.and_eq_true,decide_eq_true_eq]
 exact ⟨⟨⟨⟨h.1.1.1.1,h.1.1.1.2⟩,h.1.1.2⟩,h.1.2⟩,by rw [if_neg h.2]⟩
theorem key_piece:∀ t∈keyL,pieceB (wordP t)=true:=by decide
theorem sgn_piece:∀ t∈signL,pieceB (sgnP t)=true:=by decide
theorem digits_in {n:Nat}:(decF n).all digitB=true:=by
 induction n using Nat.strongRecOn with
 | ind n ih =>
  rw [decF]
  split
  ·have:∀ k:Fin 10,digitB (UInt8.ofNat (48+k.val))=true:=by decide
   have:=this ⟨n,by omega⟩
   simpa using this
  ·rename_i h
   rw [List.all_append,ih (n / 10) (by omega),Bool.true_and]
   have:∀ k:Fin 10,digitB (UInt8.ofNat (48+k.val))=true:=by decide
   have:=this ⟨n % 10,by omega⟩
   simpa using this
theorem dec_head {n:Nat}:(decF n).length=1∨(decF n)[0]?≠some 48:=by
 induction n using Nat.strongRecOn with
 | ind n ih =>
  rw [decF]
  split
  ·left;simp
  ·rename_i h
   right
   have hp:=decF_pos (n / 10)
   rw [List.getElem?_append_left hp]
   rcases ih (n / 10) (by omega) with q|q
   ·intro q2
    have:n / 10<10:=by
     apply Classical.byContradiction
     intro q3
     rw [decF,dif_neg (by omega)] at q
     have:=decF_pos (n / 10 / 10)
     simp only [List.length_append,List.length_cons,List.length_nil] at q
     omega
    rw [decF,dif_pos this] at q2
    simp only [List.length_cons,List.length_nil,Nat.zero_add,Nat.lt_add_one,List.getElem?_eq_getElem,List.getElem_cons_zero,Option.some.injEq] at q2
    have h2:=congrArg UInt8.toNat q2
    rw [UInt8.toNat_ofNat'] at h2
    simp at h2
    omega
   ·exact q
theorem num_piece {n:Int}(h0:0≤n)(h60:(intF n).length≤60):pieceB (numP (intF n))=true:=by
 obtain ⟨m,rfl⟩:=Int.eq_ofNat_of_zero_le h0
 rw [intF_nat] at h60 ⊢
 rw [piece3]
 simp only [Bool.and_eq_true,decide_eq_true_eq,Bool.or_eq_true,Bool.not_eq_true',decide_eq_false_iff_not]
 exact ⟨⟨⟨digits_in,decF_pos m⟩,h60⟩,dec_head⟩
theorem okP_sp {l:List Pc}{r:List UInt8}:okP (spP l) r↔okP l r:=by
 cases l with
 | nil=>exact Iff.rfl
 | cons p l =>
  rw [spP,okP,okP]
  have:pieceB ⟨32 :: p.lead,p.kind,p.text⟩=pieceB p:=by simp [pieceB,blankB]
  rw [this]
theorem bytesP_sp_head {l:List Pc}(h:l≠[])(r:List UInt8):Ends (bytesP (spP l)++r):=by
 rw [bytesP_sp h]
 exact Ends.cons (by decide)
theorem free_sign (t:List UInt8)(h:t∈[[40],[41],[44],[46],[123],[125],[58],[59]])(c:Option UInt8):endB 4 t c=true:=by
 cases c with
 | none=>rfl
 | some c =>
  have:∀ t∈([[40],[41],[44],[46],[123],[125],[58],[59]]:List (List UInt8)),∀ n:Fin 256,endB 4 t (some (UInt8.ofNat n.val))=true:=by decide +kernel
  have h1:=this t h ⟨c.toNat,c.toNat_lt⟩
  rw [UInt8.ofNat_toNat] at h1
  exact h1
theorem blank_sign:∀ t∈signL,endB 4 t (some 32)=true:=by decide
theorem minus_sign {c:Option UInt8}(h:c≠some 45):endB 4 [45] c=true:=by
 cases c with
 | none=>rfl
 | some c =>
  have:∀ n:Fin 256,UInt8.ofNat n.val≠45→endB 4 [45] (some (UInt8.ofNat n.val))=true:=by decide +kernel
  have h1:=this ⟨c.toNat,c.toNat_lt⟩
  rw [UInt8.ofNat_toNat] at h1
  exact h1 fun q=>h (by rw [q])
def OkAll (l:List Pc):Prop:=∀ r,Ends r→okP l r
theorem OkAll.sp {l:List Pc}(h:OkAll l):OkAll (spP l):=fun r hr=>okP_sp.2 (h r hr)
theorem OkAll.word {t:List UInt8}(h:pieceB (wordP t)=true):OkAll [wordP t]:=fun r hr=>⟨h,by
 have:(wordP t).kind≠4:=by unfold wordP;simp only;split <;> decide
 exact end_of this hr,trivial⟩
theorem OkAll.key {t:List UInt8}(h:t∈keyL):OkAll [wordP t]:=OkAll.word (key_piece t h)
theorem OkAll.then_sp {a b:List Pc}(h:OkAll a)(hb:OkAll b)(hne:b≠[]):OkAll (a++spP b):=fun r hr=>okP_append.2 ⟨h _ (bytesP_sp_head hne r),okP_sp.2 (hb r hr)⟩
theorem OkAll.close {a:List Pc}(h:OkAll a)(t:List UInt8)(ht:t∈[[40],[41],[44],[46],[123],[125],[58],[59]])(hi:∀ x∈t,insideB x=false):∀ r,okP (a++[sgnP t]) r:=fun r=>by
 have hs:t∈signL:=by
  have:∀ t∈([[40],[41],[44],[46],[123],[125],[58],[59]]:List (List UInt8)),t∈signL:=by decide
  exact this t ht
 refine okP_append.2 ⟨h _ ?_,sgn_piece t hs,free_sign t ht _,trivial⟩
 intro c hc
 cases t with
 | nil=>exact absurd hs (by decide)
 | cons x t=>simp [bytesP,sgnP] at hc;rw [← hc];exact hi x (by simp)
theorem okP_free {l:List Pc}{r:List UInt8}(t:List UInt8)(ht:t∈[[40],[41],[44],[46],[123],[125],[58],[59]])(h:okP l r):okP (sgnP t :: l) r:=by
 have hs:t∈signL:=by
  have:∀ t∈([[40],[41],[44],[46],[123],[125],[58],[59]]:List (List UInt8)),t∈signL:=by decide
  exact this t ht
 exact ⟨sgn_piece t hs,free_sign t ht _,h⟩
theorem par_ok {least:Int}{k:Int × List Pc}(h:OkAll k.2):OkAll (parQ least k):=by
 intro r hr
 unfold parQ
 split
 ·exact okP_free [40] (by decide) (h.close [41] (by decide) (by decide) r)
 ·exact h r hr
theorem comma_ok:∀ (es:List PZ),(∀ x∈es,OkAll x.pcs∧x.pcs≠[])→OkAll (commaQ (es.map PZ.pcs))
 | [],_=>fun _ _=>trivial
 | [e],h=>(h e (by simp)).1
 | e :: f :: l,h=>by
  have ih:=comma_ok (f :: l) fun x hx=>h x (List.mem_cons_of_mem _ hx)
  have he:=(h e (by simp)).1
  intro r hr
  simp only [List.map_cons] at ih ⊢
  rw [commaQ,show e.pcs++sgnP [44] :: spP (commaQ (f.pcs :: l.map PZ.pcs))=(e.pcs++[sgnP [44]])++spP (commaQ (f.pcs :: l.map PZ.pcs)) by simp]
  exact okP_append.2 ⟨he.close [44] (by decide) (by decide) _,okP_sp.2 (ih r hr)⟩
theorem showQ2 (nm md:List UInt8)(num:Int)(yes:Bool)(ks:List (Int × List Pc)):showQ 2 nm md num yes ks=[wordP (if yes=true then [116,114,117,101] else [102,97,108,115,101])]:=rfl
theorem showQ3 (nm md:List UInt8)(num:Int)(yes:Bool)(ks:List (Int × List Pc)):showQ 3 nm md num yes ks=[wordP nm]:=rfl
theorem showQ4 (nm md:List UInt8)(num:Int)(yes:Bool)(ks:List (Int × List Pc)):showQ 4 nm md num yes ks=[wordP [114,101,115]]:=rfl
theorem head_par {e:PZ}{fm:Bool}(h:RightZ fm e)(hne:e.pcs≠[])(r:List UInt8):(bytesP (parQ 9 (e.op,e.pcs))++r).head?≠some 45:=by
 unfold parQ
 split
 ·simp [bytesP,sgnP]
 ·rename_i hl
  have F:=h.form
  simp only at hl
  rw [e.pcs_def]
  have hnm:=h.names
  have hv:=h.values
  generalize hc:e.kids.length=c at F
  generalize e.op=op at *
  cases F with
  | none h1 h2 =>
   have:op=1∨op=2∨op=3∨op=4:=by omega
   rcases this with rfl|rfl|rfl|rfl
   ·simp only [valuesB,if_pos,Bool.and_eq_true,decide_eq_true_eq] at hv
    have hp:=num_piece hv.1.1 hv.1.2
    rw [piece3] at hp
    simp only [Bool.and_eq_true] at hp
    have hd:=hp.1.1.1
    have hpos:=intF_pos e.num
    simp only [showQ,if_pos,bytesP,numP]
    cases hi:intF e.num with
    | nil=>rw [hi] at hpos;simp at hpos
    | cons c r =>
     rw [hi,List.all_cons,Bool.and_eq_true] at hd
     simp only [List.nil_append,List.cons_append,List.head?_cons,ne_eq,Option.some.injEq]
     exact (digit_no c hd.1).2.2
   ·simp [showQ,bytesP,wordP];split <;> simp
   ·have hnm:plainB e.name=true:=by
     simp only [namesB] at hnm
     rw [if_pos (by decide),Bool.and_eq_true] at hnm
     exact hnm.1
    have hn:=plain_name hnm
    simp only [nameB,Bool.and_eq_true] at hn
    rw [showQ3]
    cases hi:e.name with
    | nil=>rw [hi] at hn;simp at hn
    | cons c r =>
     rw [hi] at hn
     simp only [bytesP,wordP,List.nil_append,List.cons_append,List.head?_cons,ne_eq,Option.some.injEq]
     exact (letter_no c hn.1.1.1.2).2.2
   ·simp [showQ,bytesP,wordP]
  | one h=>rcases h with rfl|rfl <;> exact absurd (by decide) hl
  | two h1 h2 =>
   exfalso
   apply hl
   unfold lvZ
   rw [if_neg (by omega),if_neg (by omega)]
   repeat (first|omega|(split;(first|omega|decide)))
  | iff=>exact absurd (by decide) hl
  | lett=>exact absurd (by decide) hl
  | asrt=>exact absurd (by decide) hl
  | call h =>
   have hnm:plainB e.name=true∧(e.module=[]∨plainB e.module=true):=by
    simp only [namesB] at hnm
    rw [if_neg (by decide),if_pos trivial,Bool.and_eq_true,Bool.or_eq_true,decide_eq_true_eq] at hnm
    exact hnm
   simp only [showQ]
   simp only [if_neg,if_pos,show ¬ (24:Int)=1 by decide,show ¬ (24:Int)=2 by decide,show ¬ (24:Int)=3 by decide,show ¬ (24:Int)=4 by decide,show ¬ (24:Int)=5 by decide,show ¬ (24:Int)=6 by decide,show ¬ (24:Int)=21 by decide,show ¬ (24:Int)=22 by decide,show ¬ (24:Int)=23 by decide,not_false_eq_true]
   have key:∀ w,plainB w=true→∀ l,(w++l).head?≠some 45:=by
    intro w hw l
    have hn:=plain_name hw
    simp only [nameB,Bool.and_eq_true] at hn
    cases w with
    | nil=>simp at hn
    | cons c r =>
     simp only [List.cons_append,List.head?_cons,ne_eq,Option.some.injEq]
     exact (letter_no c hn.1.1.1.2).2.2
   split
   ·simp only [List.nil_append,bytesP,wordP,List.cons_append,List.append_assoc]
    exact key _ hnm.1 _
   ·rename_i hm
    have:=hnm.2.resolve_left hm
    simp only [List.nil_append,bytesP,wordP,List.cons_append,List.append_assoc]
    exact key _ this _
theorem signZ_in {op:Int}(h1:7≤op)(h2:op≤20):signZ op∈signL∧signZ op∈binL:=by
 have:∀ k:Fin 14,signZ ((k.val+7:Nat):Int)∈signL∧signZ ((k.val+7:Nat):Int)∈binL:=by decide
 have h:=this ⟨(op - 7).toNat,by omega⟩
 rw [show (((⟨(op - 7).toNat,by omega⟩:Fin 14).val+7:Nat):Int)=op by simp only;omega] at h
 exact h
theorem PZ.okAll {fm:Bool}:∀ (n:Nat) (e:PZ),SizeOf.sizeOf e<n→e.right fm=true→OkAll e.pcs
 | 0,_,h,_=>absurd h (by omega)
 | n+1,e,hs,hr=>by
  have R:=PZ.rightZ hr
  have ih:∀ x∈e.kids,OkAll x.pcs∧x.pcs≠[]:=fun x hx=>⟨PZ.okAll n x (by have:=e.kids_sizeOf x hx;omega) (R.kids x hx),(PZ.bytes n x (by have:=e.kids_sizeOf x hx;omega) (R.kids x hx)).2⟩
  have hrk:∀ x∈e.kids,RightZ fm x:=fun x hx=>PZ.rightZ (R.kids x hx)
  have F:=R.form
  rw [e.pcs_def]
  have hk:∀ i,(h:i<e.kids.length)→(pcsZ e.kids).getD i (0,[])=(e.kids[i].op,e.kids[i].pcs)∧OkAll e.kids[i].pcs∧e.kids[i].pcs≠[]:=fun i h=>⟨pcsZ_get h,ih _ (List.getElem_mem h)⟩
  have hm:(pcsZ e.kids).map Prod.snd=e.kids.map PZ.pcs:=by rw [pcsZ_map];simp
  have hcm:=comma_ok e.kids ih
  have hnm:=R.names
  have hv:=R.values
  generalize e.kids=ks at *
  generalize hn:ks.length=c at F
  generalize e.op=op at *
  cases F with
  | none h1 h2 =>
   have:op=1∨op=2∨op=3∨op=4:=by omega
   rcases this with rfl|rfl|rfl|rfl
   ·simp only [valuesB,if_pos,Bool.and_eq_true,decide_eq_true_eq] at hv
    simp only [showQ,if_pos]
    exact fun r hr=>⟨num_piece hv.1.1 hv.1.2,end_of (by show (3:Nat)≠4;decide) hr,trivial⟩
   ·rw [showQ2]
    split
    ·exact OkAll.key (by decide)
    ·exact OkAll.key (by decide)
   ·simp only [namesB] at hnm
    rw [if_pos (by decide),Bool.and_eq_true] at hnm
    rw [showQ3]
    exact OkAll.word (name_piece (plain_name hnm.1)).2
   ·rw [showQ4]
    exact OkAll.key (by decide)
  | one h =>
   obtain ⟨a1,a2,a3⟩:=hk 0 (by omega)
   have hrk0:=hrk _ (List.getElem_mem (show 0<ks.length by omega))
   rcases h with rfl|rfl
   ·simp only [showQ]
    simp only [if_neg,if_pos,show ¬ (5:Int)=1 by decide,show ¬ (5:Int)=2 by decide,show ¬ (5:Int)=3 by decide,show ¬ (5:Int)=4 by decide,not_false_eq_true]
    rw [a1]
    exact fun r hr=>⟨sgn_piece [45] (by decide),minus_sign (head_par hrk0 a3 r),par_ok (k:=(ks[0].op,ks[0].pcs)) a2 r hr⟩
   ·simp only [showQ]
    simp only [if_neg,if_pos,show ¬ (6:Int)=1 by decide,show ¬ (6:Int)=2 by decide,show ¬ (6:Int)=3 by decide,show ¬ (6:Int)=4 by decide,show ¬ (6:Int)=5 by decide,not_false_eq_true]
    rw [a1]
    exact (OkAll.key (t:=[110,111,116]) (by decide)).then_sp (par_ok (k:=(ks[0].op,ks[0].pcs)) a2) (parQ_ne a3)
  | two h1 h2 =>
   obtain ⟨a1,a2,a3⟩:=hk 0 (by omega)
   obtain ⟨b1,b2,b3⟩:=hk 1 (by omega)
   have e1:∀ k:Int,(k≤6∨21≤k)→¬ op=k:=fun k hk q=>by omega
   simp only [showQ]
   rw [if_neg (e1 1 (by omega)),if_neg (e1 2 (by omega)),if_neg (e1 3 (by omega)),if_neg (e1 4 (by omega)),if_neg (e1 5 (by omega)),if_neg (e1 6 (by omega)),if_neg (e1 21 (by omega)),if_neg (e1 22 (by omega)),if_neg (e1 23 (by omega)),if_neg (e1 24 (by omega)),a1,b1]
   have hs:=(signZ_in h1 h2).1
   have hpb:=parQ_ne (least:=thenZ op) (k:=(ks[1].op,ks[1].pcs)) b3
   intro r hr
   refine okP_append.2 ⟨par_ok (k:=(ks[0].op,ks[0].pcs)) a2 _ ?_,okP_append.2 ⟨okP_sp.2 ⟨sgn_piece _ hs,?_,trivial⟩,okP_sp.2 (par_ok (k:=(ks[1].op,ks[1].pcs)) b2 r hr)⟩⟩
   ·rw [bytesP_append,bytesP_sp (by simp)]
    exact Ends.cons (by decide)
   ·rw [bytesP,List.nil_append,bytesP_sp hpb]
    exact blank_sign _ hs
  | iff =>
   obtain ⟨a1,a2,a3⟩:=hk 0 (by omega)
   obtain ⟨b1,b2,b3⟩:=hk 1 (by omega)
   obtain ⟨c1,c2,c3⟩:=hk 2 (by omega)
   simp only [showQ]
   simp only [if_neg,if_pos,show ¬ (21:Int)=1 by decide,show ¬ (21:Int)=2 by decide,show ¬ (21:Int)=3 by decide,show ¬ (21:Int)=4 by decide,show ¬ (21:Int)=5 by decide,show ¬ (21:Int)=6 by decide,not_false_eq_true]
   rw [a1,b1,c1]
   have:=((((OkAll.key (t:=[105,102]) (by decide)).then_sp a2 a3).then_sp (OkAll.key (t:=[116,104,101,110]) (by decide)) (by simp)).then_sp b2 b3).then_sp (OkAll.key (t:=[101,108,115,101]) (by decide)) (by simp) |>.then_sp c2 c3
   simpa using this
  | lett =>
   obtain ⟨a1,a2,a3⟩:=hk 0 (by omega)
   obtain ⟨b1,b2,b3⟩:=hk 1 (by omega)
   simp only [namesB] at hnm
   rw [if_pos (by decide),Bool.and_eq_true] at hnm
   simp only [showQ]
   simp only [if_neg,if_pos,show ¬ (22:Int)=1 by decide,show ¬ (22:Int)=2 by decide,show ¬ (22:Int)=3 by decide,show ¬ (22:Int)=4 by decide,show ¬ (22:Int)=5 by decide,show ¬ (22:Int)=6 by decide,show ¬ (22:Int)=21 by decide,not_false_eq_true]
   rw [a1,b1]
   have hq:=(OkAll.key (t:=[108,101,116]) (by decide)).then_sp (OkAll.word (name_piece (plain_name hnm.1)).2) (by simp)
   have h1:OkAll ([wordP [108,101,116]]++spP [wordP e.name]++(spP [sgnP [61]]++spP ks[0].pcs)):=fun r hr=>okP_append.2 ⟨hq _ (by
     rw [bytesP_append,bytesP_sp (by simp)]
     exact Ends.cons (by decide)),okP_append.2 ⟨okP_sp.2 ⟨sgn_piece [61] (by decide),by rw [bytesP,List.nil_append,bytesP_sp a3];exact blank_sign [61] (by decide),trivial⟩,okP_sp.2 (a2 r hr)⟩⟩
   have:=(h1.then_sp (OkAll.key (t:=[105,110]) (by decide)) (by simp)).then_sp b2 b3
   simpa using this
  | asrt =>
   obtain ⟨a1,a2,a3⟩:=hk 0 (by omega)
   obtain ⟨b1,b2,b3⟩:=hk 1 (by omega)
   simp only [showQ]
   simp only [if_neg,if_pos,show ¬ (23:Int)=1 by decide,show ¬ (23:Int)=2 by decide,show ¬ (23:Int)=3 by decide,show ¬ (23:Int)=4 by decide,show ¬ (23:Int)=5 by decide,show ¬ (23:Int)=6 by decide,show ¬ (23:Int)=21 by decide,show ¬ (23:Int)=22 by decide,not_false_eq_true]
   rw [a1,b1]
   have:=(((OkAll.key (t:=[97,115,115,101,114,116]) (by decide)).then_sp a2 a3).then_sp (OkAll.key (t:=[105,110]) (by decide)) (by simp)).then_sp b2 b3
   simpa using this
  | call h =>
   simp only [namesB] at hnm
   rw [if_neg (by decide),if_pos trivial,Bool.and_eq_true,Bool.or_eq_true,decide_eq_true_eq] at hnm
   simp only [showQ]
   simp only [if_neg,if_pos,show ¬ (24:Int)=1 by decide,show ¬ (24:Int)=2 by decide,show ¬ (24:Int)=3 by decide,show ¬ (24:Int)=4 by decide,show ¬ (24:Int)=5 by decide,show ¬ (24:Int)=6 by decide,show ¬ (24:Int)=21 by decide,show ¬ (24:Int)=22 by decide,show ¬ (24:Int)=23 by decide,not_false_eq_true]
   rw [hm]
   intro r hr
   have h1:okP ([wordP e.name,sgnP [40]]++(commaQ (ks.map PZ.pcs)++[sgnP [41]])) r:=by
    refine okP_append.2 ⟨?_,hcm.close [41] (by decide) (by decide) r⟩
    have:=(OkAll.word (name_piece (plain_name hnm.1)).2).close [40] (by decide) (by decide)
    exact this _
   split
   ·exact h1
   ·rename_i hmd
    refine okP_append.2 ⟨?_,h1⟩
    have:=(OkAll.word (name_piece (plain_name (hnm.2.resolve_left hmd))).2).close [46] (by decide) (by decide)
    exact this _
end Go.Proofs.YtdednahplodojaaGreatDoor

namespace Go.Proofs.YtdednahplodojaaGreatDoor
open Go.RowKit Go
def KidsY (B:Nat)(w:World)(ae:Option Addr)(ks:List PZ):Prop:=0<ks.length→∃ b off,ae=some ⟨b,off,none⟩∧b<B∧b<w.heap.size∧∀ i,(hi:i<ks.length)→∃ m ak ck,ZAt YR (fun b=>b<B) w m (.slice ak ks[i].kids.length ck) ks[i]∧∀ j u,(YR.cells ks[i] m (.slice ak ks[i].kids.length ck))[j]?=some u→w.cell? ⟨b,off+i * 7+j,none⟩=some u
theorem KidsY.at {B:Nat}{w:World}{ae:Option Addr}{ks:List PZ}(h:KidsY B w ae ks){W:World}(hW:Below B w W){k:Nat}(hk:k<ks.length):∃ b off m ak ck,ae=some ⟨b,off,none⟩∧b<B∧ZAt YR (fun b=>b<B) W m (.slice ak ks[k].kids.length ck) ks[k] ∧
  W.cell? ⟨b,off+k * 7,none⟩=some (.int .i64 ks[k].op)∧W.cell? ⟨b,off+k * 7+1,none⟩=some (.string ⟨ks[k].name.toArray⟩)∧W.cell? ⟨b,off+k * 7+2,none⟩=some (.string ⟨ks[k].module.toArray⟩)∧W.cell? ⟨b,off+k * 7+3,none⟩=some (.string ⟨(intF ks[k].num).toArray⟩)∧W.cell? ⟨b,off+k * 7+4,none⟩=some (.bool ks[k].yes)∧W.cell? ⟨b,off+k * 7+5,none⟩=some (.slice ak ks[k].kids.length ck)∧W.cell? ⟨b,off+k * 7+6,none⟩=some (.int .i64 ks[k].at_):=by
 obtain ⟨b,off,h1,h2,h3,h4⟩:=h (by omega)
 obtain ⟨m,ak,ck,h5,h6⟩:=h4 k hk
 exact ⟨b,off,m,ak,ck,h1,h2,h5.frame (Alk.ofB hW (fun b hb=>hb)),(hW.cell (p:=⟨b,off+k * 7,none⟩) h2).trans (h6 0 _ rfl),(hW.cell (p:=⟨b,off+k * 7+1,none⟩) h2).trans (h6 1 _ rfl),(hW.cell (p:=⟨b,off+k * 7+2,none⟩) h2).trans (h6 2 _ rfl),(hW.cell (p:=⟨b,off+k * 7+3,none⟩) h2).trans (h6 3 _ rfl),(hW.cell (p:=⟨b,off+k * 7+4,none⟩) h2).trans (h6 4 _ rfl),(hW.cell (p:=⟨b,off+k * 7+5,none⟩) h2).trans (h6 5 _ rfl),(hW.cell (p:=⟨b,off+k * 7+6,none⟩) h2).trans (h6 6 _ rfl)⟩
def OwnQ {α β:Type}(K:RK α β)(Q:Nat→Prop)(C e:Nat)(w:World)(v:Value)(zs:List α):Prop :=
 ∃ l:List (α × β),l.map Prod.fst=zs∧w.ownsRow C e K.sz v zs.length (K.flat l)∧∀ p∈l,K.inn (fun b=>Q b∧some b≠v.ownBlock) w p.1 p.2
section
variable {α β:Type}
theorem OwnQ.nil (K:RK α β)(Q:Nat→Prop)(C e:Nat)(w:World):OwnQ K Q C e w (.slice none 0 0) []:=⟨[],rfl,World.ownsRow_nil _ _ _ _,fun p hp=>by cases hp⟩
theorem OwnQ.below {K:RK α β}{Q:Nat→Prop}{C e:Nat}{w w':World}{v:Value}{zs:List α}(h:OwnQ K Q C e w v zs)(hb:Below w.heap.size w w'):OwnQ K Q C e w' v zs:=by
 obtain ⟨l,h1,h2,h3⟩:=h
 exact ⟨l,h1,own_below h2 hb,fun p hp=>K.frame (h3 p hp) (Alk.of hb)⟩
theorem OwnQ.set {K:RK α β}{Q:Nat→Prop}{C e:Nat}{w:World}{v:Value}{zs:List α}(h:OwnQ K Q C e w v zs){a:Addr}(ha:a.block<C)(hq:¬ Q a.block)(u:Value):OwnQ K Q C e (w.setCell a u) v zs:=by
 obtain ⟨l,h1,h2,h3⟩:=h
 refine ⟨l,h1,own_set h2 (fun q=>?_) u,fun p hp=>K.frame (h3 p hp) (Alk.set u fun b hb=>fun q=>hq (by rw [← q];exact hb.1))⟩
 have:=(h2.lt a.block q.symm).1
 omega
theorem OwnQ.row {K:RK α β}{Q R:Nat→Prop}{C e:Nat}{w:World}{v:Value}{zs:List α}(h:OwnQ K Q C e w v zs)(hR:∀ b,C≤b→R b)(hQ:∀ b,Q b→b<w.heap.size→R b):RowK K R w v zs:=by
 obtain ⟨l,h1,h2,h3⟩:=h
 exact ⟨l,h1,SlP.ofOwns h2 hR,fun p hp=>K.imp (h3 p hp) fun b hb hl=>hQ b hb.1 hl⟩
theorem OwnQ.slice {K:RK α β}{Q:Nat→Prop}{C e:Nat}{w:World}{v:Value}{zs:List α}(h:OwnQ K Q C e w v zs):∃ ao cap,v=.slice ao zs.length cap :=
 (h.row (R:=fun _=>True) (fun _ _=>trivial) (fun _ _ _=>trivial)).slice
theorem OwnQ.snoc {K:RK α β}{Q:Nat→Prop}{C e:Nat}{w w':World}{kv kv':Value}{zs:List α}{a:α}{x:β}{g H:Nat}{l:List (α × β)}(h1:l.map Prod.fst=zs)(h2:∀ p∈l,K.inn (fun b=>Q b∧some b≠kv.ownBlock) w p.1 p.2)(hx:K.inn (fun b=>Q b∧some b≠kv.ownBlock) w a x)
  (hown:w'.ownsRow C e K.sz kv' (zs.length+1) (K.flat l++K.cells a x)) (hgrow:w.grownBy w' kv.ownBlock) (hv:kv'.ownBlock=some g) (hor:kv.ownBlock=some g∨g=H) (hH:w.heap.size≤H):OwnQ K Q C e w' kv' (zs++[a]):=by
 have himp:∀ b,(Q b∧some b≠kv.ownBlock)→b<w.heap.size→((Q b∧some b≠kv'.ownBlock)∧some b≠kv.ownBlock):=fun b hb hlt=>by
  refine ⟨⟨hb.1,fun q=>?_⟩,hb.2⟩
  rw [hv] at q
  simp only [Option.some.injEq] at q
  rcases hor with h|h
  ·exact hb.2 (by rw [h,q])
  ·omega
 have hall:∀ {a:α} {x:β},K.inn (fun b=>Q b∧some b≠kv.ownBlock) w a x→K.inn (fun b=>Q b∧some b≠kv'.ownBlock) w' a x:=fun h =>
  K.imp (K.frame (K.imp h himp) (Alk.grown hgrow fun b hb=>hb.2)) fun b hb _=>hb.1
 refine ⟨l++[(a,x)],by rw [List.map_append,h1];rfl,?_,fun p hp=>?_⟩
 ·rw [K.flat_snoc,List.length_append,List.length_singleton];exact hown
 ·rcases List.mem_append.1 hp with hp|hp
  ·exact hall (h2 p hp)
  ·rw [List.mem_singleton] at hp
   subst hp
   exact hall hx
theorem OwnQ.round {K:RK α β}{Q:Nat→Prop}{e be:Nat}{w1 wr W2 w5:World}{o:Obj}{kv kv5:Value}{acc:List α}{a:α}{x:β}{l:List (α × β)}{gg:Nat}(halk:Alk (fun b=>b<w1.heap.size∧b≠be) w1 wr)(hbe:be<w1.heap.size)(hQ:¬ Q be)
  (h1:l.map Prod.fst=acc) (hown:wr.ownsRow w1.heap.size e K.sz kv acc.length (K.flat l)) (hes:∀ p∈l,K.inn (fun b=>Q b∧some b≠kv.ownBlock) wr p.1 p.2) (hx:K.inn (fun b=>Q b∧some b≠kv.ownBlock) W2 a x) (hb2:Below wr.heap.size wr W2)
  (hown5:w5.ownsRow w1.heap.size e K.sz kv5 (acc.length+1) (K.flat l++K.cells a x)) (hgrow:(W2.alloc o).grownBy w5 kv.ownBlock) (hv5:kv5.ownBlock=some gg) (hat:kv.ownBlock=some gg∨gg=W2.heap.size+1) (off:Nat) (u:Value) :
  OwnQ K Q w1.heap.size e (w5.setCell ⟨be,off,none⟩ u) kv5 (acc++[a])∧Alk (fun b=>b<w1.heap.size∧b≠be) w1 (w5.setCell ⟨be,off,none⟩ u)∧∀ (B:Nat) (w0:World),B≤be→Below B w0 wr→Below B w0 (w5.setCell ⟨be,off,none⟩ u):=by
 have hz1:=halk.1
 have hz2:=hb2.size
 have hb3:Below wr.heap.size wr (W2.alloc o):=hb2.alloc hz2 _
 have hlt:∀ b,some b=kv.ownBlock→w1.heap.size≤b∧b<wr.heap.size:=fun b q=>⟨(hown.lt b q.symm).1,(hown.lt b q.symm).2⟩
 have hx2:K.inn (fun b=>Q b∧some b≠kv.ownBlock) (W2.alloc o) a x:=K.frame hx ⟨by simp,fun b _ hb=>Lib.alloc_old _ _ _ hb⟩
 have hrow:=OwnQ.snoc (K:=K) (w:=W2.alloc o) h1 (fun p hp=>K.frame (hes p hp) (Alk.of hb3)) hx2 hown5 hgrow hv5 hat (by simp)
 refine ⟨hrow.set hbe hQ u,?_,fun B w0 hB hb0=>?_⟩
 ·refine ((halk.trans (Alk.ofB hb3 fun b hb=>by omega)).trans (Alk.grown hgrow fun b hb q=>?_)).trans (Alk.set u fun b hb=>hb.2)
  have:=(hlt b q).1
  omega
 ·have hsz:=hb0.size
  exact ((hb0.trans (hb3.mono (by omega))).grown hgrow (by simp;omega) (fun b q=>by have:=(hlt b q.symm).1;omega)).setCell hB _
end
end Go.Proofs.YtdednahplodojaaGreatDoor
