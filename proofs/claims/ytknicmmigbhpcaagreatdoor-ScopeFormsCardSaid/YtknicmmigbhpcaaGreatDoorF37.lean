/- Walks and plain laws: ProgramW3, ProgramW2, ProgramW. -/
import Derived.Test.YtknicmmigbhpcaaGreatDoorF36
set_option maxHeartbeats 16000000
set_option maxRecDepth 100000
set_option linter.unusedVariables false
set_option linter.unusedSimpArgs false
namespace Go.Proofs.YtknicmmigbhpcaaGreatDoor
open Go.RowKit Go
def slN:Value→Nat | .slice _ n _=>n|_=>0
theorem iU.lift {E:aW}{W0 W1:World}{R:List Nat}{v:Value}{ks:List Int}{s:aB}{w:World}(h:iU E W1 R v ks s w)(hk:Kp E.B W0 W1):iU E W0 R v ks s w:=by
 obtain⟨h1,h2,h3,h4,h5⟩:=h;refine⟨⟨h1.1,?_⟩,h2,h3,h4,hk.trans h5⟩
 rcases h1.2 with hn|⟨g,cap,cur,hv,hg,hr⟩
 ·exact .inl hn
 ·exact .inr ⟨g,cap,cur,hv,Nat.le_trans hk.size hg,hr⟩
theorem iU.none {E:aW}{w:World}{s:aB}(hp:PW E s w):iU E w E.R (.slice none 0 0) [] s w:=⟨World.ownsRow_nil _ _ _ _,fun b q=>by simp[Value.ownBlock] at q,fun _ q=>q,hp,Kp.refl _ _⟩
theorem Bw (E:aW)(hE:E.ok)(v:Value)(l:List (List UInt8))(st:aB)(x:Bool)(hx:aV E.toks st l=x)(w:World)(hp:PW E st w)(hv:kF w v l)(hl:l.length≤1000) :
  Calls Tryz.prog 165 #[.pointer (some ⟨E.pb,0,none⟩),v] w (qO E st x w):=by
 subst hx
 exact(tT E v l st w hp hv hE.1 hE.2.1 hl).mono fun e w' ⟨he,hb⟩=>⟨he,hp.later hb,Kp.of hb hp.dX⟩
def aaT (E:aW)(one:aB→Option (Int × aB))(first:List (List UInt8))(most:Nat)(res:List Int × aB)(w0:World)(kv:Value)(wr:World):Prop :=
 ∃ (r:Nat) (kids:List Int) (s:aB) (R:List Nat),kids.length+r=most∧jk E.toks one first r kids s=some res∧iU E w0 R kv kids s wr∧s.clause=false∧(kids=[]→kv=.slice none 0 0)
def Yd (E:aW)(W0:World)(r:List Int × aB)(e:Ending)(w':World):Prop:=∃ v R,e=.returned v∧(r.1=[]→v=.slice none 0 0)∧iU E W0 R v r.1 r.2 w'
theorem Bg (E:aW)(hE:E.ok)(one:aB→Option (Int × aB))(first:List (List UInt8))(fa:Option Addr)(fc:Nat)(most:Nat)(hm:most≤1000)(st:aB)(res:List Int × aB)(w:World)(h:jk E.toks one first most [] st=some res)(hp:PW E st w)(hn:res.2.nodes.length+1≤1099511627776)(hcl:st.clause=false)
  (hF:∀ wr,Kp E.B w wr→kF wr (.slice fa first.length fc) first) (hfl:first.length≤1000) (hext:∀ s k,one s=some k→dB s k.2)
  (hone:∀ (R:List Nat) (s:aB) (k:Int × aB) (w':World),s.clause=false→one s=some k→PR E R s w'→k.2.nodes.length+1≤1099511627776 →
   Calls Tryz.prog 104 #[.pointer (some ⟨E.pb,0,none⟩)] w' (dL { E with R:=R } k w')) :
  Calls Tryz.prog 103 #[.pointer (some ⟨E.pb,0,none⟩),.int .i64 most,.func (.func 104) #[.pointer (some ⟨E.pb,0,none⟩)] #[],.slice fa first.length fc] w (Yd E w res):=by
 obtain⟨i0,hi,hz0,hz1,hz2⟩:=info_parts Tryz.lQ;have H0:=ah h;have Cc:=ah hone;have ET:=ah hext;have HN:=ah hn;have HE:=ah hE;have HF:=ah hF;have HFL:=ah hfl;have HM:=ah hm;clear hone hext h hn hF hE hfl hm;go_enter Tryz.func103,Tryz.ntmps103;go_wp2
 go_loopw [9] (fun kv wr=>aaT E one first most res w kv wr) (fun kv _=>most - slN kv)
 case atStart=>exact⟨most,[],st,E.R,by simp,H0.out,iU.none hp,hcl,fun _=>rfl⟩
 case round =>
  obtain⟨r,kids,s,R,hlen,hl,K0,hsc,hnil⟩:=hrel;have vI:=ah hnil;clear hnil;obtain⟨ao,cap,rfl⟩:=nK K0.1;have hBw:E.B≤w.heap.size:=hp.dX;have hm:=HM.out
  by_cases hf:s.fE=0
  ·have HO:=ah (jD { E with R:=R } s hf _ K0.2.2.2.1)
   by_cases hx:aV E.toks s first=true
   ·have HX:=ah (fun w hp hv=>Bw { E with R:=R } HE.out (.slice fa first.length fc) first s true hx w hp hv HFL.out)
    cases r with
    | zero =>
     rw[jk,if_pos ⟨hf,hx⟩] at hl
     injection hl with hl
     have Ra:=ah (fun w hp=>kU { E with R:=R } HE.out 15 s w hp);have HL:=ah hl
     have hkb:((kids.length:Int) == (most:Int))=true:=by rw[beq_iff_eq];omega
     have hkn:(kids.length == most)=true:=by rw[beq_iff_eq];omega
     clear hl hf hx hlen;go_wp2_with (go_at_call 101;refine HO.out.mono ?_);rintro e w2 ⟨rfl,hq,hkq⟩;have K2:=K0.call hq hkq;clear hq hkq;go_wp2_with (go_at_call 165;refine(HX.out _ K2.2.2.2.1 (HF.out _ K2.2.2.2.2)).mono ?_);rintro e w3 ⟨rfl,hq,hkq⟩;have K3:=K2.call hq hkq;clear hq hkq;go_wp2_with (go_at_call 166;refine(Ra.out _ K3.2.2.2.1).mono ?_);rintro e w4 ⟨rfl,hq,hkq⟩;have K4:=K3.call hq hkq;clear hq hkq;go_wp2;go_ret;have e4:=HL.out;subst e4;exact⟨_,R,rfl,vI.out,K4⟩
    | succ r =>
     rw[jk,if_pos ⟨hf,hx⟩] at hl;obtain⟨k,h1,hl⟩:=bP hl;have hnk:k.2.nodes.length+1≤1099511627776:=aC (nL ET.out _ _ _ _ hl) HN.out;have HCK:Hid (k.2.clause=false):=ah (by rw[(ET.out s k h1).2.2.1];exact hsc);have HK:=ah (fun w' hp=>Cc.out R s k w' hsc h1 hp hnk);have HL:=ah hl
     have hkb:((kids.length:Int) == (most:Int))=false:=by rw[← Bool.not_eq_true,beq_iff_eq];omega
     have hkn:(kids.length == most)=false:=by rw[← Bool.not_eq_true,beq_iff_eq];omega
     have HLEN:=ah hlen
     have hkl:kids.length≤1000:=by omega
     clear hl h1 hf hx hlen hnk;go_wp2_with (go_at_call 101;refine HO.out.mono ?_);rintro e w2 ⟨rfl,hq,hkq⟩;have K2:=K0.call hq hkq;clear hq hkq;go_wp2_with (go_at_call 165;refine(HX.out _ K2.2.2.2.1 (HF.out _ K2.2.2.2.2)).mono ?_);rintro e w3 ⟨rfl,hq,hkq⟩;have K3:=K2.call hq hkq;clear hq hkq K2 K0;go_wp2_with (go_at_call 104;refine(HK.out _ K3.2.2.2.1).mono ?_);rintro e w4 ⟨rfl,hq,hkq⟩;have K4:=K3.call hq hkq;clear hq hkq K3;have hL:=K4.lit (.cells #[.int .i64 k.1] 3);have hnw:=heap_alloc_new w4 (.cells #[.int .i64 k.1] 3);go_wp2_with (at_builtin;refine wpList_append_lies _ rfl _ _ 51 rfl w.heap.size 3 i0 (.int .i64 0) 1 8 Tryz.underlying51 hi hz0 hz1 hz2 rfl (by decide) _ (kids.length) _ rfl hL.1 ⟨w4.heap.size,0,none⟩ 1 1 [.int .i64 k.1] rfl rfl ?c1 ?c2 ?c3 ?c4 ?c5 ?c6 _ rfl ?_)
     case c1=>exact World.news_of_block (cs:=#[.int .i64 k.1]) (t:=3) (fr:=(0,0)) hnw
     case c2=>simp[Value.oneCell']
     case c3=>omega
     case c4=>unfold maxLen;omega
     case c5=>omega
     case c6=>exact hL.2.2.2.2.size
     intro g5 cap5 w5 hown hgrow hat hlt;obtain⟨R5,K5⟩:=hL.app (news:=[k.1]) hBw (by simp) hown hgrow hat (by simp) hlt;clear hL hnw hown hgrow hat hlt K4;go_wp2
     go_roundw
     case rel=>exact⟨r,kids++[k.1],k.2,R5,by have:=HLEN.out;simp;omega,HL.out,K5,HCK.out,fun q=>by simp at q⟩
     case measure=>have:=HLEN.out;simp[slN];omega
   ·have hl':(kids,s)=res:=by
     cases r with
     | zero=>rw[jk,if_neg (fun q=>hx q.2)] at hl;injection hl
     | succ r=>rw[jk,if_neg (fun q=>hx q.2)] at hl;injection hl
    have HX:=ah (fun w hp hv=>Bw { E with R:=R } HE.out (.slice fa first.length fc) first s false (eq_false_of_ne_true hx) w hp hv HFL.out);have HL:=ah hl';clear hl hl' hf hx hlen;go_wp2_with (go_at_call 101;refine HO.out.mono ?_);rintro e w2 ⟨rfl,hq,hkq⟩;have K2:=K0.call hq hkq;clear hq hkq;go_wp2_with (go_at_call 165;refine(HX.out _ K2.2.2.2.1 (HF.out _ K2.2.2.2.2)).mono ?_);rintro e w3 ⟨rfl,hq,hkq⟩;have K3:=K2.call hq hkq;clear hq hkq;go_wp2;go_ret;have e4:=HL.out;subst e4;exact⟨_,R,rfl,vI.out,K3⟩
  ·have HO:=ah (sK { E with R:=R } s hf _ K0.2.2.2.1)
   have hl':(kids,s)=res:=by
    cases r with
    | zero=>rw[jk,if_neg (fun q=>hf q.1)] at hl;injection hl
    | succ r=>rw[jk,if_neg (fun q=>hf q.1)] at hl;injection hl
   have HL:=ah hl';clear hl hl' hf hlen;go_wp2_with (go_at_call 101;refine HO.out.mono ?_);rintro e w2 ⟨rfl,hq,hkq⟩;have K2:=K0.call hq hkq;clear hq hkq;go_wp2;go_ret;have e4:=HL.out;subst e4;exact⟨_,R,rfl,vI.out,K2⟩
theorem Jq (E:aW)(hE:E.ok)(one:aB→Option (Int × aB))(first:List (List UInt8))(fa:Option Addr)(fc:Nat)(most:Nat)(hm:most≤1000)(st:aB)(res:List Int × aB)(w:World)(h:jk E.toks one first most [] st=some res)(hp:PW E st w)(hn:res.2.nodes.length+1≤1099511627776)(hcl:st.clause=false)
  (hF:∀ wr,Kp E.B w wr→kF wr (.slice fa first.length fc) first) (hfl:first.length≤1000) (hext:∀ s k,one s=some k→dB s k.2)
  (hone:∀ (R:List Nat) (s:aB) (k:Int × aB) (w':World),s.clause=false→one s=some k→PR E R s w'→k.2.nodes.length+1≤1099511627776 →
   Calls Tryz.prog 105 #[.pointer (some ⟨E.pb,0,none⟩)] w' (dL { E with R:=R } k w')) :
  Calls Tryz.prog 103 #[.pointer (some ⟨E.pb,0,none⟩),.int .i64 most,.func (.func 105) #[.pointer (some ⟨E.pb,0,none⟩)] #[],.slice fa first.length fc] w (Yd E w res):=by
 obtain⟨i0,hi,hz0,hz1,hz2⟩:=info_parts Tryz.lQ;have H0:=ah h;have Cc:=ah hone;have ET:=ah hext;have HN:=ah hn;have HE:=ah hE;have HF:=ah hF;have HFL:=ah hfl;have HM:=ah hm;clear hone hext h hn hF hE hfl hm;go_enter Tryz.func103,Tryz.ntmps103;go_wp2
 go_loopw [9] (fun kv wr=>aaT E one first most res w kv wr) (fun kv _=>most - slN kv)
 case atStart=>exact⟨most,[],st,E.R,by simp,H0.out,iU.none hp,hcl,fun _=>rfl⟩
 case round =>
  obtain⟨r,kids,s,R,hlen,hl,K0,hsc,hnil⟩:=hrel;have vI:=ah hnil;clear hnil;obtain⟨ao,cap,rfl⟩:=nK K0.1;have hBw:E.B≤w.heap.size:=hp.dX;have hm:=HM.out
  by_cases hf:s.fE=0
  ·have HO:=ah (jD { E with R:=R } s hf _ K0.2.2.2.1)
   by_cases hx:aV E.toks s first=true
   ·have HX:=ah (fun w hp hv=>Bw { E with R:=R } HE.out (.slice fa first.length fc) first s true hx w hp hv HFL.out)
    cases r with
    | zero =>
     rw[jk,if_pos ⟨hf,hx⟩] at hl
     injection hl with hl
     have Ra:=ah (fun w hp=>kU { E with R:=R } HE.out 15 s w hp);have HL:=ah hl
     have hkb:((kids.length:Int) == (most:Int))=true:=by rw[beq_iff_eq];omega
     have hkn:(kids.length == most)=true:=by rw[beq_iff_eq];omega
     clear hl hf hx hlen;go_wp2_with (go_at_call 101;refine HO.out.mono ?_);rintro e w2 ⟨rfl,hq,hkq⟩;have K2:=K0.call hq hkq;clear hq hkq;go_wp2_with (go_at_call 165;refine(HX.out _ K2.2.2.2.1 (HF.out _ K2.2.2.2.2)).mono ?_);rintro e w3 ⟨rfl,hq,hkq⟩;have K3:=K2.call hq hkq;clear hq hkq;go_wp2_with (go_at_call 166;refine(Ra.out _ K3.2.2.2.1).mono ?_);rintro e w4 ⟨rfl,hq,hkq⟩;have K4:=K3.call hq hkq;clear hq hkq;go_wp2;go_ret;have e4:=HL.out;subst e4;exact⟨_,R,rfl,vI.out,K4⟩
    | succ r =>
     rw[jk,if_pos ⟨hf,hx⟩] at hl;obtain⟨k,h1,hl⟩:=bP hl;have hnk:k.2.nodes.length+1≤1099511627776:=aC (nL ET.out _ _ _ _ hl) HN.out;have HCK:Hid (k.2.clause=false):=ah (by rw[(ET.out s k h1).2.2.1];exact hsc);have HK:=ah (fun w' hp=>Cc.out R s k w' hsc h1 hp hnk);have HL:=ah hl
     have hkb:((kids.length:Int) == (most:Int))=false:=by rw[← Bool.not_eq_true,beq_iff_eq];omega
     have hkn:(kids.length == most)=false:=by rw[← Bool.not_eq_true,beq_iff_eq];omega
     have HLEN:=ah hlen
     have hkl:kids.length≤1000:=by omega
     clear hl h1 hf hx hlen hnk;go_wp2_with (go_at_call 101;refine HO.out.mono ?_);rintro e w2 ⟨rfl,hq,hkq⟩;have K2:=K0.call hq hkq;clear hq hkq;go_wp2_with (go_at_call 165;refine(HX.out _ K2.2.2.2.1 (HF.out _ K2.2.2.2.2)).mono ?_);rintro e w3 ⟨rfl,hq,hkq⟩;have K3:=K2.call hq hkq;clear hq hkq K2 K0;go_wp2_with (go_at_call 105;refine(HK.out _ K3.2.2.2.1).mono ?_);rintro e w4 ⟨rfl,hq,hkq⟩;have K4:=K3.call hq hkq;clear hq hkq K3;have hL:=K4.lit (.cells #[.int .i64 k.1] 3);have hnw:=heap_alloc_new w4 (.cells #[.int .i64 k.1] 3);go_wp2_with (at_builtin;refine wpList_append_lies _ rfl _ _ 51 rfl w.heap.size 3 i0 (.int .i64 0) 1 8 Tryz.underlying51 hi hz0 hz1 hz2 rfl (by decide) _ (kids.length) _ rfl hL.1 ⟨w4.heap.size,0,none⟩ 1 1 [.int .i64 k.1] rfl rfl ?c1 ?c2 ?c3 ?c4 ?c5 ?c6 _ rfl ?_)
     case c1=>exact World.news_of_block (cs:=#[.int .i64 k.1]) (t:=3) (fr:=(0,0)) hnw
     case c2=>simp[Value.oneCell']
     case c3=>omega
     case c4=>unfold maxLen;omega
     case c5=>omega
     case c6=>exact hL.2.2.2.2.size
     intro g5 cap5 w5 hown hgrow hat hlt;obtain⟨R5,K5⟩:=hL.app (news:=[k.1]) hBw (by simp) hown hgrow hat (by simp) hlt;clear hL hnw hown hgrow hat hlt K4;go_wp2
     go_roundw
     case rel=>exact⟨r,kids++[k.1],k.2,R5,by have:=HLEN.out;simp;omega,HL.out,K5,HCK.out,fun q=>by simp at q⟩
     case measure=>have:=HLEN.out;simp[slN];omega
   ·have hl':(kids,s)=res:=by
     cases r with
     | zero=>rw[jk,if_neg (fun q=>hx q.2)] at hl;injection hl
     | succ r=>rw[jk,if_neg (fun q=>hx q.2)] at hl;injection hl
    have HX:=ah (fun w hp hv=>Bw { E with R:=R } HE.out (.slice fa first.length fc) first s false (eq_false_of_ne_true hx) w hp hv HFL.out);have HL:=ah hl';clear hl hl' hf hx hlen;go_wp2_with (go_at_call 101;refine HO.out.mono ?_);rintro e w2 ⟨rfl,hq,hkq⟩;have K2:=K0.call hq hkq;clear hq hkq;go_wp2_with (go_at_call 165;refine(HX.out _ K2.2.2.2.1 (HF.out _ K2.2.2.2.2)).mono ?_);rintro e w3 ⟨rfl,hq,hkq⟩;have K3:=K2.call hq hkq;clear hq hkq;go_wp2;go_ret;have e4:=HL.out;subst e4;exact⟨_,R,rfl,vI.out,K3⟩
  ·have HO:=ah (sK { E with R:=R } s hf _ K0.2.2.2.1)
   have hl':(kids,s)=res:=by
    cases r with
    | zero=>rw[jk,if_neg (fun q=>hf q.1)] at hl;injection hl
    | succ r=>rw[jk,if_neg (fun q=>hf q.1)] at hl;injection hl
   have HL:=ah hl';clear hl hl' hf hlen;go_wp2_with (go_at_call 101;refine HO.out.mono ?_);rintro e w2 ⟨rfl,hq,hkq⟩;have K2:=K0.call hq hkq;clear hq hkq;go_wp2;go_ret;have e4:=HL.out;subst e4;exact⟨_,R,rfl,vI.out,K2⟩
theorem Qj {toks:List Tok}{d g:Nat}{kids:List Int}{st:aB}{r:List Int × aB}(h:gQ toks d g kids st=some r):r.1.length≤kids.length+3:=by
 unfold gQ at h
 split at h
 ·obtain⟨n,h2,h⟩:=bP h
  obtain rfl:=Option.some.inj h
  simp
 ·obtain rfl:=Option.some.inj h
  simp
theorem Ye (toks:List Tok)(st:aB):(mQ toks st).1.length≤1:=by
 unfold mQ
 split<;>simp
theorem EC (E:aW)(hE:E.ok)(g:Nat)(st:aB)(r:Int × aB)(w:World)(h:vK E.toks E.depth g st=some r)(hp:PW E st w)(hn:r.2.nodes.length+1≤1099511627776)(hcl:st.clause=false) :
  Calls Tryz.prog 105 #[.pointer (some ⟨E.pb,0,none⟩)] w (dL E r w):=by
 have sW:=hE.2.2;obtain⟨i0,hi,hz0,hz1,hz2⟩:=info_parts Tryz.lQ;have hB:E.B≤w.heap.size:=hp.dX;unfold vK at h;obtain⟨l,h1,h⟩:=bP h;obtain⟨t,h2,h⟩:=bP h;obtain⟨f,h3,h⟩:=bP h;obtain rfl:=Option.some.inj h;have n9:=aC (aD _ _ _) hn;have n8:=aC (aF _ _ _) n9;have n7:=aC (aP _ _ _ _ _ _ h3) n8;have n6:=aC (aF _ _ _) n7;have n5:=aC (jl h2) n6;have n4:=aC (aF _ _ _) n5;have n3:(iX E.toks st).2.nodes.length+1≤1099511627776:=aC (kT E.toks _ jQ _ _ h1) n4;have n2:(jY E.toks st).2.nodes.length+1≤1099511627776:=aC (aF _ _ _) n3;have n1:(qx E.toks st).2.nodes.length+1≤1099511627776:=aC (dZ _ _ _) n2;have n0:(mQ E.toks st).2.nodes.length+1≤1099511627776:=aC (aF _ _ _) n1;have nl:st.nodes.length+1≤1099511627776:=aC (Lg E.toks st) n0
 have hc3:(iX E.toks st).2.clause=false:=by rw[(CQ E.toks st).2.2.1];exact hcl
 have hc4:l.2.clause=false:=by rw[(kT E.toks _ jQ _ _ h1).2.2.1];exact hc3
 have hc5:(aA E.toks [[41]] l.2).2.clause=false:=by rw[(aF E.toks [[41]] l.2).2.2.1];exact hc4
 have hll:=FX _ _ _ _ h1;have hpl:=Ye E.toks st;have htl:=Qj h2;simp only[bC,dI,List.length_nil] at htl;have HX:=ah (tV E hE ⟨#[112,117,98]⟩ st w hp);have HLf:=ah (fun R w hp=>bI { E with R:=R } st w hp hE.1 hE.2.1 nl);have Xg:=ah (fun R w hp=>dN { E with R:=R } hE ⟨#[102,117,110]⟩ (mQ E.toks st).2 w hp n0);have KI:=ah (fun R w hp=>qN { E with R:=R } hE 1 (qx E.toks st).2 w hp n1);have HM3:=ah (fun R w hp=>dN { E with R:=R } hE ⟨#[40]⟩ (jY E.toks st).2 w hp n2);have HLi:=ah (fun R w hp=>Qi { E with R:=R } hE (iW E.toks E.depth g) (iX E.toks st).2 l w h1 hp n4 hc3 jQ (fun R2 s k w' hsc hk hq _ hnk=>Uu { E with R:=R2 } hE g s k w' hk hq hnk hsc));have HM4:=ah (fun R w hp=>dN { E with R:=R } hE ⟨#[41]⟩ l.2 w hp n4);have HTy:=ah (fun W0 R v W K hB hl=>GQ E hE g W0 R v _ _ t W h2 K hB n6 hc5 hl);have X6:=ah (fun R w hp=>dN { E with R:=R } hE ⟨#[61]⟩ t.2 w hp n6);have HM6:=ah (fun R w hp=>allT { E with R:=R } hE g (.expr 1) (aA E.toks [[61]] t.2).2 f w h3 hp n8 (by show 1≤_;omega));have HM7:=ah (fun R w hp=>dN { E with R:=R } hE ⟨#[59]⟩ f.2 w hp n8);have UW:=ah (fun R v w hp hv=>jW { E with R:=R } 3 v (t.1++[(aA E.toks [[61]] t.2).1,f.1,(aA E.toks [[59]] f.2).1]) (aA E.toks [[59]] f.2).2 w hp hv (by simp;omega) n9);clear n0 n1 n2 n3 n4 n5 n6 n7 n8 n9 nl hn h1 h2 h3 h hc3 hc4 hc5;have hx0:aV E.toks st [(⟨#[112,117,98]⟩:ByteArray).data.toList]=aV E.toks st [zw]:=rfl;rw[hx0] at HX;clear hx0;have HPU:Hid ((aV E.toks st [zw]=true→mQ E.toks st=([(ay E.toks st).1],(ay E.toks st).2))∧(aV E.toks st [zw]=false→mQ E.toks st=([],st))):=ah ⟨fun q=>by rw[mQ,if_pos q],fun q=>by rw[mQ,if_neg (by rw[q];decide)]⟩;generalize aV E.toks st [zw]=x at HX HPU;go_enter Tryz.func105,Tryz.ntmps105
 go_upto_if 6 with (go_at_call 165;refine HX.out.mono ?_;rintro e w1 ⟨rfl,hq,hkq⟩)
 have K1:=(iU.none hp).call hq hkq;clear hq hkq HX
 go_cut [3] (fun v wc=>∃ R ao cap,v=.slice ao (mQ E.toks st).1.length cap∧iU E w R (.slice ao (mQ E.toks st).1.length cap) (mQ E.toks st).1 (mQ E.toks st).2 wc)
 case first =>
  cases x with
  | true =>
   have HPV:=ah (HPU.out.1 rfl);obtain⟨d0,_,_,_,_,_⟩:=PW.cells K1.2.2.2.1;have HLG:=ah (HLf.out E.R w1 K1.2.2.2.1);clear hpl htl;go_wp2_with (go_at_call 167;refine HLG.out.mono ?_);rintro e w2 ⟨rfl,hq,hkq⟩;have K2:=K1.call hq hkq;clear hq hkq HLG d0;have hL:=K2.lit (.cells #[.int .i64 (ay E.toks st).1] 3);have hnw:=heap_alloc_new w2 (.cells #[.int .i64 (ay E.toks st).1] 3);go_wp2_with (at_builtin;refine wpList_append_lies _ rfl _ _ 51 rfl w.heap.size 3 i0 (.int .i64 0) 1 8 Tryz.underlying51 hi hz0 hz1 hz2 rfl (by decide) _ (0) _ rfl (hL.row (rfl:([]:List Int).length=0)) ⟨w2.heap.size,0,none⟩ 1 1 [.int .i64 (ay E.toks st).1] rfl rfl ?c1 ?c2 ?c3 ?c4 ?c5 ?c6 _ rfl ?_)
   case c1=>exact World.news_of_block (cs:=#[.int .i64 (ay E.toks st).1]) (t:=3) (fr:=(0,0)) hnw
   case c2=>simp[Value.oneCell']
   case c3=>omega
   case c4=>unfold maxLen;omega
   case c5=>omega
   case c6=>exact hL.2.2.2.2.size
   intro g3 Yf w3 hown hgrow hat hlt;obtain⟨R3,K3⟩:=hL.app (news:=[(ay E.toks st).1]) (n:=0+1) hB (by rw[bC,(rfl:([]:List Int).length=0)];rfl) hown hgrow hat (by simp) hlt;clear hL hnw hown hgrow hat hlt;generalize hkk:([]:List Int)++[(ay E.toks st).1]=kk3 at K3;have Nn:Hid (kk3.length=0+1):=ah (by rw[← hkk,bC,(rfl:([]:List Int).length=0)];rfl);have HK3:=ah hkk;clear hkk;go_wp2
   go_meet
   rw[HPV.out];refine⟨R3,some ⟨g3,0,none⟩,Yf,rfl,?_⟩;have e3:=K3;rw[← HK3.out] at e3;exact e3
  | false =>
   have HPV:=ah (HPU.out.2 rfl);clear hpl htl;go_wp2
   go_meet
   rw[HPV.out];exact⟨E.R,none,0,rfl,K1⟩
 case rest =>
  obtain⟨R3,ao3,Yf,rfl,K3⟩:=hcut;clear K1 HLf HPU
  obtain⟨w3,rfl⟩:∃ w3:World,w3=wc:=⟨_,rfl⟩
  generalize hk0:(mQ E.toks st).1=k0 at hpl htl HTy K3;have QY:=ah hk0;clear hk0;have uI:=ah (Xg.out R3 _ K3.2.2.2.1);go_wp2_with (go_at_call 168;refine uI.out.mono ?_);rintro e w4 ⟨rfl,hq,hkq⟩;have K4:=K3.call hq hkq;clear hq hkq uI;have uI:=ah (KI.out R3 _ K4.2.2.2.1);go_wp2_with (go_at_call 107;refine uI.out.mono ?_);rintro e w5 ⟨rfl,hq,hkq⟩;have K5:=K4.call hq hkq;clear hq hkq uI;have uI:=ah (HM3.out R3 _ K5.2.2.2.1);go_wp2_with (go_at_call 168;refine uI.out.mono ?_);rintro e w6 ⟨rfl,hq,hkq⟩;have K6:=K5.call hq hkq;clear hq hkq uI;clear K3 K4 K5 Xg KI HM3;have hL:=K6.lit (.cells #[.int .i64 (qx E.toks st).1,.int .i64 (jY E.toks st).1,.int .i64 (iX E.toks st).1] 3);have hnw:=heap_alloc_new w6 (.cells #[.int .i64 (qx E.toks st).1,.int .i64 (jY E.toks st).1,.int .i64 (iX E.toks st).1] 3);go_wp2_with (at_builtin;refine wpList_append_lies _ rfl _ _ 51 rfl w.heap.size 3 i0 (.int .i64 0) 1 8 Tryz.underlying51 hi hz0 hz1 hz2 rfl (by decide) _ (k0.length) _ rfl (hL.row (rfl:k0.length=k0.length)) ⟨w6.heap.size,0,none⟩ 3 3 [.int .i64 (qx E.toks st).1,.int .i64 (jY E.toks st).1,.int .i64 (iX E.toks st).1] rfl rfl ?c1 ?c2 ?c3 ?c4 ?c5 ?c6 _ rfl ?_)
  case c1=>exact World.news_of_block (cs:=#[.int .i64 (qx E.toks st).1,.int .i64 (jY E.toks st).1,.int .i64 (iX E.toks st).1]) (t:=3) (fr:=(0,0)) hnw
  case c2=>simp[Value.oneCell']
  case c3=>omega
  case c4=>unfold maxLen;omega
  case c5=>omega
  case c6=>exact hL.2.2.2.2.size
  intro g7 afh w7 hown hgrow hat hlt;obtain⟨R7,K7⟩:=hL.app (news:=[(qx E.toks st).1,(jY E.toks st).1,(iX E.toks st).1]) (n:=k0.length+3) hB (by rw[bC,(rfl:k0.length=k0.length)];rfl) hown hgrow hat (by simp) hlt;clear hL hnw hown hgrow hat hlt;generalize hkk:k0++[(qx E.toks st).1,(jY E.toks st).1,(iX E.toks st).1]=kk7 at K7;have HL7:Hid (kk7.length=k0.length+3):=ah (by rw[← hkk,bC,(rfl:k0.length=k0.length)];rfl);have HK7:=ah hkk;clear hkk;clear K6
  go_upto_region 5 with fail
  go_cut [3] (fun v wc=>∃ R ao cap,v=.slice ao (k0.length+3+l.1.length) cap∧iU E w R (.slice ao (k0.length+3+l.1.length) cap) (kk7++l.1) l.2 wc)
  case first =>
   have HLJ:=ah (HLi.out R7 _ K7.2.2.2.1)
   have hmf:∀ (fn:Fn) (first cap:Array Value) (w:World),(Instr.makeFunc fn first cap).run Tryz.prog w=.ok (.func fn first cap) w:=fun _ _ _ _=>rfl
   clear HLi;go_wp2_with (go_at_call 169;refine HLJ.out.mono ?_);rintro e w8 ⟨v,rfl,hiv,hnil,hq,hkq⟩;have K8:=K7.call hq hkq;clear hq hkq HLJ K7
   by_cases hl0:l.1=[]
   ·obtain rfl:=hnil hl0
    have hlz:l.1.length=0:=by rw[hl0];rfl
    go_wp2_with (at_builtin;refine wpList_append_own_none rfl _ _ 51 rfl w.heap.size 3 i0 1 Tryz.underlying51 hi _ (k0.length+3) _ rfl (K8.row HL7.out) rfl ?_);go_wp2
    go_meet
    refine⟨R7,some ⟨g7,0,none⟩,afh,by rw[hlz],?_⟩;rw[hl0,List.append_nil];exact K8
   ·have hpos:0<l.1.length:=List.length_pos_iff.2 hl0
    obtain⟨aov,Ov,rfl,hcv,hf⟩:=hiv;obtain⟨vb,vo,vcs,vfr,rfl,hh,hj⟩:=hf hpos;clear hnil hl0 hf;go_wp2_with (at_builtin;refine wpList_append_lies _ rfl _ _ 51 rfl w.heap.size 3 i0 (.int .i64 0) 1 8 Tryz.underlying51 hi hz0 hz1 hz2 rfl (by decide) _ (k0.length+3) _ rfl (K8.row HL7.out) ⟨vb,vo,none⟩ l.1.length Ov (l.1.map (Value.int .i64)) rfl (by simp) ?c1 ?c2 ?c3 ?c4 ?c5 ?c6 _ rfl ?_)
    case c1=>exact uW hh hj
    case c2=>intro u hu;obtain⟨y,_,rfl⟩:=List.mem_map.1 hu;rfl
    case c3=>exact hpos
    case c4=>unfold maxLen;omega
    case c5=>omega
    case c6=>exact K8.2.2.2.2.size
    intro g9 adQ w9 hown hgrow hat hlt;obtain⟨R9,K9⟩:=K8.app (news:=l.1) (n:=k0.length+3+l.1.length) hB (by rw[bC,HL7.out]) hown hgrow hat (by simp) hlt;clear hown hgrow hat hlt K8 hh hj;go_wp2
    go_meet
    exact⟨R9,some ⟨g9,0,none⟩,adQ,rfl,K9⟩
  case rest =>
   obtain⟨R9,ao9,adQ,rfl,K9⟩:=hcut;clear K7 HLi
   obtain⟨w9,rfl⟩:∃ w9:World,w9=wc:=⟨_,rfl⟩
   generalize VB:kk7++l.1=kk9 at K9;have HL9:Hid (kk9.length=k0.length+3+l.1.length):=ah (by rw[← VB,bC,HL7.out]);have HK9:=ah VB;clear VB;generalize hm9:k0.length+3+l.1.length=m9 at K9 HL9 htl
   have agf:m9≤1000:=by omega
   clear hm9;have uI:=ah (HM4.out R9 _ K9.2.2.2.1);go_wp2_with (go_at_call 168;refine uI.out.mono ?_);rintro e kW ⟨rfl,hq,hkq⟩;have FY:=K9.call hq hkq;clear hq hkq uI;have hL:=FY.lit (.cells #[.int .i64 (aA E.toks [[41]] l.2).1] 3);have hnw:=heap_alloc_new kW (.cells #[.int .i64 (aA E.toks [[41]] l.2).1] 3);go_wp2_with (at_builtin;refine wpList_append_lies _ rfl _ _ 51 rfl w.heap.size 3 i0 (.int .i64 0) 1 8 Tryz.underlying51 hi hz0 hz1 hz2 rfl (by decide) _ (m9) _ rfl (hL.row HL9.out) ⟨kW.heap.size,0,none⟩ 1 1 [.int .i64 (aA E.toks [[41]] l.2).1] rfl rfl ?c1 ?c2 ?c3 ?c4 ?c5 ?c6 _ rfl ?_)
   case c1=>exact World.news_of_block (cs:=#[.int .i64 (aA E.toks [[41]] l.2).1]) (t:=3) (fr:=(0,0)) hnw
   case c2=>simp[Value.oneCell']
   case c3=>omega
   case c4=>unfold maxLen;omega
   case c5=>omega
   case c6=>exact hL.2.2.2.2.size
   intro g11 afy um hown hgrow hat hlt;obtain⟨R11,zq⟩:=hL.app (news:=[(aA E.toks [[41]] l.2).1]) (n:=m9+1) hB (by rw[bC,HL9.out];rfl) hown hgrow hat (by simp) hlt;clear hL hnw hown hgrow hat hlt;generalize hkk:kk9++[(aA E.toks [[41]] l.2).1]=adR at zq;have agh:Hid (adR.length=m9+1):=ah (by rw[← hkk,bC,HL9.out];rfl);have afi:=ah hkk;clear hkk
   have adS:adR=k0++[(qx E.toks st).1,(jY E.toks st).1,(iX E.toks st).1]++l.1++[(aA E.toks [[41]] l.2).1]:=by rw[← afi.out,← HK9.out,← HK7.out]
   have ab5:=zq;rw[adS] at ab5;have HTz:=ah (HTy.out w R11 _ um ab5 hB (by simp;omega));clear adS ab5 HTy K9 FY HM4;go_wp2_with (go_at_call 171;refine HTz.out.mono ?_);rintro e w12 ⟨v12,R12,rfl,yQ⟩;clear HTz zq;obtain⟨agi,QG,rfl⟩:=nK yQ.1
   have agj:t.1.length≤1000000:=by omega
   clear htl;have uI:=ah (X6.out R12 _ yQ.2.2.2.1);go_wp2_with (go_at_call 168;refine uI.out.mono ?_);rintro e w13 ⟨rfl,hq,hkq⟩;have Ba:=yQ.call hq hkq;clear hq hkq uI;have uI:=ah (HM6.out R12 _ Ba.2.2.2.1);go_wp2_with (go_at_call 172;refine uI.out.mono ?_);rintro e w14 ⟨rfl,hq,hkq⟩;have K14:=Ba.call hq hkq;clear hq hkq uI;have uI:=ah (HM7.out R12 _ K14.2.2.2.1);go_wp2_with (go_at_call 168;refine uI.out.mono ?_);rintro e w15 ⟨rfl,hq,hkq⟩;have K15:=K14.call hq hkq;clear hq hkq uI;clear yQ Ba K14 X6 HM6 HM7;have hL:=K15.lit (.cells #[.int .i64 (aA E.toks [[61]] t.2).1,.int .i64 f.1,.int .i64 (aA E.toks [[59]] f.2).1] 3);have hnw:=heap_alloc_new w15 (.cells #[.int .i64 (aA E.toks [[61]] t.2).1,.int .i64 f.1,.int .i64 (aA E.toks [[59]] f.2).1] 3);go_wp2_with (at_builtin;refine wpList_append_lies _ rfl _ _ 51 rfl w.heap.size 3 i0 (.int .i64 0) 1 8 Tryz.underlying51 hi hz0 hz1 hz2 rfl (by decide) _ (t.1.length) _ rfl (hL.row (rfl:t.1.length=t.1.length)) ⟨w15.heap.size,0,none⟩ 3 3 [.int .i64 (aA E.toks [[61]] t.2).1,.int .i64 f.1,.int .i64 (aA E.toks [[59]] f.2).1] rfl rfl ?c1 ?c2 ?c3 ?c4 ?c5 ?c6 _ rfl ?_)
   case c1=>exact World.news_of_block (cs:=#[.int .i64 (aA E.toks [[61]] t.2).1,.int .i64 f.1,.int .i64 (aA E.toks [[59]] f.2).1]) (t:=3) (fr:=(0,0)) hnw
   case c2=>simp[Value.oneCell']
   case c3=>omega
   case c4=>unfold maxLen;omega
   case c5=>omega
   case c6=>exact hL.2.2.2.2.size
   intro g16 afz w16 hown hgrow hat hlt;obtain⟨R16,K16⟩:=hL.app (news:=[(aA E.toks [[61]] t.2).1,f.1,(aA E.toks [[59]] f.2).1]) (n:=t.1.length+3) hB (by rw[bC,(rfl:t.1.length=t.1.length)];rfl) hown hgrow hat (by simp) hlt;clear hL hnw hown hgrow hat hlt;generalize hkk:t.1++[(aA E.toks [[61]] t.2).1,f.1,(aA E.toks [[59]] f.2).1]=afj at K16;have agk:Hid (afj.length=t.1.length+3):=ah (by rw[← hkk,bC,(rfl:t.1.length=t.1.length)];rfl);have afk:=ah hkk;clear hkk;clear K15;have e16:=K16;rw[← afk.out] at e16;have HNp:=ah (UW.out R16 _ _ e16.2.2.2.1 e16.node);clear e16 UW;go_wp2_with (go_at_call 106;refine HNp.out.mono ?_);rintro e w17 ⟨rfl,hq,hkq⟩;have K17:=K16.call hq hkq;go_wp2;go_ret;exact⟨rfl,PR.drop K17.2.2.2.1 K17.2.2.1,K17.2.2.2.2⟩
theorem GR {B:Nat}{w wr:World}{cs:Array Value}{fr:Nat × Nat}{b n cap:Nat}{l:List (List UInt8)}(h:w.heap[b]?=some (.cells cs 9 fr))(hk:Kp B w wr)(hn:l.length=n)(hc:∀ j,(hj:j<l.length)→cs[j]?=some (.string ⟨l[j].toArray⟩)):kF wr (.slice (some ⟨b,0,none⟩) n cap) l:=by
 subst hn;have h2:=hk.2 _ _ _ _ h (by decide) (by decide) (by decide);refine⟨b,0,cap,rfl,(bQ h2).1,fun j hj=>?_⟩;rw[Nat.zero_add];rw[Lib.cell_of_heap h2]
 simpa using hc j hj
theorem M8 (E:aW)(hE:E.ok)(g:Nat)(st:aB)(r:Int × aB)(w:World)(h:nZ E.toks E.depth g st=some r)(hp:PW E st w)(hcl:st.clause=false)(hn:r.2.nodes.length+1≤1099511627776) :
  Calls Tryz.prog 64 #[.pointer (some ⟨E.pb,0,none⟩)] w (aaD E r.2 w):=by
 obtain⟨i0,hi,hz0,hz1,hz2⟩:=info_parts Tryz.lQ;have hB:E.B≤w.heap.size:=hp.dX;unfold nZ at h;obtain⟨a,h1,h⟩:=bP h;obtain⟨b,h2,h⟩:=bP h;obtain rfl:=Option.some.inj h;have n3:=aC (aD _ _ _) hn;have n2:=aC (dZ _ _ _) n3;have n1:=aC (nL uw _ _ _ _ h2) n2;have hla:=CZ _ _ _ _ h1;have hlb:=CZ _ _ _ _ h2;simp only[List.length_nil] at hla hlb
 have hca:a.2.clause=false:=by rw[(nL (uy E.toks) _ _ _ _ h1).2.2.1];exact hcl
 have EG:=ah (fun w hp hF=>Bg E hE _ [qh] (some ⟨w.heap.size - 1,0,none⟩) 1 16 (by omega) st a w h1 hp n1 hcl hF (by decide) (uy E.toks) (fun R s k w' hsc hk hq hnk=>by
  obtain rfl:=Option.some.inj hk
  exact Jp { E with R:=R } hE s w' hq hnk))
 have HS2:=ah (fun R w hp hF=>Jq { E with R:=R } hE _ [zw,Ik] (some ⟨w.heap.size - 1,0,none⟩) 2 64 (by omega) a.2 b w h2 hp n2 hca hF (by decide) uw (fun R2 s k w' hsc hk hq hnk=>EC { E with R:=R2 } hE g s k w' hk hq hnk hsc));have HKi:=ah (fun R w hp=>qN { E with R:=R } hE 5 b.2 w hp n2);have UW:=ah (fun R v w hp hv=>jW { E with R:=R } 1 v (a.1++b.1++[(aQ E.toks 5 b.2).1]) (aQ E.toks 5 b.2).2 w hp hv (by simp;omega) n3)
 have hmf:∀ (fn:Fn) (first cap:Array Value) (w:World),(Instr.makeFunc fn first cap).run Tryz.prog w=.ok (.func fn first cap) w:=fun _ _ _ _=>rfl
 clear n1 n2 n3 hn h1 h2 h hca;have hs1:=EG.out (w.alloc (.cells #[.string ⟨#[105,109,112,111,114,116]⟩] 9)) (hp.later (aj w _)) (fun wr hk=>GR (by rw[World.size_alloc,Nat.add_sub_cancel];exact heap_alloc_new w _) hk rfl (fun j hj=>by obtain rfl:j=0:=(by simpa using hj);rfl));rw[show (w.alloc (.cells #[.string ⟨#[105,109,112,111,114,116]⟩] 9)).heap.size - 1=w.heap.size by simp] at hs1;have HS:=ah hs1;clear hs1 EG;go_enter Tryz.func64,Tryz.ntmps64
 go_upto_region 1 with (go_at_call 103;refine HS.out.mono ?_;rintro e w1 ⟨v1,R1,rfl,adT,K1'⟩)
 have K1:=K1'.lift (W0:=w) (Kp.of (aj w _) hB);clear K1' HS adT;obtain⟨ao1,adU,rfl⟩:=nK K1.1
 go_cut [2] (fun v wc=>∃ R ao cap,v=.slice ao (a.1.length+b.1.length) cap∧iU E w R (.slice ao (a.1.length+b.1.length) cap) (a.1++b.1) b.2 wc)
 case first =>
  have hs2:=HS2.out R1 (w1.alloc (.cells #[.string ⟨#[112,117,98]⟩,.string ⟨#[102,117,110]⟩] 9)) (PW.later K1.2.2.2.1 (aj w1 _)) (fun wr hk=>GR (by rw[World.size_alloc,Nat.add_sub_cancel];exact heap_alloc_new w1 _) hk rfl (fun j hj=>by
   match j,hj with
   | 0,_=>rfl
   | 1,_=>rfl))
  rw[show (w1.alloc (.cells #[.string ⟨#[112,117,98]⟩,.string ⟨#[102,117,110]⟩] 9)).heap.size - 1=w1.heap.size by simp] at hs2;have HS:=ah hs2;clear hs2 HS2 HKi UW;go_wp2_with (go_at_call 103;refine HS.out.mono ?_);rintro e w2 ⟨v2,R2,rfl,hnil,K2'⟩;have K2:=K1.call (w':=w2) (s':=b.2) (PR.drop K2'.2.2.2.1 K2'.2.2.1) ((Kp.of (aj w1 _) K1.2.2.2.1.dX).trans K2'.2.2.2.2);have hiv:dS w2 v2 b.1:=K2'.node;clear HS K1 K2'
  by_cases hl0:b.1=[]
  ·obtain rfl:=hnil hl0
   have hlz:b.1.length=0:=by rw[hl0];rfl
   go_wp2_with (at_builtin;refine wpList_append_own_none rfl _ _ 51 rfl w.heap.size 3 i0 1 Tryz.underlying51 hi _ (a.1.length) _ rfl (K2.row rfl) rfl ?_);go_wp2
   go_meet
   refine⟨R1,ao1,adU,by rw[hlz];rfl,?_⟩;rw[hl0,List.append_nil];exact K2
  ·have hpos:0<b.1.length:=List.length_pos_iff.2 hl0
   obtain⟨aov,Ov,rfl,hcv,hf⟩:=hiv;obtain⟨vb,vo,vcs,vfr,rfl,hh,hj⟩:=hf hpos;clear hnil hl0 hf;go_wp2_with (at_builtin;refine wpList_append_lies _ rfl _ _ 51 rfl w.heap.size 3 i0 (.int .i64 0) 1 8 Tryz.underlying51 hi hz0 hz1 hz2 rfl (by decide) _ (a.1.length) _ rfl (K2.row rfl) ⟨vb,vo,none⟩ b.1.length Ov (b.1.map (Value.int .i64)) rfl (by simp) ?c1 ?c2 ?c3 ?c4 ?c5 ?c6 _ rfl ?_)
   case c1=>exact uW hh hj
   case c2=>intro u hu;obtain⟨y,_,rfl⟩:=List.mem_map.1 hu;rfl
   case c3=>exact hpos
   case c4=>unfold maxLen;omega
   case c5=>omega
   case c6=>exact K2.2.2.2.2.size
   intro g3 Yf w3 hown hgrow hat hlt;obtain⟨R3,K3⟩:=K2.app (news:=b.1) (n:=a.1.length+b.1.length) hB (by rw[bC]) hown hgrow hat (by simp) hlt;clear hown hgrow hat hlt K2 hh hj;go_wp2
   go_meet
   exact⟨R3,some ⟨g3,0,none⟩,Yf,rfl,K3⟩
 case rest =>
  obtain⟨R3,ao3,Yf,rfl,K3⟩:=hcut;clear K1 HS2
  obtain⟨w3,rfl⟩:∃ w3:World,w3=wc:=⟨_,rfl⟩
  generalize hk3:a.1++b.1=kk3 at K3 UW;have Nn:Hid (kk3.length=a.1.length+b.1.length):=ah (by rw[← hk3,bC]);have HK3:=ah hk3;clear hk3;generalize hm3:a.1.length+b.1.length=m3 at K3 Nn
  have agl:m3≤80:=by omega
  clear hm3 hla hlb;have uI:=ah (HKi.out R3 _ K3.2.2.2.1);go_wp2_with (go_at_call 107;refine uI.out.mono ?_);rintro e w4 ⟨rfl,hq,hkq⟩;have K4:=K3.call hq hkq;clear hq hkq uI;have hL:=K4.lit (.cells #[.int .i64 (aQ E.toks 5 b.2).1] 3);have hnw:=heap_alloc_new w4 (.cells #[.int .i64 (aQ E.toks 5 b.2).1] 3);go_wp2_with (at_builtin;refine wpList_append_lies _ rfl _ _ 51 rfl w.heap.size 3 i0 (.int .i64 0) 1 8 Tryz.underlying51 hi hz0 hz1 hz2 rfl (by decide) _ (m3) _ rfl (hL.row Nn.out) ⟨w4.heap.size,0,none⟩ 1 1 [.int .i64 (aQ E.toks 5 b.2).1] rfl rfl ?c1 ?c2 ?c3 ?c4 ?c5 ?c6 _ rfl ?_)
  case c1=>exact World.news_of_block (cs:=#[.int .i64 (aQ E.toks 5 b.2).1]) (t:=3) (fr:=(0,0)) hnw
  case c2=>simp[Value.oneCell']
  case c3=>omega
  case c4=>unfold maxLen;omega
  case c5=>omega
  case c6=>exact hL.2.2.2.2.size
  intro g5 cap5 w5 hown hgrow hat hlt;obtain⟨R5,K5⟩:=hL.app (news:=[(aQ E.toks 5 b.2).1]) (n:=m3+1) hB (by rw[bC,Nn.out];rfl) hown hgrow hat (by simp) hlt;clear hL hnw hown hgrow hat hlt;generalize hkk:kk3++[(aQ E.toks 5 b.2).1]=kk5 at K5;have TQ:Hid (kk5.length=m3+1):=ah (by rw[← hkk,bC,Nn.out];rfl);have HK5:=ah hkk;clear hkk;clear K3 K4;have e5:=K5;rw[← HK5.out] at e5;have HNp:=ah (UW.out R5 _ _ e5.2.2.2.1 e5.node);clear e5 UW;go_wp2_with (go_at_call 106;refine HNp.out.mono ?_);rintro e w6 ⟨rfl,hq,hkq⟩;have K6:=K5.call hq hkq;go_wp2
  go_end0
  have e6:=PR.drop K6.2.2.2.1 K6.2.2.1;rw[← HK3.out] at e6;simp only[List.append_assoc] at e6 ⊢;exact⟨rfl,e6,K6.2.2.2.2⟩
end Go.Proofs.YtknicmmigbhpcaaGreatDoor
