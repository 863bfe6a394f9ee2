/- Walks and plain laws: ZedumpW, ReadsLawW, ProgLaws, BodyPrint, OfL, ProgItems. -/
import Derived.Test.YtdednahplodojaaGreatDoorD34
set_option maxHeartbeats 16000000
set_option maxRecDepth 100000
set_option linter.unusedVariables false
set_option linter.unusedSimpArgs false
namespace Go.Proofs.YtdednahplodojaaGreatDoor
open Go.RowKit Go
mutual
theorem EAt.ofZ {P:Nat→Prop}{w:World}:∀ {e:PE} {m k:Value},ZAt YA P w m k e.z→EAt XA P w m k e
 | .mk op nm md num txt yes kids at_,m,k,h=>by
  rw [PE.z,ZAt] at h
  obtain ⟨h1,l,h2,h3⟩:=h
  rw [EAt]
  refine ⟨h1,l,?_,EAtL.ofZ h3⟩
  rw [rowsZ_of,zsE_map,List.length_map] at h2
  exact h2
theorem EAtL.ofZ {P:Nat→Prop}{w:World}:∀ {es:List PE} {l:List (Value × Value)},ZAtL YA P w l (zsE es)→EAtL XA P w l es
 | [],l,h=>by rw [zsE,ZAtL] at h;rw [EAtL];exact h
 | e :: es,l,h=>by
  rw [zsE,ZAtL] at h
  obtain ⟨p,l',h1,h2,h3⟩:=h
  rw [EAtL]
  exact ⟨p,l',h1,EAt.ofZ h2,EAtL.ofZ h3⟩
end
mutual
theorem PZ.toE_fits {fm:Bool}:∀ e:PZ,e.right fm=true→e.fit→e.toE.fits 65536
 | .mk op nm md num yes kids at_,h,hf=>by
  have R:=PZ.rightZ h
  have h1:1≤op:=R.op1
  have h2:op≤24:=R.op24
  have hv:=values_len R.values
  rw [PZ.fit] at hf
  simp only [PZ.num] at hv
  rw [PZ.toE,PE.fits]
  exact ⟨by omega,hf.1,hf.2.1,by omega,by omega,hf.2.2.1,toEs_fits kids (rightsZ_all.2 R.kids) hf.2.2.2.2⟩
theorem toEs_fits {fm:Bool}:∀ l:List PZ,rightsZ fm l=true→fitZ l→fitsE 65536 (toEs l)
 | [],_,_=>by rw [toEs,fitsE];trivial
 | e :: l,h,hf=>by
  rw [rightsZ,Bool.and_eq_true] at h
  rw [fitZ] at hf
  rw [toEs,fitsE]
  exact ⟨PZ.toE_fits e h.1 hf.1,toEs_fits l h.2 hf.2⟩
end
mutual
theorem PZ.toE_told:∀ e:PZ,e.toE.told
 | .mk op nm md num yes kids at_=>by rw [PZ.toE,PE.told];exact ⟨fun _=>rfl,toEs_told kids⟩
theorem toEs_told:∀ l:List PZ,toldE (toEs l)
 | []=>by rw [toEs,toldE];trivial
 | e :: l=>by rw [toEs,toldE];exact ⟨PZ.toE_told e,toEs_told l⟩
end
mutual
theorem PZ.toE_sizes:∀ e:PZ,e.toE.sizeG=e.size∧e.toE.size=e.size
 | .mk op nm md num yes kids at_=>by
  have:=toEs_sizes kids
  rw [PZ.toE,PE.sizeG,PE.size,PZ.size];omega
theorem toEs_sizes:∀ l:List PZ,sizeGE (toEs l)=sizeZ l∧sizeE (toEs l)=sizeZ l
 | []=>by rw [toEs,sizeGE,sizeE,sizeZ];exact ⟨rfl,rfl⟩
 | e :: l=>by
  have h1:=PZ.toE_sizes e
  have h2:=toEs_sizes l
  rw [toEs,sizeGE,sizeE,sizeZ];omega
end
theorem stepZ_noat {l:List PZ}{c:CellZ}(h:∀ x∈l,x.noat=x):∀ x∈stepZ l c,x.noat=x:=by
 intro x hx
 rw [stepZ] at hx
 rcases List.mem_append.1 hx with hx|hx
 ·exact h x (List.mem_of_mem_take hx)
 ·rw [List.mem_singleton] at hx
  subst hx
  rw [PZ.noat,noatZ_map]
  congr 1
  conv=>rhs;rw [← List.map_id (l.drop _)]
  exact List.map_congr_left fun y hy=>h y (List.mem_of_mem_drop hy)
theorem foldZ_noat:∀ (t:List CellZ) (l:List PZ),(∀ x∈l,x.noat=x)→∀ x∈t.foldl stepZ l,x.noat=x
 | [],l,h=>h
 | c :: t,l,h=>by rw [List.foldl_cons];exact foldZ_noat t _ (stepZ_noat h)
theorem bothF_noat {t:List CellZ}{e:PZ}(h:bothF t=some e):e.noat=e:=by
 unfold bothF at h
 split at h
 ·cases h
 ·split at h
  ·exact foldZ_noat t [] (fun x hx=>by cases hx) e (List.mem_of_getLast? h)
  ·cases h
mutual
theorem PE.size_leG:∀ e:PE,e.size≤e.sizeG
 | .mk _ _ _ _ _ _ kids _=>by
  rw [PE.size,PE.sizeG]
  have:=sizeE_leG kids
  omega
theorem sizeE_leG:∀ l:List PE,sizeE l≤sizeGE l
 | []=>Nat.le_refl _
 | e :: l=>by
  rw [sizeE,sizeGE]
  have h1:=PE.size_leG e
  have h2:=sizeE_leG l
  omega
end
theorem zdump_any {fm:Bool}(e:PZ)(hr:e.right fm=true)(h0:e.noat=e)(hf:e.fit)(hz:e.size≤100000)(B:Nat)(am:Option Addr)(wn cm:Nat)(ae:Option Addr)(ce:Nat)(w:World)(h:ZAt YA (fun b=>b<B) w (.slice am wn cm) (.slice ae e.kids.length ce) e)(hB:B≤w.heap.size) :
  Calls Tryz.prog 25 #[.agg #[.int .i64 e.op,.string ⟨e.name.toArray⟩,.string ⟨e.module.toArray⟩,.bool (decide (e.num<0)),.slice am wn cm,.bool e.yes,.slice ae e.kids.length ce,.int .i64 e.at_]] w (StrPost e.toE.dump w):=by
 have hfit:=PZ.toE_fits e hr hf
 have hsz:=PZ.toE_sizes e
 have hdl:=dumpT_len e.toE hfit
 rw [PE.dump_told (PZ.toE_told e)] at hdl
 have hzz:=PZ.toE_z e hr
 rw [h0] at hzz
 have hl:e.toE.dump.length≤1099511627776:=by
  rw [hsz.1] at hdl
  have:e.size * (3 * 65536+30)≤100000 * (3 * 65536+30):=Nat.mul_le_mul_right _ hz
  omega
 have hs2:e.toE.size≤1099511627776:=by rw [hsz.2];omega
 clear hdl hsz hr h0 hf hz
 generalize e.toE=x at *
 subst hzz
 cases x with
 | mk op nm md num txt yes kids a =>
  have hk:(PE.mk op nm md num txt yes kids a).z.kids.length=kids.length:=by rw [PE.z,zsE_map];exact List.length_map _
  rw [hk] at h ⊢
  have:=dumpX_any _ hfit B am wn cm ae ce w (EAt.ofZ h) hB hl hs2
  rw [PE.z]
  exact this
theorem TermAt.later {B:Nat}{w W:World}{ao:Option Addr}{t:List CellZ}(h:TermAt B w ao t)(hW:Below w.heap.size w W):TermAt B W ao t:=fun h0=>by
 obtain ⟨b,off,h1,h2,h3,h4⟩:=h h0
 exact ⟨b,off,h1,h2,Nat.lt_of_lt_of_le h3 hW.size,fun i hi j u hu=>(hW.cell (p:=⟨b,off+i * 6+j,none⟩) h3).trans (h4 i hi j u hu)⟩
theorem both_later (B:Nat)(ao:Option Addr)(ct:Nat)(t:List CellZ)(w:World)(h:TermAt B w ao t)(hB:B≤w.heap.size)(W:World)(hW:Below w.heap.size w W):Calls Tryz.prog 18 #[.slice ao t.length ct] W (BothPost t W):=both_any B ao ct t W (h.later hW) (Nat.le_trans hB hW.size)
end Go.Proofs.YtdednahplodojaaGreatDoor

namespace Go.Proofs.YtdednahplodojaaGreatDoor
theorem goodT_of {S:List UInt8}{toks:List Tok}{nodes:List Nd}{t:PT}(hl:lexAll S=.ok toks)(he:nodes=t.em 0 0)(hw:t.wf)(hlv:t.lv=toks.length)(hn:nodes.length≤2 * toks.length+2):GoodT toks nodes (t.dump toks 0):=by
 have hs:S.length≤65536:=by
  unfold lexAll at hl
  split at hl
  ·cases hl
  ·omega
 have hL:=lexAll_laid hl
 have hc:=hL.count
 have hnd:nodes.length=t.nd:=by rw [he,PT.em_len]
 have hnp:=t.nd_pos
 have hM:∀ u,(textAt toks u).length≤65536:=fun u=>Nat.le_trans (text_few hl u) hs
 have hdl:=tdump_len hM t 0 hw
 refine ⟨by omega,by omega,fun n hm=>?_,by omega,?_,?_,?_,?_,fun n hm=>?_,fun n hm h19=>?_⟩
 ·rw [he] at hm
  have:=em_kids _ _ _ n hm
  omega
 ·rw [he];exact right_em _ hw _ hlv
 ·rw [hnd,he,leaves_em _ hw (by omega),hlv]
 ·rw [hnd,he];exact dump_em toks _ hw (by omega)
 ·have:t.nd * (65536+16)≤200000 * (65536+16):=Nat.mul_le_mul_right _ (by omega)
  omega
 ·rw [he] at hm
  exact (em_kinds _ _ _ hw n hm).1
 ·rw [he] at hm
  have:=(em_kinds _ _ _ hw n hm).2 h19
  omega
structure PGood (S:List UInt8) (toks:List Tok) (nodes:List Nd) (p:PgS):Prop where
 small:S.length≤65536
 lexed:lexAll S=.ok toks
 nodes_eq:nodes=p.pt.em 0 0
 okk:p.ok toks
 lv:p.pt.lv=toks.length
 count:toks.length≤S.length+1
 nd:p.pt.nd≤2 * toks.length
 good:GoodT toks nodes (p.pt.dump toks 0)
 whole:wholeF toks=S
 deep:progF S 200=.good toks nodes
 fits:(p.pp toks).all (PE.fits (S.length+1))
 told:(p.pp toks).all PE.told
 few:(p.pp toks).all fun e=>e.sizeG≤p.pt.nd
 psmall:(p.pp toks).small (S.length+1)
theorem PP.all_imp {P Q R T:PE→Prop}{p:PP}(h1:p.all P)(h2:p.all Q)(h3:p.all R)(h:∀ e,P e→Q e→R e→T e):p.all T:=fun d hd =>
 ⟨fun f hf e he=>h e ((h1 d hd).1 f hf e he) ((h2 d hd).1 f hf e he) ((h3 d hd).1 f hf e he),fun e he=>h e ((h1 d hd).2.1 e he) ((h2 d hd).2.1 e he) ((h3 d hd).2.1 e he),h _ (h1 d hd).2.2 (h2 d hd).2.2 (h3 d hd).2.2⟩
theorem PGood.dumps {S:List UInt8}{toks:List Tok}{nodes:List Nd}{p:PgS}(h:PGood S toks nodes p)(hs:S.length≤1500):(p.pp toks).all (dumpK 20000000):=by
 refine PP.all_imp h.fits h.told h.few fun e h1 h2 h3=>?_
 have h4:=dumpT_len e h1
 rw [PE.dump_told h2] at h4
 have h5:=h.nd
 have h6:=h.count
 have h7:e.sizeG * (3 * (S.length+1)+30)≤3002 * (3 * (S.length+1)+30):=Nat.mul_le_mul_right _ (by omega)
 unfold dumpK
 omega
theorem PGood.dump_len {S:List UInt8}{toks:List Tok}{nodes:List Nd}{p:PgS}(h:PGood S toks nodes p)(hs:S.length≤1500):(p.pp toks).dump.length≤20000000000:=by
 obtain ⟨K,hK⟩:∃ K,K=20000000:=⟨_,rfl⟩
 have hd:=h.dumps hs
 rw [← hK] at hd
 have:=PP.dump_len h.psmall hd
 clear hd
 generalize (p.pp toks).dump.length=n at this ⊢
 generalize S.length=m at *
 subst hK
 exact Nat.le_trans this (by omega)
def preP:List Pc:=[wordP tFun,⟨[32],1,[102]⟩,sgnP [40],sgnP [41],sgnP [58],⟨[32],2,tInt⟩,⟨[32],4,[61]⟩]
def bodyP (l:List Pc):List Pc:=preP++(spP l++[sgnP [59]])
def bodyS (t:List UInt8):List UInt8:=[102,117,110,32,102,40,41,58,32,105,110,116,32,61,32]++t++[59]
theorem bodyP_bytes {l:List Pc}(h:l≠[]):bytesP (bodyP l)=bodyS (bytesP l):=by
 rw [bodyP,bytesP_append,bytesP_append,bytesP_sp h]
 simp [bodyS,preP,bytesP,wordP,sgnP,tFun,tInt]
theorem preP_ok (r:List UInt8):okP preP (32 :: r):=⟨rfl,rfl,rfl,rfl,rfl,rfl,rfl,rfl,rfl,rfl,rfl,rfl,rfl,rfl,trivial⟩
theorem lex_body {fm:Bool}{e:PZ}(hr:e.right fm=true)(hs:(bodyS e.text).length≤65536):lexAll (bodyS e.text)=.ok (toksP 0 (bodyP e.pcs)++[⟨5,[],[],(bodyS e.text).length⟩]):=by
 obtain ⟨h1,h2⟩:=PZ.bytes (SizeOf.sizeOf e+1) e (by omega) hr
 have hok:OkAll e.pcs:=PZ.okAll (SizeOf.sizeOf e+1) e (by omega) hr
 have hb:=bodyP_bytes h2
 rw [h1] at hb
 have hokP:okP (bodyP e.pcs) []:=by
  rw [bodyP]
  refine okP_append.2 ⟨?_,hok.sp.close [59] (by decide) (by decide) []⟩
  rw [bytesP_append,bytesP_sp h2,List.append_nil]
  exact preP_ok _
 have h:=lexAll_pieces (l:=bodyP e.pcs) (e:=[]) hokP rfl (by rw [List.append_nil,hb];exact hs)
 rw [List.append_nil,hb] at h
 exact h
theorem prog_good_of {S:List UInt8}{d:Nat}{toks:List Tok}{nodes:List Nd}{p:PgS}(hd:d≤200)(h:progF S d=.good toks nodes)(hl:lexAll S=.ok toks)(he:nodes=p.pt.em 0 0)(hok:p.ok toks)(hlv:p.pt.lv=toks.length)(hn:nodes.length≤2 * toks.length):PGood S toks nodes p:=by
 have hs:S.length≤65536:=by
  unfold lexAll at hl
  split at hl
  ·cases hl
  ·omega
 have hL:=lexAll_laid hl
 have hM:∀ u,(textAt toks u).length≤S.length+1:=fun u=>Nat.le_succ_of_le (text_few hl u)
 have hN:=lexAll_nums hl
 have hnd:nodes.length=p.pt.nd:=by rw [he,PT.em_len]
 exact ⟨hs,hl,he,hok,hlv,hL.count,by omega,goodT_of hl he p.wf hlv (by omega),hL.whole_eq,progF_deeper hd h,PgS.all_pp (fun cl e u ho _=>CE.fits hL.some hN hM (by omega) e u ho) hok,PgS.all_pp (fun cl e u ho _=>CE.told (lexAll_numsOk hl) e u ho) hok,PgS.all_pp (fun cl e u ho hn=>Nat.le_trans (CE.sizeG_le toks e u) hn) hok,PgS.pp_small hM hok⟩
theorem Lay.tree {st cur:PSt}{l:List PT}{ids:List Int}{b:Int × PSt}{t:PT}(h:Lay st l ids cur)(h1:Grew cur [t] b.2)(h2:b.1=((cur.nodes.length+t.nd:Nat):Int) - 1):Lay st (l++[t]) (ids++[b.1]) b.2:=IG.append h (IG.res h1 h2)
theorem fault_end {toks:List Tok}{l:List (List UInt8)}{st:PSt}(h:st.fE=23):(mustM toks l st).2.fE=23:=by rw [(mustM_ext toks l st).2.1 (by rw [h];decide),h]
theorem fault_kind {toks:List Tok}{k:Nat}{st:PSt}(h:st.fE=23):(kindM toks k st).2.fE=23:=by rw [(kindM_ext toks k st).2.1 (by rw [h];decide),h]
def bodyD (c:CE):DfS:=⟨false,[],⟨none⟩,c⟩
def bodyPg (c:CE):PgS:=⟨0,[bodyD c]⟩
theorem body_print {e:PZ}(hr:e.right false=true)(hs:(bodyS e.text).length≤65536) :
  (∃ a,progF (bodyS e.text) 200=.bad 23 a)∨∃ toks nodes,progF (bodyS e.text) 200=.good toks nodes∧PGood (bodyS e.text) toks nodes (bodyPg e.ce)∧(e.ce.pe toks 7).z.noat=e.noat:=by
 have hl:=lex_body hr hs
 have hL:=lexAll_laid hl
 have hE:=hL.endOk
 have hA:=atP_pieces (bodyP e.pcs) 0 ⟨5,[],[],(bodyS e.text).length⟩
 have hk:=kind_end (bodyP e.pcs) 0 ⟨5,[],[],(bodyS e.text).length⟩
 have hlen:(toksP 0 (bodyP e.pcs)++[(⟨5,[],[],(bodyS e.text).length⟩:Tok)]).length=(bodyP e.pcs).length+1:=by simp [toksP_len]
 have hbl:(bodyP e.pcs).length=e.pcs.length+8:=by rw [bodyP,List.length_append,List.length_append,sp_len];simp [preP];omega
 generalize toksP 0 (bodyP e.pcs)++[(⟨5,[],[],(bodyS e.text).length⟩:Tok)]=toks at *
 have hA1:AtP toks 0 preP:=AtP.left hA
 have hA2:AtP toks 7 e.pcs:=by
  have h:=(AtP.right hA).left.sp
  have e7:0+preP.length=7:=rfl
  rwa [e7] at h
 have hA3:kindAt toks (7+e.pcs.length)=4∧textAt toks (7+e.pcs.length)=[59]:=by
  have h:=(AtP.right hA).right.head
  rw [sp_len] at h
  have e7:0+preP.length=7:=rfl
  rw [e7] at h
  exact ⟨h.1,h.2.1⟩
 have hA4:kindAt toks (8+e.pcs.length)=5:=by
  rw [hbl] at hk
  have:e.pcs.length+8=8+e.pcs.length:=by omega
  rw [← this]
  exact hk
 have k0:kindAt toks 0=2:=(hA1.2 0 (by decide)).1
 have t0:textAt toks 0=tFun:=(hA1.2 0 (by decide)).2
 have k1:kindAt toks 1=1:=(hA1.2 1 (by decide)).1
 have k2:kindAt toks 2=4:=(hA1.2 2 (by decide)).1
 have t2:textAt toks 2=[40]:=(hA1.2 2 (by decide)).2
 have k3:kindAt toks 3=4:=(hA1.2 3 (by decide)).1
 have t3:textAt toks 3=[41]:=(hA1.2 3 (by decide)).2
 have k4:kindAt toks 4=4:=(hA1.2 4 (by decide)).1
 have t4:textAt toks 4=[58]:=(hA1.2 4 (by decide)).2
 have k5:kindAt toks 5=2:=(hA1.2 5 (by decide)).1
 have t5:textAt toks 5=tInt:=(hA1.2 5 (by decide)).2
 have k6:kindAt toks 6=4:=(hA1.2 6 (by decide)).1
 have t6:textAt toks 6=[61]:=(hA1.2 6 (by decide)).2
 have hrd:=(PZ.reads hE _ e (Nat.lt_succ_self _) hr).2 7 hA2
 have hrl:=(PZ.reads hE _ e (Nat.lt_succ_self _) hr).1
 obtain ⟨kk,hk9,hp⟩:=PZ.prt hE 200 _ e (Nat.lt_succ_self _) hr
 have hP0:=hp.pars 0 (by omega)
 clear hA hA1 hp hk
 -- the states
 have L0:=Lay.nil startP
 have hf0:startP.fE=0:=rfl
 have hpub:pubM toks startP=([],startP):=by
  unfold pubM
  rw [if_neg]
  rw [next_no (show textAt toks startP.used ∉ [tPub] by show textAt toks 0 ∉ _;rw [t0];decide)]
  decide
 have hfun:funM toks startP=leafM toks startP:=by
  unfold funM
  rw [hpub]
  exact must_yes hf0 (next_yes (.inl k0) (by show textAt toks 0∈_;rw [t0];decide))
 have L1:=L0.leaf hE (by show kindAt toks 0≠5;rw [k0];decide)
 have u1:(leafM toks startP).2.used=1:=by rw [L1.used];rfl
 have f1:(leafM toks startP).2.fE=0:=by rw [L1.fE];rfl
 have hnm:fnameM toks startP=leafM toks (leafM toks startP).2:=by
  unfold fnameM
  rw [hfun]
  exact kind_yes f1 (by rw [u1];exact k1)
 generalize hs1:leafM toks startP=s1 at *
 have L2:=L1.leaf hE (by rw [u1,k1];decide)
 have u2:(leafM toks s1.2).2.used=2:=by rw [L2.used];rfl
 have f2:(leafM toks s1.2).2.fE=0:=by rw [L2.fE];rfl
 have hop:fopenM toks startP=leafM toks (leafM toks s1.2).2:=by
  unfold fopenM
  rw [hnm]
  exact must_yes f2 (next_yes (.inr (by rw [u2];exact k2)) (by rw [u2,t2];decide))
 generalize hs2:leafM toks s1.2=s2 at *
 have L3:=L2.leaf hE (by rw [u2,k2];decide)
 have u3:(leafM toks s2.2).2.used=3:=by rw [L3.used];rfl
 have f3:(leafM toks s2.2).2.fE=0:=by rw [L3.fE];rfl
 generalize hs3:leafM toks s2.2=s3 at *
 have hlist:listM toks (paramM toks 200 (gasA toks)) s3.2=some ([],s3.2):=by
  unfold listM
  rw [if_pos (next_yes (.inr (by rw [u3];exact k3)) (by rw [u3,t3];decide))]
 have hcl:mustM toks [[41]] s3.2=leafM toks s3.2:=must_yes f3 (next_yes (.inr (by rw [u3];exact k3)) (by rw [u3,t3];decide))
 have L4:=L3.leaf hE (by rw [u3,k3];decide)
 have u4:(leafM toks s3.2).2.used=4:=by rw [L4.used];rfl
 have f4:(leafM toks s3.2).2.fE=0:=by rw [L4.fE];rfl
 generalize hs4:leafM toks s3.2=s4 at *
 have hcolon:colonM toks s4.2=leafM toks s4.2:=must_yes f4 (next_yes (.inr (by rw [u4];exact k4)) (by rw [u4,t4];decide))
 have L5:=L4.leaf hE (by rw [u4,k4];decide)
 have u5:(leafM toks s4.2).2.used=5:=by rw [L5.used];rfl
 have f5:(leafM toks s4.2).2.fE=0:=by rw [L5.fE];rfl
 generalize hs5:leafM toks s4.2=s5 at *
 have hbword:bwordM toks s4.2=leafM toks s5.2:=by
  unfold bwordM
  rw [hcolon]
  exact must_yes f5 (next_yes (.inl (by rw [u5];exact k5)) (by rw [u5,t5];decide))
 have LB:=(Lay.nil s5.2).leaf hE (by rw [u5,k5];decide)
 have fb:(leafM toks s5.2).2.fE=0:=by rw [LB.fE];exact f5
 have hbase:baseM toks s4.2=nodeM 5 [(leafM toks s5.2).1] (leafM toks s5.2).2:=by unfold baseM;rw [hbword]
 have hbn:=LB.1.node fb 5
 rw [← LB.2] at hbn
 simp only [List.nil_append] at hbn
 have L6:Lay startP _ _ _:=L5.tree (b:=nodeM 5 [(leafM toks s5.2).1] (leafM toks s5.2).2) hbn.1 (by
  have:=hbn.2
  simp only [Int.cast_ofNat_Int] at this ⊢
  rw [this]
  simp [PT.nd,ndL];omega)
 have u6:(baseM toks s4.2).2.used=6:=by rw [hbase,L6.used];rfl
 have f6:(baseM toks s4.2).2.fE=0:=by rw [hbase,L6.fE];rfl
 rw [← hbase] at L6
 have hty:∀ kids,typedM toks 200 (gasA toks) kids s4.2=some (kids++[s5.1,(baseM toks s4.2).1],(baseM toks s4.2).2):=fun kids=>by
  unfold typedM
  rw [if_neg,hcolon]
  intro q
  have:=q.2
  rw [next_no (by rw [u6,t6];decide)] at this
  cases this
 generalize hs6:baseM toks s4.2=s6 at *
 have heq:mustM toks [[61]] s6.2=leafM toks s6.2:=must_yes f6 (next_yes (.inr (by rw [u6];exact k6)) (by rw [u6,t6];decide))
 have L7:=L6.leaf hE (by rw [u6,k6];decide)
 have u7:(leafM toks s6.2).2.used=7:=by rw [L7.used];rfl
 have f7:(leafM toks s6.2).2.fE=0:=by rw [L7.fE];rfl
 have c7:(leafM toks s6.2).2.clause=false:=by rw [L7.cl];rfl
 generalize hs7:leafM toks s6.2=s7 at *
 obtain ⟨f,hrun⟩:=expr_total hE 200 s7.2
 have hdef:defM toks 200 (gasA toks) startP=some (nodeM 3 (([]++[s1.1,s2.1,s3.1]++[]++[s4.1]++[s5.1,s6.1])++[s7.1,f.1,(mustM toks [[59]] f.2).1]) (mustM toks [[59]] f.2).2):=by
  unfold defM
  rw [hop,hlist,Option.bind_some]
  simp only [hcl,hpub,hfun,hnm]
  rw [hty,Option.bind_some]
  simp only [heq]
  rw [hrun,Option.bind_some]
 have hsev1:sevM toks (fun s=>some (importM toks s)) [tImport] 16 [] startP=some ([],startP):=by
  rw [sevM,if_neg]
  intro q
  have:=q.2
  rw [next_no (show textAt toks startP.used ∉ [tImport] by show textAt toks 0 ∉ _;rw [t0];decide)] at this
  cases this
 have hgo:∀ kk,sevM toks (defM toks 200 (gasA toks)) [tPub,tFun] 64 [] startP=(sevM toks (defM toks 200 (gasA toks)) [tPub,tFun] 63 [kk.1] kk.2)∨defM toks 200 (gasA toks) startP≠some kk:=fun kk=>by
  by_cases q:defM toks 200 (gasA toks) startP=some kk
  ·left
   rw [sevM,if_pos ⟨hf0,next_yes (.inl k0) (by show textAt toks 0∈_;rw [t0];decide)⟩,q,Option.bind_some]
   rfl
  ·exact .inr q
 have hgo:=(hgo _).resolve_right (fun q=>q hdef)
 have hP:=hP0.does (gasA toks) 1 s7.2 f hrun f7 c7 (by rw [u7];exact hA2) (by
  intro _
  rw [u7,hA3.2]
  decide)
 clear hP0 hlist hty hop hnm hfun hpub hcl hcolon hbword hbase heq hrun
 rcases hP with h23|⟨h0,hres⟩
 ·left
  have x1:=fault_end (toks:=toks) (l:=[[59]]) h23
  have x2:=node_fault (k:=3) (l:=(([]++[s1.1,s2.1,s3.1]++[]++[s4.1]++[s5.1,s6.1])++[s7.1,f.1,(mustM toks [[59]] f.2).1])) x1
  generalize nodeM 3 (([]++[s1.1,s2.1,s3.1]++[]++[s4.1]++[s5.1,s6.1])++[s7.1,f.1,(mustM toks [[59]] f.2).1]) (mustM toks [[59]] f.2).2=kk at *
  have hsev2:sevM toks (defM toks 200 (gasA toks)) [tPub,tFun] 63 [kk.1] kk.2=some ([kk.1],kk.2):=by
   rw [sevM,if_neg (by intro q;rw [x2] at q;exact absurd q.1 (by decide))]
  have hpm:progM toks 200 (gasA toks) startP=some (nodeM 1 ([]++[kk.1]++[(kindM toks 5 kk.2).1]) (kindM toks 5 kk.2).2):=by
   unfold progM
   rw [hsev1,Option.bind_some]
   simp only
   rw [hgo,hsev2,Option.bind_some]
  have x3:=node_fault (k:=1) (l:=[]++[kk.1]++[(kindM toks 5 kk.2).1]) (fault_kind (toks:=toks) (k:=5) x2)
  refine ⟨(nodeM 1 ([]++[kk.1]++[(kindM toks 5 kk.2).1]) (kindM toks 5 kk.2).2).2.fAt,?_⟩
  unfold progF
  rw [hl]
  simp only
  rw [hpm]
  simp only [ofSt]
  rw [if_neg (by rw [x3];decide),x3]
 ·right
  have L8:=L7.sub hres
  have u8:f.2.used=7+e.pcs.length:=by rw [hres.end_,u7,hrl]
  have hmu:mustM toks [[59]] f.2=leafM toks f.2:=must_yes h0 (next_yes (.inr (by rw [u8];exact hA3.1)) (by rw [u8,hA3.2];decide))
  have L9:=L8.leaf hE (by rw [u8,hA3.1];decide)
  rw [hmu] at hdef hgo
  have f9:(leafM toks f.2).2.fE=0:=by rw [L9.fE];rfl
  have u9:(leafM toks f.2).2.used=8+e.pcs.length:=by
   rw [(show Grew f.2 [.leaf] (leafM toks f.2).2 from ((Lay.nil f.2).leaf hE (by rw [u8,hA3.1];decide)).1).used,u8]
   simp [lvL,PT.lv];omega
  generalize hs9:leafM toks f.2=s9 at *
  have hnode:=L9.1.node f9 3
  rw [← L9.2] at hnode
  simp only [List.nil_append,List.cons_append,List.append_nil] at hnode hgo L9
  simp only [Int.cast_ofNat_Int] at hnode
  generalize hkk:nodeM 3 [s1.1,s2.1,s3.1,s4.1,s5.1,s6.1,s7.1,f.1,s9.1] s9.2=kk at *
  have hG:Grew startP [(bodyD e.ce).pt] kk.2:=hnode.1
  have hi:kk.1=((startP.nodes.length+(bodyD e.ce).pt.nd:Nat):Int) - 1:=by
   rw [hnode.2]
   simp only [bodyD,DfS.pt,DfS.kids,DfS.lead,TyS.pts,PT.nd]
   simp [sepPT]
   omega
  have M1:=L0.tree hG hi
  have fk:kk.2.fE=0:=by rw [M1.fE];rfl
  have hplv:(bodyD e.ce).pt.lv=8+e.pcs.length:=by
   simp only [bodyD,DfS.pt,DfS.kids,DfS.lead,TyS.pts]
   simp [sepPT,PT.lv,lvL,hrl]
   omega
  have hpnd:(bodyPg e.ce).pt.lv=toks.length:=by
   simp only [bodyPg,PgS.pt,PgS.kids,List.replicate,List.map_cons,List.map_nil,List.nil_append,List.cons_append,PT.lv,lvL,hplv]
   omega
  have uk:kk.2.used=8+e.pcs.length:=by
   rw [M1.used]
   simp only [List.nil_append,lvL,hplv,startP]
   omega
  have hsev2:sevM toks (defM toks 200 (gasA toks)) [tPub,tFun] 63 [kk.1] kk.2=some ([kk.1],kk.2):=by
   rw [sevM,if_neg]
   intro q
   have:=next_kind q.2
   rw [uk] at this
   exact this hA4
  have hk5:kindM toks 5 kk.2=leafM toks kk.2:=kind_yes fk (by rw [uk];exact hA4)
  have hpm:progM toks 200 (gasA toks) startP=some (nodeM 1 ([]++[kk.1]++[(leafM toks kk.2).1]) (leafM toks kk.2).2):=by
   unfold progM
   rw [hsev1,Option.bind_some]
   simp only
   rw [hgo,hsev2,Option.bind_some,hk5]
  obtain ⟨hl1,hl2⟩:=Grew.leaf (toks:=toks) (st:=kk.2) (by omega)
  have M2:IG startP _ _ _:=IG.append (show IG _ _ _ _ from M1) (IG.leaf hl1 hl2)
  have fe:(leafM toks kk.2).2.fE=0:=by rw [hl1.fE,fk]
  have hn1:=M2.1.node fe 1
  rw [← M2.2] at hn1
  simp only [List.nil_append,List.cons_append,Int.cast_ofNat_Int] at hn1 hpm
  have hG1:Grew startP [(bodyPg e.ce).pt] (nodeM 1 [kk.1,(leafM toks kk.2).1] (leafM toks kk.2).2).2:=hn1.1
  have hff:(nodeM 1 [kk.1,(leafM toks kk.2).1] (leafM toks kk.2).2).2.fE=0:=by rw [hG1.fE];rfl
  have hF:progF (bodyS e.text) 200=.good toks (nodeM 1 [kk.1,(leafM toks kk.2).1] (leafM toks kk.2).2).2.nodes:=by
   unfold progF
   rw [hl]
   simp only
   rw [hpm]
   simp only [ofSt]
   rw [if_pos hff]
  have hnodes:(nodeM 1 [kk.1,(leafM toks kk.2).1] (leafM toks kk.2).2).2.nodes=(bodyPg e.ce).pt.em 0 0:=by
   rw [hG1]
   simp [startP,emL]
  have hslk:=progM_slk hpm
  have hwth:=progM_wth hpm (Nat.zero_le _)
  unfold Slk at hslk
  simp only [startP,List.length_nil] at hslk
  have hpre:DfS.at3 0 (bodyD e.ce)=7:=rfl
  have hok:(bodyPg e.ce).ok toks:=⟨by show 0≤16;omega,by show 1≤64;omega,trivial,⟨(fun q=>by cases q),by show textAt toks 0=tFun;exact t0,by show kindAt toks 1=1;exact k1,by show 0≤8;omega,trivial,⟨by show textAt toks 5∈_;rw [t5];decide,trivial⟩,by
   have:=hres.2.2.1
   rw [c7,u7] at this
   exact this⟩,trivial⟩
  exact ⟨toks,_,hF,prog_good_of (Nat.le_refl _) hF hl hnodes hok hpnd (by omega),hrd⟩
theorem repL_at {nodes:List Nd}:∀ (l:List PT) (ks:List Int) (u:Nat),RepL nodes ks u l→ks.length=l.length∧∀ j,(h1:j<ks.length)→(h2:j<l.length)→Rep nodes ks[j] (u+lvL (l.take j)) l[j]
 | [],ks,u,h=>by
  rw [RepL] at h
  subst h
  exact ⟨rfl,fun j h1=>absurd h1 (by simp)⟩
 | i :: l,ks,u,h=>by
  rw [RepL] at h
  obtain ⟨k,ks',rfl,h1,h2⟩:=h
  obtain ⟨h3,h4⟩:=repL_at l ks' _ h2
  refine ⟨by simp [h3],fun j q1 q2=>?_⟩
  cases j with
  | zero=>simpa [lvL] using h1
  | succ j =>
   have:=h4 j (by simpa using q1) (by simpa using q2)
   rw [List.take_succ_cons,lvL,← Nat.add_assoc]
   exact this
theorem lvL_take:∀ (l:List PT) (j:Nat) (h:j<l.length),lvL (l.take j)+l[j].lv≤lvL l
 | [],j,h=>absurd h (by simp)
 | i :: l,0,h=>by simp [lvL]
 | i :: l,j+1,h=>by
  have:=lvL_take l j (by simpa using h)
  rw [List.take_succ_cons,lvL,lvL]
  simp only [List.getElem_cons_succ]
  omega
theorem impsPP_get (toks:List Tok):∀ (n u j:Nat) (h:j<(impsPP toks u n).length),(impsPP toks u n)[j]=(textAt toks (u+3 * j+1),placeAt toks (u+3 * j+1))
 | 0,u,j,h=>absurd h (by simp [impsPP])
 | n+1,u,0,h=>rfl
 | n+1,u,j+1,h=>by
  have:=impsPP_get toks n (u+3) j (by simpa [impsPP] using h)
  simp only [impsPP,List.getElem_cons_succ,this]
  rw [show u+3+3 * j+1=u+3 * (j+1)+1 by omega]
theorem defsDD_get (toks:List Tok):∀ (l:List DfS) (u j:Nat) (h:j<l.length) (h2:j<(defsDD toks u l).length),(defsDD toks u l)[j]=l[j].dd toks (u+lvL ((l.take j).map DfS.pt))
 | [],u,j,h,_=>absurd h (by simp)
 | d :: l,u,0,h,_=>by simp [defsDD,lvL]
 | d :: l,u,j+1,h,h2=>by
  have:=defsDD_get toks l (u+d.pt.lv) j (by simpa using h) (by simpa [defsDD] using h2)
  simp only [defsDD,List.getElem_cons_succ,this,List.take_succ_cons,List.map_cons,lvL,Nat.add_assoc]
theorem defsOk_get {toks:List Tok}:∀ (l:List DfS) (u j:Nat) (h:j<l.length),defsOk toks u l→l[j].ok toks (u+lvL ((l.take j).map DfS.pt))
 | [],u,j,h,_=>absurd h (by simp)
 | d :: l,u,0,h,ho=>by simpa [lvL] using ho.1
 | d :: l,u,j+1,h,ho=>by
  have:=defsOk_get l (u+d.pt.lv) j (by simpa using h) ho.2
  simpa [lvL,Nat.add_assoc] using this
theorem PgS.kid_imp (p:PgS)(j:Nat)(h:j<p.imps):∃ h2:j<p.kids.length,p.kids[j]=impPT∧lvL (p.kids.take j)=3 * j:=by
 have h2:j<p.kids.length:=by simp only [PgS.kids,List.length_append,List.length_replicate];omega
 refine ⟨h2,?_,?_⟩
 ·simp only [PgS.kids]
  rw [List.getElem_append_left (by simpa using h),List.getElem_replicate]
 ·simp only [PgS.kids]
  rw [List.take_append_of_le_length (by simp;omega),List.take_replicate,imps_lv,Nat.min_eq_left (by omega)]
theorem PgS.kid_def (p:PgS)(j:Nat)(h:j<p.defs.length):∃ h2:p.imps+j<p.kids.length,p.kids[p.imps+j]=p.defs[j].pt∧lvL (p.kids.take (p.imps+j))=3 * p.imps+lvL ((p.defs.take j).map DfS.pt):=by
 have h2:p.imps+j<p.kids.length:=by simp only [PgS.kids,List.length_append,List.length_replicate,List.length_map];omega
 refine ⟨h2,?_,?_⟩
 ·simp only [PgS.kids]
  rw [List.getElem_append_right (by simp),List.getElem_append_left (by simp;omega)]
  simp
 ·simp only [PgS.kids]
  rw [List.take_append,List.take_of_length_le (by simp),lvL_append,imps_lv,List.length_replicate,Nat.add_sub_cancel_left,List.take_append_of_le_length (by simp;omega),List.map_take]
theorem PgS.kid_end (p:PgS):∃ h2:p.imps+p.defs.length<p.kids.length,p.kids[p.imps+p.defs.length]=.leaf:=by
 have h2:p.imps+p.defs.length<p.kids.length:=by simp only [PgS.kids,List.length_append,List.length_replicate,List.length_map,List.length_singleton];omega
 refine ⟨h2,?_⟩
 simp only [PgS.kids]
 rw [List.getElem_append_right (by simp),List.getElem_append_right (by simp)]
 simp
theorem PgS.kids_len (p:PgS):p.kids.length=p.imps+p.defs.length+1:=by
 simp only [PgS.kids,List.length_append,List.length_replicate,List.length_map,List.length_singleton]
 omega
inductive It where
 | leaf
 | expr (e:CE)
 | par (t:TyS)
 | base
 | cl (e:CE)
def It.pt:It→PT
 | .leaf=>.leaf
 | .expr e=>e.pt
 | .par t=>t.par
 | .base=>.node 5 [.leaf]
 | .cl e=>.node 6 [.leaf,e.pt,.leaf]
structure TyA where
 base:Nat
 clause:List PE
 bare:Int
def It.step (toks:List Tok)(u:Nat):It→TyA→TyA
 | .base,a=>⟨if textAt toks u=tBool then 2 else 1,a.clause,((placeAt toks u+(textAt toks u).length:Nat):Int)⟩
 | .cl e,a=>⟨a.base,[e.pe toks (u+1)],-1⟩
 | _,a=>a
def typA (toks:List Tok):Nat→List It→TyA→TyA
 | _,[],a=>a
 | u,i :: l,a=>typA toks (u+i.pt.lv) l (i.step toks u a)
theorem typA_append (toks:List Tok):∀ (l k:List It) (u:Nat) (a:TyA),typA toks u (l++k) a=typA toks (u+lvL (l.map It.pt)) k (typA toks u l a)
 | [],k,u,a=>by simp [typA,lvL]
 | i :: l,k,u,a=>by
  rw [List.cons_append,typA,typA_append toks l k,typA,List.map_cons,lvL,Nat.add_assoc]
def parA (toks:List Tok):Nat→List It→List FF
 | _,[]=>[]
 | u,.par t :: l=>t.parFF toks u :: parA toks (u+(It.par t).pt.lv) l
 | u,i :: l=>parA toks (u+i.pt.lv) l
theorem parA_append (toks:List Tok):∀ (l k:List It) (u:Nat),parA toks u (l++k)=parA toks u l++parA toks (u+lvL (l.map It.pt)) k
 | [],k,u=>by simp [parA,lvL]
 | .par t :: l,k,u=>by
  rw [List.cons_append,parA,parA_append toks l k,parA,List.map_cons,lvL,Nat.add_assoc,List.cons_append]
 | .leaf :: l,k,u=>by
  rw [List.cons_append,parA,parA_append toks l k,parA,List.map_cons,lvL,Nat.add_assoc] <;> simp
 | .base :: l,k,u=>by
  rw [List.cons_append,parA,parA_append toks l k,parA,List.map_cons,lvL,Nat.add_assoc] <;> simp
 | .expr e :: l,k,u=>by
  rw [List.cons_append,parA,parA_append toks l k,parA,List.map_cons,lvL,Nat.add_assoc] <;> simp
 | .cl e :: l,k,u=>by
  rw [List.cons_append,parA,parA_append toks l k,parA,List.map_cons,lvL,Nat.add_assoc] <;> simp
def TyS.its (t:TyS):List It:=[.leaf,.base]++(match t.cl with|none=>[]|some e=>[.cl e])
theorem TyS.its_pt (t:TyS):t.its.map It.pt=t.pts:=by
 unfold TyS.its TyS.pts
 cases t.cl <;> rfl
def TyS.parIts (t:TyS):List It:=.leaf :: t.its
theorem TyS.parIts_pt (t:TyS):t.par=.node 4 (t.parIts.map It.pt):=by
 rw [TyS.par,TyS.parIts,List.map_cons,t.its_pt]
 rfl
def sepIts:List TyS→List It
 | []=>[]
 | t :: l=>.par t :: (match l with | []=>[]|_ :: _=>.leaf :: sepIts l)
theorem sepIts_pt:∀ l:List TyS,(sepIts l).map It.pt=sepPT (l.map TyS.par)
 | []=>rfl
 | [t]=>rfl
 | t :: s :: l=>by
  have:=sepIts_pt (s :: l)
  rw [show sepIts (t :: s :: l)=.par t :: .leaf :: sepIts (s :: l) from by rw [sepIts],List.map_cons,List.map_cons,this]
  show _=sepPT (t.par :: s.par :: l.map TyS.par)
  rw [sepPT_two]
  rfl
def DfS.leadIts (d:DfS):List It:=if d.pub=true then [.leaf] else []
def DfS.its (d:DfS):List It:=d.leadIts++([.leaf,.leaf,.leaf]++(sepIts d.pars++([.leaf]++(d.ty.its++[.leaf,.expr d.body,.leaf]))))
theorem DfS.its_pt (d:DfS):d.pt=.node 3 (d.its.map It.pt):=by
 have h:d.leadIts.map It.pt=d.lead:=by unfold DfS.leadIts DfS.lead;split <;> rfl
 rw [DfS.pt,DfS.kids,DfS.its]
 simp only [List.map_append,h,sepIts_pt,d.ty.its_pt,List.map_cons,List.map_nil,It.pt]
theorem typA_none (toks:List Tok):∀ (l:List It) (u:Nat) (a:TyA),(∀ i∈l,(i matches .leaf)∨(i matches .par _)∨(i matches .expr _))→typA toks u l a=a
 | [],u,a,_=>rfl
 | i :: l,u,a,h=>by
  rw [typA,typA_none toks l _ _ fun x hx=>h x (List.mem_cons_of_mem _ hx)]
  have:=h i List.mem_cons_self
  cases i <;> simp_all [It.step]
theorem typA_its (toks:List Tok)(t:TyS)(u:Nat)(name:List UInt8)(at_:Nat){b0:Nat}{y0:Int}:typA toks u t.its ⟨b0,[],y0⟩=⟨(t.ff toks u name at_).base,(t.ff toks u name at_).clause,(t.ff toks u name at_).bare⟩:=by
 unfold TyS.its TyS.ff
 cases t.cl with
 | none=>simp [typA,It.step,It.pt,PT.lv]
 | some e=>simp [typA,It.step,It.pt,PT.lv,lvL]
theorem sep_none:∀ l:List TyS,∀ i∈sepIts l,(i matches .leaf)∨(i matches .par _)∨(i matches .expr _)
 | [],i,h=>by rw [sepIts] at h;cases h
 | [t],i,h=>by
  rw [sepIts,List.mem_singleton] at h
  subst h
  exact .inr (.inl rfl)
 | t :: s :: l,i,h=>by
  rw [show sepIts (t :: s :: l)=.par t :: .leaf :: sepIts (s :: l) from by rw [sepIts],List.mem_cons,List.mem_cons] at h
  rcases h with rfl|rfl|h
  ·exact .inr (.inl rfl)
  ·exact .inl rfl
  ·exact sep_none (s :: l) i h
theorem TyS.par_typ (toks:List Tok)(t:TyS)(u:Nat){b0:Nat}{y0:Int}:typA toks u t.parIts ⟨b0,[],y0⟩=⟨(t.parFF toks u).base,(t.parFF toks u).clause,(t.parFF toks u).bare⟩:=by
 rw [TyS.parIts,typA,TyS.parFF]
 exact typA_its toks t (u+1) _ _
theorem DfS.typ (toks:List Tok)(d:DfS)(u:Nat){b0:Nat}{y0:Int}:typA toks u d.its ⟨b0,[],y0⟩=⟨(d.dd toks u).res.base,(d.dd toks u).res.clause,(d.dd toks u).res.bare⟩:=by
 have h1:∀ i∈d.leadIts,(i matches .leaf)∨(i matches .par _)∨(i matches .expr _):=fun i h=>by
  unfold DfS.leadIts at h
  split at h
  ·rw [List.mem_singleton] at h;subst h;exact .inl rfl
  ·cases h
 have h2:∀ i∈[It.leaf,.leaf,.leaf],(i matches .leaf)∨(i matches .par _)∨(i matches .expr _):=fun i h=>by
  simp only [List.mem_cons,List.not_mem_nil,or_false,or_self] at h;subst h;exact .inl rfl
 have h3:∀ i∈[It.leaf,.expr d.body,.leaf],(i matches .leaf)∨(i matches .par _)∨(i matches .expr _):=fun i h=>by
  simp only [List.mem_cons,List.not_mem_nil,or_false] at h
  rcases h with rfl|rfl|rfl
  ·exact .inl rfl
  ·exact .inr (.inr rfl)
  ·exact .inl rfl
 have h4:∀ i∈[It.leaf],(i matches .leaf)∨(i matches .par _)∨(i matches .expr _):=fun i h=>by
  rw [List.mem_singleton] at h;subst h;exact .inl rfl
 have hl:lvL (d.leadIts.map It.pt)=lvL d.lead:=by unfold DfS.leadIts DfS.lead;split <;> rfl
 rw [DfS.its,typA_append,typA_none toks _ _ _ h1,typA_append,typA_none toks _ _ _ h2,typA_append,typA_none toks _ _ _ (sep_none _),typA_append,typA_none toks _ _ _ h4,typA_append,typA_none toks _ _ _ h3]
 rw [show u+lvL (d.leadIts.map It.pt)+lvL ([It.leaf,.leaf,.leaf].map It.pt)+lvL ((sepIts d.pars).map It.pt)+lvL ([It.leaf].map It.pt)=d.at2 u by
  rw [hl,sepIts_pt]
  simp only [DfS.at2,DfS.at1,List.map_cons,List.map_nil,It.pt,lvL,PT.lv]]
 exact typA_its toks d.ty _ _ _
theorem parA_none (toks:List Tok):∀ (l:List It) (u:Nat),(∀ i∈l,¬ (i matches .par _))→parA toks u l=[]
 | [],u,_=>rfl
 | i :: l,u,h=>by
  have h1:=h i List.mem_cons_self
  have h2:=parA_none toks l (u+i.pt.lv) fun x hx=>h x (List.mem_cons_of_mem _ hx)
  cases i with
  | par t=>simp at h1
  | leaf=>rw [parA];exact h2;simp
  | base=>rw [parA];exact h2;simp
  | expr e=>rw [parA];exact h2;simp
  | cl e=>rw [parA];exact h2;simp
theorem parA_sep (toks:List Tok):∀ (l:List TyS) (u:Nat),parA toks u (sepIts l)=parsFF toks u l
 | [],u=>rfl
 | [t],u=>by rw [sepIts,parA,parA,parsFF,parsFF]
 | t :: s :: l,u=>by
  rw [show sepIts (t :: s :: l)=.par t :: .leaf :: sepIts (s :: l) from by rw [sepIts],parA,parA,parA_sep toks (s :: l),parsFF]
  ·rfl
  ·simp
theorem DfS.pars_par (toks:List Tok)(d:DfS)(u:Nat):parA toks u d.its=(d.dd toks u).params:=by
 have h1:∀ i∈d.leadIts,¬ (i matches .par _):=fun i h=>by
  unfold DfS.leadIts at h
  split at h
  ·rw [List.mem_singleton] at h;subst h;simp
  ·cases h
 have h2:∀ i∈[It.leaf,.leaf,.leaf],¬ (i matches .par _):=fun i h=>by
  simp only [List.mem_cons,List.not_mem_nil,or_false,or_self] at h;subst h;simp
 have h3:∀ i∈([It.leaf]++(d.ty.its++[.leaf,.expr d.body,.leaf])),¬ (i matches .par _):=fun i h=>by
  unfold TyS.its at h
  cases hc:d.ty.cl with
  | none =>
   rw [hc] at h
   simp only [List.mem_append,List.mem_cons,List.not_mem_nil,or_false] at h
   rcases h with rfl|(rfl|rfl)|rfl|rfl|rfl <;> simp
  | some e =>
   rw [hc] at h
   simp only [List.mem_append,List.mem_cons,List.not_mem_nil,or_false] at h
   rcases h with rfl|((rfl|rfl)|rfl)|rfl|rfl|rfl <;> simp
 have hl:lvL (d.leadIts.map It.pt)=lvL d.lead:=by unfold DfS.leadIts DfS.lead;split <;> rfl
 rw [DfS.its,parA_append,parA_none toks _ _ h1,parA_append,parA_none toks _ _ h2,parA_append,parA_none toks _ _ h3,parA_sep,List.nil_append,List.nil_append,List.append_nil,hl]
 simp only [List.map_cons,List.map_nil,It.pt,lvL,PT.lv]
 rfl
end Go.Proofs.YtdednahplodojaaGreatDoor
