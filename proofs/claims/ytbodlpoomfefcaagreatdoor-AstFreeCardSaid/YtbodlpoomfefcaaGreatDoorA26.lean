/- Walks and plain laws: ProgPE, ProgLaws, FreeHead, ZedW3, BytesRev. -/
import Derived.Test.YtbodlpoomfefcaaGreatDoorA25
import Derived.Laws.BitsAllLaws
import Derived.Lib.UnsafeStr
set_option maxHeartbeats 16000000
set_option maxRecDepth 100000
set_option linter.unusedVariables false
set_option linter.unusedSimpArgs false
namespace Go.Proofs.YtbodlpoomfefcaaGreatDoor
structure FF where
 name:List UInt8
 base:Nat
 clause:List PE
 at_:Nat
 bare:Int
structure DD where
 pub:Bool
 params:List FF
 res:FF
 body:PE
structure PP where
 imports:List (List UInt8 × Nat)
 defs:List DD
def TyS.ff (toks:List Tok)(u:Nat)(name:List UInt8)(at_:Nat)(t:TyS):FF where
 name:=name
 base:=if textAt toks (u+1)=tBool then 2 else 1
 clause:=match t.cl with|none=>[]|some e=>[e.pe toks (u+3)]
 at_:=at_
 bare:=match t.cl with|none=>((placeAt toks (u+1)+(textAt toks (u+1)).length:Nat):Int)|some _=>-1
def TyS.parFF (toks:List Tok)(u:Nat)(t:TyS):FF:=t.ff toks (u+1) (textAt toks u) (placeAt toks u)
def parsFF (toks:List Tok)(u:Nat):List TyS→List FF
 | []=>[]
 | t :: l=>t.parFF toks u :: parsFF toks (u+t.par.lv+1) l
def DfS.dd (toks:List Tok)(u:Nat)(d:DfS):DD where
 pub:=d.pub
 params:=parsFF toks (d.at1 u+3) d.pars
 res:=d.ty.ff toks (d.at2 u) (textAt toks (d.at1 u+1)) (placeAt toks (d.at1 u+1))
 body:=d.body.pe toks (d.at3 u)
def defsDD (toks:List Tok)(u:Nat):List DfS→List DD
 | []=>[]
 | d :: l=>d.dd toks u :: defsDD toks (u+d.pt.lv) l
def impsPP (toks:List Tok)(u:Nat):Nat→List (List UInt8 × Nat)
 | 0=>[]
 | n+1=>(textAt toks (u+1),placeAt toks (u+1)) :: impsPP toks (u+3) n
def PgS.pp (toks:List Tok)(p:PgS):PP:=⟨impsPP toks 0 p.imps,defsDD toks (3 * p.imps) p.defs⟩
def clDump:List PE→List UInt8
 | []=>[]
 | e :: l=>e.dump++clDump l
def clDumpT:List PE→List UInt8
 | []=>[]
 | e :: l=>e.dumpT++clDumpT l
def FF.tdump (f:FF):List UInt8:=[58]++decF f.base++clDump f.clause
def FF.tdumpT (f:FF):List UInt8:=[58]++decF f.base++clDumpT f.clause
def parsDump:List FF→List UInt8
 | []=>[]
 | f :: l=>[32]++f.name++f.tdump++parsDump l
def parsDumpT:List FF→List UInt8
 | []=>[]
 | f :: l=>[32]++f.name++f.tdumpT++parsDumpT l
def DD.dump (d:DD):List UInt8:=(if d.pub=true then [112,117,98,32] else [])++d.res.name++parsDump d.params++([32]++d.res.tdump++[32,61,32]++d.body.dump++[10])
def DD.dumpT (d:DD):List UInt8:=(if d.pub=true then [112,117,98,32] else [])++d.res.name++parsDumpT d.params++([32]++d.res.tdumpT++[32,61,32]++d.body.dumpT++[10])
def defsDump:List DD→List UInt8
 | []=>[]
 | d :: l=>d.dump++defsDump l
def defsDumpT:List DD→List UInt8
 | []=>[]
 | d :: l=>d.dumpT++defsDumpT l
def impsDump:List (List UInt8 × Nat)→List UInt8
 | []=>[]
 | m :: l=>[105,109,112,111,114,116,32]++m.1++[10]++impsDump l
def PP.dump (p:PP):List UInt8:=impsDump p.imports++defsDump p.defs
def PP.dumpT (p:PP):List UInt8:=impsDump p.imports++defsDumpT p.defs
def FF.erase (f:FF):FF:={ f with clause:=[] }
def DD.erase (d:DD):DD:={ d with params:=d.params.map FF.erase,res:=d.res.erase }
def PP.erase (p:PP):PP:={ p with defs:=p.defs.map DD.erase }
def FF.bares (f:FF):List Int:=if 0≤f.bare then [f.bare] else []
def DD.bares (d:DD):List Int:=d.params.flatMap FF.bares++d.res.bares
def PP.bares (p:PP):List Int:=p.defs.flatMap DD.bares
def FF.all (P:PE→Prop)(f:FF):Prop:=∀ e∈f.clause,P e
def DD.all (P:PE→Prop)(d:DD):Prop:=(∀ f∈d.params,f.all P)∧d.res.all P∧P d.body
def PP.all (P:PE→Prop)(p:PP):Prop:=∀ d∈p.defs,d.all P
theorem clDump_told:∀ {l:List PE},(∀ e∈l,e.told)→clDumpT l=clDump l
 | [],_=>rfl
 | e :: l,h=>by
  rw [clDumpT,clDump,PE.dump_told (h e List.mem_cons_self),clDump_told fun x hx=>h x (List.mem_cons_of_mem _ hx)]
theorem FF.dump_told {f:FF}(h:f.all PE.told):f.tdumpT=f.tdump:=by rw [FF.tdumpT,FF.tdump,clDump_told h]
theorem parsDump_told:∀ {l:List FF},(∀ f∈l,f.all PE.told)→parsDumpT l=parsDump l
 | [],_=>rfl
 | f :: l,h=>by
  rw [parsDumpT,parsDump,FF.dump_told (h f List.mem_cons_self),parsDump_told fun x hx=>h x (List.mem_cons_of_mem _ hx)]
theorem DD.dump_told {d:DD}(h:d.all PE.told):d.dumpT=d.dump:=by
 rw [DD.dumpT,DD.dump,parsDump_told h.1,FF.dump_told h.2.1,PE.dump_told h.2.2]
theorem defsDump_told:∀ {l:List DD},(∀ d∈l,d.all PE.told)→defsDumpT l=defsDump l
 | [],_=>rfl
 | d :: l,h=>by
  rw [defsDumpT,defsDump,DD.dump_told (h d List.mem_cons_self),defsDump_told fun x hx=>h x (List.mem_cons_of_mem _ hx)]
theorem PP.dump_told {p:PP}(h:p.all PE.told):p.dumpT=p.dump:=by rw [PP.dumpT,PP.dump,defsDump_told h]
theorem FF.all_erase {P:PE→Prop}(f:FF):f.erase.all P:=fun e he=>by cases he
theorem DD.all_erase {P:PE→Prop}{d:DD}(h:P d.body):d.erase.all P:=by
 refine ⟨fun f hf=>?_,FF.all_erase _,h⟩
 obtain ⟨g,_,rfl⟩:=List.mem_map.1 hf
 exact FF.all_erase g
theorem PP.all_erase {P:PE→Prop}{p:PP}(h:p.all P):p.erase.all P:=fun d hd=>by
 obtain ⟨c,hc,rfl⟩:=List.mem_map.1 hd
 exact DD.all_erase (h c hc).2.2
theorem nd_sep:∀ l:List PT,ndL l≤ndL (sepPT l)
 | []=>by rw [sepPT];exact Nat.le_refl _
 | [t]=>by rw [sepPT_one];exact Nat.le_refl _
 | t :: s :: l=>by
  have:=nd_sep (s :: l)
  have h2:ndL (t :: .leaf :: sepPT (s :: l))=t.nd+(1+ndL (sepPT (s :: l))):=by rw [ndL,ndL,PT.nd]
  rw [sepPT_two,h2,ndL]
  omega
theorem DfS.nd_parts (d:DfS):ndL (d.pars.map TyS.par)≤d.pt.nd∧ndL d.ty.pts≤d.pt.nd∧d.body.pt.nd≤d.pt.nd:=by
 have:=nd_sep (d.pars.map TyS.par)
 rw [DfS.pt,PT.nd,DfS.kids]
 simp only [ndL_append,ndL]
 omega
theorem PgS.nd_defs (p:PgS):ndL (p.defs.map DfS.pt)≤p.pt.nd:=by
 rw [PgS.pt,PT.nd,PgS.kids]
 simp only [ndL_append,ndL]
 omega
def PeN (toks:List Tok)(N:Nat)(P:PE→Prop):Prop:=∀ (cl:Bool) (e:CE) (u:Nat),e.ok toks cl u→e.pt.nd≤N→P (e.pe toks u)
theorem TyS.all_ff {toks:List Tok}{N:Nat}{P:PE→Prop}(h:PeN toks N P){t:TyS}{u:Nat}{name:List UInt8}{a:Nat}(ho:t.ok toks u)(hn:ndL t.pts≤N):(t.ff toks u name a).all P:=by
 intro x hx
 obtain ⟨_,ho⟩:=ho
 unfold TyS.ff at hx
 unfold TyS.pts at hn
 cases hc:t.cl with
 | none=>rw [hc] at hx;cases hx
 | some e =>
  rw [hc] at hx ho hn
  simp only [List.mem_singleton] at hx
  subst hx
  simp only [ndL,PT.nd,List.cons_append,List.nil_append] at hn
  exact h true e _ ho (by omega)
theorem TyS.nd_par (t:TyS):ndL t.pts≤t.par.nd:=by
 have:t.par.nd=ndL (.leaf :: t.pts)+1:=by rw [TyS.par,PT.nd]
 rw [ndL] at this
 omega
theorem pars_all {toks:List Tok}{N:Nat}{P:PE→Prop}(h:PeN toks N P):∀ (l:List TyS) (u:Nat),parsOk toks u l→ndL (l.map TyS.par)≤N→∀ f∈parsFF toks u l,f.all P
 | [],_,_,_,f,hf=>by cases hf
 | t :: l,u,ho,hn,f,hf=>by
  have:=t.nd_par
  rw [List.map_cons,ndL] at hn
  rw [parsFF,List.mem_cons] at hf
  rcases hf with rfl|hf
  ·exact TyS.all_ff h ho.1.2 (by omega)
  ·exact pars_all h l _ ho.2 (by omega) f hf
theorem DfS.all_dd {toks:List Tok}{N:Nat}{P:PE→Prop}(h:PeN toks N P){d:DfS}{u:Nat}(ho:d.ok toks u)(hn:d.pt.nd≤N):(d.dd toks u).all P:=by
 obtain ⟨_,_,_,_,h5,h6,h7⟩:=ho
 obtain ⟨n1,n2,n3⟩:=d.nd_parts
 exact ⟨pars_all h _ _ h5 (by omega),TyS.all_ff h h6 (by omega),h _ _ _ h7 (by omega)⟩
theorem defs_all {toks:List Tok}{N:Nat}{P:PE→Prop}(h:PeN toks N P):∀ (l:List DfS) (u:Nat),defsOk toks u l→ndL (l.map DfS.pt)≤N→∀ d∈defsDD toks u l,d.all P
 | [],_,_,_,d,hd=>by cases hd
 | x :: l,u,ho,hn,d,hd=>by
  rw [List.map_cons,ndL] at hn
  rw [defsDD,List.mem_cons] at hd
  rcases hd with rfl|hd
  ·exact DfS.all_dd h ho.1 (by omega)
  ·exact defs_all h l _ ho.2 (by omega) d hd
theorem PgS.all_pp {toks:List Tok}{P:PE→Prop}{p:PgS}(h:PeN toks p.pt.nd P)(ho:p.ok toks):(p.pp toks).all P:=defs_all h _ _ ho.2.2.2 p.nd_defs
theorem parsFF_len (toks:List Tok):∀ (l:List TyS) (u:Nat),(parsFF toks u l).length=l.length
 | [],_=>rfl
 | t :: l,u=>by rw [parsFF,List.length_cons,List.length_cons,parsFF_len toks l]
theorem defsDD_len (toks:List Tok):∀ (l:List DfS) (u:Nat),(defsDD toks u l).length=l.length
 | [],_=>rfl
 | t :: l,u=>by rw [defsDD,List.length_cons,List.length_cons,defsDD_len toks l]
theorem impsPP_len (toks:List Tok):∀ (n u:Nat),(impsPP toks u n).length=n
 | 0,_=>rfl
 | n+1,u=>by rw [impsPP,List.length_cons,impsPP_len toks n]
structure FF.small (M:Nat) (f:FF):Prop where
 name:f.name.length≤M
 base:f.base=1∨f.base=2
 clause:f.clause.length≤1
structure DD.small (M:Nat) (d:DD):Prop where
 params:∀ f∈d.params,f.small M
 few:d.params.length≤8
 res:d.res.small M
structure PP.small (M:Nat) (p:PP):Prop where
 imports:∀ m∈p.imports,m.1.length≤M
 ifew:p.imports.length≤16
 defs:∀ d∈p.defs,d.small M
 dfew:p.defs.length≤64
theorem FF.small.erase {M:Nat}{f:FF}(h:f.small M):f.erase.small M:=⟨h.name,h.base,Nat.zero_le _⟩
theorem DD.small.erase {M:Nat}{d:DD}(h:d.small M):d.erase.small M:=by
 refine ⟨fun f hf=>?_,by simpa [DD.erase] using h.few,h.res.erase⟩
 obtain ⟨g,hg,rfl⟩:=List.mem_map.1 hf
 exact (h.params g hg).erase
theorem PP.small.erase {M:Nat}{p:PP}(h:p.small M):p.erase.small M:=by
 refine ⟨h.imports,h.ifew,fun d hd=>?_,by simpa [PP.erase] using h.dfew⟩
 obtain ⟨c,hc,rfl⟩:=List.mem_map.1 hd
 exact (h.defs c hc).erase
theorem TyS.ff_small {toks:List Tok}{M:Nat}(hM:∀ u,(textAt toks u).length≤M)(t:TyS)(u v a:Nat):(t.ff toks u (textAt toks v) a).small M:=by
 refine ⟨hM v,?_,?_⟩
 ·show (if _ then _ else _)=1∨_
  split
  ·right;show (if _ then _ else _)=2;rw [if_pos (by assumption)]
  ·left;rfl
 ·unfold TyS.ff
  cases t.cl <;> simp
theorem pars_small {toks:List Tok}{M:Nat}(hM:∀ u,(textAt toks u).length≤M):∀ (l:List TyS) (u:Nat),∀ f∈parsFF toks u l,f.small M
 | [],_,f,hf=>by cases hf
 | t :: l,u,f,hf=>by
  rw [parsFF,List.mem_cons] at hf
  rcases hf with rfl|hf
  ·exact TyS.ff_small hM _ _ _ _
  ·exact pars_small hM l _ f hf
theorem DfS.dd_small {toks:List Tok}{M:Nat}(hM:∀ u,(textAt toks u).length≤M){d:DfS}{u:Nat}(ho:d.ok toks u):(d.dd toks u).small M :=
 ⟨pars_small hM _ _,by show (parsFF _ _ _).length≤8;rw [parsFF_len];exact ho.2.2.2.1,TyS.ff_small hM _ _ _ _⟩
theorem defs_small {toks:List Tok}{M:Nat}(hM:∀ u,(textAt toks u).length≤M):∀ (l:List DfS) (u:Nat),defsOk toks u l→∀ d∈defsDD toks u l,d.small M
 | [],_,_,d,hd=>by cases hd
 | x :: l,u,ho,d,hd=>by
  rw [defsDD,List.mem_cons] at hd
  rcases hd with rfl|hd
  ·exact DfS.dd_small hM ho.1
  ·exact defs_small hM l _ ho.2 d hd
theorem imps_small {toks:List Tok}{M:Nat}(hM:∀ u,(textAt toks u).length≤M):∀ (n u:Nat),∀ m∈impsPP toks u n,m.1.length≤M
 | 0,_,m,hm=>by cases hm
 | n+1,u,m,hm=>by
  rw [impsPP,List.mem_cons] at hm
  rcases hm with rfl|hm
  ·exact hM _
  ·exact imps_small hM n _ m hm
theorem PgS.pp_small {toks:List Tok}{M:Nat}{p:PgS}(hM:∀ u,(textAt toks u).length≤M)(ho:p.ok toks):(p.pp toks).small M :=
 ⟨imps_small hM _ _,by show (impsPP _ _ _).length≤16;rw [impsPP_len];exact ho.1,defs_small hM _ _ ho.2.2.2,by show (defsDD _ _ _).length≤64;rw [defsDD_len];exact ho.2.1⟩
theorem clDump_len {K:Nat}:∀ {l:List PE},(∀ e∈l,e.dump.length≤K)→(clDump l).length≤l.length * K
 | [],_=>by simp [clDump]
 | e :: l,h=>by
  have h1:=h e List.mem_cons_self
  have h2:=clDump_len (l:=l) fun x hx=>h x (List.mem_cons_of_mem _ hx)
  rw [clDump,List.length_append,List.length_cons,Nat.succ_mul]
  omega
def dumpK (K:Nat)(e:PE):Prop:=e.dump.length≤K
theorem FF.tdump_len {M K:Nat}{f:FF}(h:f.small M)(hk:f.all (dumpK K)):f.tdump.length≤K+3:=by
 have h1:=clDump_len (K:=K) hk
 have h2:f.clause.length * K≤1 * K:=Nat.mul_le_mul_right _ h.clause
 have h3:=dec_two (n:=f.base) (by rcases h.base with q|q <;> omega)
 rw [FF.tdump]
 simp only [List.length_append,List.length_cons,List.length_nil]
 omega
theorem parsDump_len {M K:Nat}:∀ {l:List FF},(∀ f∈l,f.small M)→(∀ f∈l,f.all (dumpK K))→(parsDump l).length≤l.length * (M+K+4)
 | [],_,_=>by simp [parsDump]
 | f :: l,h,hk=>by
  have h0:=h f List.mem_cons_self
  have h1:=FF.tdump_len h0 (hk f List.mem_cons_self)
  have h2:=parsDump_len (l:=l) (fun x hx=>h x (List.mem_cons_of_mem _ hx)) (fun x hx=>hk x (List.mem_cons_of_mem _ hx))
  have h3:=h0.name
  rw [parsDump,List.length_cons,Nat.succ_mul]
  simp only [List.length_append,List.length_cons,List.length_nil]
  omega
theorem DD.dump_len {M K:Nat}{d:DD}(h:d.small M)(hk:d.all (dumpK K)):d.dump.length≤10 * (M+K+4)+20:=by
 have h1:=parsDump_len h.params hk.1
 have h2:d.params.length * (M+K+4)≤8 * (M+K+4):=Nat.mul_le_mul_right _ h.few
 have h3:=FF.tdump_len h.res hk.2.1
 have h4:d.body.dump.length≤K:=hk.2.2
 have h5:=h.res.name
 rw [DD.dump]
 simp only [List.length_append,List.length_cons,List.length_nil]
 split <;> simp only [List.length_cons,List.length_nil] <;> omega
theorem defsDump_len {M K:Nat}:∀ {l:List DD},(∀ d∈l,d.small M)→(∀ d∈l,d.all (dumpK K))→(defsDump l).length≤l.length * (10 * (M+K+4)+20)
 | [],_,_=>by simp [defsDump]
 | d :: l,h,hk=>by
  have h1:=DD.dump_len (h d List.mem_cons_self) (hk d List.mem_cons_self)
  have h2:=defsDump_len (l:=l) (fun x hx=>h x (List.mem_cons_of_mem _ hx)) (fun x hx=>hk x (List.mem_cons_of_mem _ hx))
  rw [defsDump,List.length_append,List.length_cons,Nat.succ_mul]
  omega
theorem impsDump_len {M:Nat}:∀ {l:List (List UInt8 × Nat)},(∀ m∈l,m.1.length≤M)→(impsDump l).length≤l.length * (M+8)
 | [],_=>by simp [impsDump]
 | m :: l,h=>by
  have h1:=h m List.mem_cons_self
  have h2:=impsDump_len (l:=l) fun x hx=>h x (List.mem_cons_of_mem _ hx)
  rw [impsDump,List.length_cons,Nat.succ_mul]
  simp only [List.length_append,List.length_cons,List.length_nil]
  omega
theorem PP.dump_len {M K:Nat}{p:PP}(h:p.small M)(hk:p.all (dumpK K)):p.dump.length≤16 * (M+8)+64 * (10 * (M+K+4)+20):=by
 have h1:=impsDump_len h.imports
 have h2:p.imports.length * (M+8)≤16 * (M+8):=Nat.mul_le_mul_right _ h.ifew
 have h3:=defsDump_len h.defs hk
 have h4:p.defs.length * (10 * (M+K+4)+20)≤64 * (10 * (M+K+4)+20):=Nat.mul_le_mul_right _ h.dfew
 rw [PP.dump,List.length_append]
 omega
theorem goodT_of {S:List UInt8}{toks:List Tok}{nodes:List Nd}{t:PT}(hl:lexAll S=.ok toks)(he:nodes=t.em 0 0)(hw:t.wf)(hlv:t.lv=toks.length)(hn:nodes.length≤2 * toks.length+2):GoodT toks nodes (t.dump toks 0):=by
 have hs:S.length≤65536:=by
  unfold lexAll at hl
  split at hl
  ·cases hl
  ·omega
 have hL:=lexAll_laid hl
 have hc:=hL.count
 have hnd:nodes.length=t.nd:=by rw [he,PT.em_len]
 have hnp:=t.nd_pos
 have hM:∀ u,(textAt toks u).length≤65536:=fun u=>Nat.le_trans (text_few hl u) hs
 have hdl:=tdump_len hM t 0 hw
 refine ⟨by omega,by omega,fun n hm=>?_,by omega,?_,?_,?_,?_,fun n hm=>?_,fun n hm h19=>?_⟩
 ·rw [he] at hm
  have:=em_kids _ _ _ n hm
  omega
 ·rw [he];exact right_em _ hw _ hlv
 ·rw [hnd,he,leaves_em _ hw (by omega),hlv]
 ·rw [hnd,he];exact dump_em toks _ hw (by omega)
 ·have:t.nd * (65536+16)≤200000 * (65536+16):=Nat.mul_le_mul_right _ (by omega)
  omega
 ·rw [he] at hm
  exact (em_kinds _ _ _ hw n hm).1
 ·rw [he] at hm
  have:=(em_kinds _ _ _ hw n hm).2 h19
  omega
structure PGood (S:List UInt8) (toks:List Tok) (nodes:List Nd) (p:PgS):Prop where
 small:S.length≤65536
 lexed:lexAll S=.ok toks
 nodes_eq:nodes=p.pt.em 0 0
 okk:p.ok toks
 lv:p.pt.lv=toks.length
 count:toks.length≤S.length+1
 nd:p.pt.nd≤2 * toks.length
 good:GoodT toks nodes (p.pt.dump toks 0)
 whole:wholeF toks=S
 deep:progF S 200=.good toks nodes
 fits:(p.pp toks).all (PE.fits (S.length+1))
 told:(p.pp toks).all PE.told
 few:(p.pp toks).all fun e=>e.sizeG≤p.pt.nd
 psmall:(p.pp toks).small (S.length+1)
theorem prog_good {S:List UInt8}{d:Nat}{toks:List Tok}{nodes:List Nd}(hd:d≤200)(h:progF S d=.good toks nodes):∃ p,PGood S toks nodes p:=by
 obtain ⟨hl,p,he,hok,hlv,hn⟩:=progF_good h
 have hs:S.length≤65536:=by
  unfold lexAll at hl
  split at hl
  ·cases hl
  ·omega
 have hL:=lexAll_laid hl
 have hM:∀ u,(textAt toks u).length≤S.length+1:=fun u=>Nat.le_succ_of_le (text_few hl u)
 have hN:=lexAll_nums hl
 have hnd:nodes.length=p.pt.nd:=by rw [he,PT.em_len]
 refine ⟨p,hs,hl,he,hok,hlv,hL.count,by omega,goodT_of hl he p.wf hlv (by omega),hL.whole_eq,progF_deeper hd h,PgS.all_pp (fun cl e u ho _=>CE.fits hL.some hN hM (by omega) e u ho) hok,PgS.all_pp (fun cl e u ho _=>CE.told (lexAll_numsOk hl) e u ho) hok,PgS.all_pp (fun cl e u ho hn=>Nat.le_trans (CE.sizeG_le toks e u) hn) hok,PgS.pp_small hM hok⟩
theorem PP.all_imp {P Q R T:PE→Prop}{p:PP}(h1:p.all P)(h2:p.all Q)(h3:p.all R)(h:∀ e,P e→Q e→R e→T e):p.all T:=fun d hd =>
 ⟨fun f hf e he=>h e ((h1 d hd).1 f hf e he) ((h2 d hd).1 f hf e he) ((h3 d hd).1 f hf e he),fun e he=>h e ((h1 d hd).2.1 e he) ((h2 d hd).2.1 e he) ((h3 d hd).2.1 e he),h _ (h1 d hd).2.2 (h2 d hd).2.2 (h3 d hd).2.2⟩
theorem PGood.dumps {S:List UInt8}{toks:List Tok}{nodes:List Nd}{p:PgS}(h:PGood S toks nodes p)(hs:S.length≤1500):(p.pp toks).all (dumpK 20000000):=by
 refine PP.all_imp h.fits h.told h.few fun e h1 h2 h3=>?_
 have h4:=dumpT_len e h1
 rw [PE.dump_told h2] at h4
 have h5:=h.nd
 have h6:=h.count
 have h7:e.sizeG * (3 * (S.length+1)+30)≤3002 * (3 * (S.length+1)+30):=Nat.mul_le_mul_right _ (by omega)
 unfold dumpK
 omega
theorem PGood.dump_len {S:List UInt8}{toks:List Tok}{nodes:List Nd}{p:PgS}(h:PGood S toks nodes p)(hs:S.length≤1500):(p.pp toks).dump.length≤20000000000:=by
 obtain ⟨K,hK⟩:∃ K,K=20000000:=⟨_,rfl⟩
 have hd:=h.dumps hs
 rw [← hK] at hd
 have:=PP.dump_len h.psmall hd
 clear hd
 generalize (p.pp toks).dump.length=n at this ⊢
 generalize S.length=m at *
 subst hK
 exact Nat.le_trans this (by omega)
theorem lexF_some:∀ (n:Nat) (T:List UInt8) (p:Nat) (l:List Tok),lexF n T p=.ok l→l≠[]
 | 0,T,p,l,h=>by rw [lexF] at h;cases h
 | n+1,T,p,l,h=>by
  rw [lexF] at h
  split at h
  ·cases h
  ·split at h
   ·injection h with h;subst h;simp
   ·split at h
    ·cases h
    ·injection h with h;subst h;simp
theorem fun_head {R:List UInt8}{toks:List Tok}(h:lexAll (102 :: 117 :: 110 :: 32 :: R)=.ok toks):∃ t l,toks=t :: l∧t.text=[102,117,110]∧l≠[]:=by
 have hk:leadF false (102 :: 117 :: 110 :: 32 :: R)=0:=by rw [leadF,if_neg (by decide),if_neg (by rintro ⟨q,_⟩;cases q)]
 have hw:(102 :: 117 :: 110 :: 32 :: R).takeWhile insideB=[102,117,110]:=by
  rw [List.takeWhile_cons_of_pos (by decide),List.takeWhile_cons_of_pos (by decide),List.takeWhile_cons_of_pos (by decide),List.takeWhile_cons_of_neg (by decide)]
 have ht:tokF (102 :: 117 :: 110 :: 32 :: R)=(2,3,0):=by
  rw [tokF,if_pos (by decide),wordF,hw]
  rfl
 unfold lexAll at h
 split at h
 ·cases h
 ·rw [lexF] at h
  simp only [hk,List.drop_zero,ht] at h
  rw [if_neg (by simp),if_neg (by simp)] at h
  split at h
  ·cases h
  ·rename_i l hl
   injection h with h
   exact ⟨_,_,h.symm,rfl,lexF_some _ _ _ _ hl⟩
theorem PGood.some_def {R:List UInt8}{toks:List Tok}{nodes:List Nd}{p:PgS}(F:PGood (102 :: 117 :: 110 :: 32 :: R) toks nodes p):p.defs≠[]:=by
 obtain ⟨t,l,rfl,h1,h2⟩:=fun_head F.lexed
 intro hd
 obtain ⟨imps,defs⟩:=p
 obtain rfl:defs=[]:=hd
 have hok:=F.okk
 have hlv:=F.lv
 cases imps with
 | zero =>
  have:(PgS.pt ⟨0,[]⟩).lv=1:=rfl
  rw [this,List.length_cons] at hlv
  exact h2 (List.eq_nil_of_length_eq_zero (by omega))
 | succ n =>
  have h3:=hok.2.2.1.1
  have h4:textAt (t :: l) 0=t.text:=rfl
  rw [h4,h1] at h3
  cases h3
end Go.Proofs.YtbodlpoomfefcaaGreatDoor

namespace Go.Proofs.YtbodlpoomfefcaaGreatDoor
open Go.RowKit Go
theorem or_words (r x:Nat)(hr:r<4294967296)(hx:x<4294967296):bits BinOp.or IntKind.u64 ((r:Int) * 4294967296) (x:Int)=(r:Int) * 4294967296+(x:Int):=by
 have e:((r:Int) * 4294967296)=((r * 4294967296:Nat):Int):=by omega
 have h:(r * 4294967296) ||| x=r * 4294967296+x:=by
  rw [show (4294967296:Nat)=2 ^ 32 from rfl,← Nat.shiftLeft_eq,Nat.shiftLeft_add_eq_or_of_lt (by omega)]
 rw [e,u64_or_nat _ _ (by omega) (by omega),h]
 omega
theorem set_last {α:Type}(z v:α)(k:Nat)(L:List α):(List.replicate (k+1) z++L).set k v=List.replicate k z++v :: L:=by
 rw [List.replicate_succ',List.append_assoc,List.set_append_right _ _ (by simp),List.length_replicate,Nat.sub_self]
 rfl
def ShortPost (b:Nat)(ws:List Nat)(w:World)(e:Ending)(w':World):Prop :=
 ∃ cap,e=.returned (.tuple #[.slice (some ⟨w.heap.size,0,none⟩) (trimW (shortF b ws).1).length cap,.int .u64 ((shortF b ws).2:Nat)])∧Wd (fun k=>w.heap.size≤k) w' (.slice (some ⟨w.heap.size,0,none⟩) (trimW (shortF b ws).1).length cap) (trimW (shortF b ws).1)∧Below w.heap.size w w'
theorem zshort_any (P:Nat→Prop)(ao:Option Addr)(cap:Nat)(ws:List Nat)(b:Nat)(w:World)(h:Wd P w (.slice ao ws.length cap) ws)(hw:∀ x∈ws,x<4294967296)(hb:0<b)(hb9:b≤1000000000)(hn:ws.length≤1000) :
  Calls Tryz.prog 171 #[.slice ao ws.length cap,.int .u64 b] w (ShortPost b ws w):=by
 obtain ⟨i0,hi,hz0,hz1,hz2⟩:=info_parts Tryz.infoU32
 obtain ⟨ao',cap',hv,hc1,hf⟩:=h.form
 simp only [Value.slice.injEq] at hv
 obtain ⟨rfl,-,rfl⟩:=hv
 have HF:=Lib.hid hf
 have HW:=Lib.hid hw
 have hmk:=run_make (P:=Tryz.prog) w 35 275 i0 (.int .u32 0) Tryz.underlying35 hi hz0 .i64 .i64 ws.length ws.length (by omega) (by omega) (by rw [hz2];omega) (by omega)
 rw [hz1] at hmk
 clear hf h hw
 go_enter Tryz.func171,Tryz.ntmps171
 go_wp2
 have hnew:=heap_alloc_new w (.cells (madeCells #[Value.int .u32 0] ws.length) 275)
 have hbw:=below_new w (.cells (madeCells #[Value.int .u32 0] ws.length) 275)
 clear hmk
 generalize w.alloc _=w2 at hnew hbw ⊢
 go_loopw [7,8] (fun rv q wr=>∃ (k:Nat) (i:Int) (cs:Array Value),k≤ws.length∧q=.int .i64 i∧i+1=(k:Int)∧rv=.int .u64 ((shortF b (ws.drop k)).2:Nat)∧wr.heap[w.heap.size]?=some (.cells cs 275 (0,0))∧cs.toList=List.replicate k (.int .u32 0)++(shortF b (ws.drop k)).1.map (fun d=>.int .u32 (d:Nat))∧Below w.heap.size w wr) (fun _ q _=>(intOf q+1).toNat)
 case atStart=>exact ⟨ws.length,_,_,Nat.le_refl _,rfl,by omega,by rw [List.drop_length];rfl,hnew,by rw [toList_madeCells_one,List.drop_length];simp [shortF],hbw⟩
 case round =>
  obtain ⟨k,i,cs,hk,rfl,hik,rfl,hcs,hcl,hbl⟩:=hrel
  have hz:=hbl.size
  cases k with
  | zero =>
   obtain rfl:i=-1:=by omega
   rw [List.drop_zero] at hcl ⊢
   rw [List.replicate_zero,List.nil_append] at hcl
   have hsl:=shortF_len b ws
   have hWd:Wd (fun k=>w.heap.size≤k) wr (.slice (some ⟨w.heap.size,0,none⟩) (shortF b ws).1.length ws.length) (shortF b ws).1:=by
    refine ⟨_,_,rfl,by rw [hsl];exact Nat.le_refl _,by simp,fun h0=>⟨w.heap.size,0,rfl,Nat.le_refl _,(Array.getElem?_eq_some_iff.1 hcs).1,fun j hj=>?_⟩⟩
    rw [Lib.cell_of_heap hcs,Nat.zero_add,← Array.getElem?_toList,hcl,List.getElem?_eq_getElem hj]
   have hT:=ztrim_any _ (some ⟨w.heap.size,0,none⟩) ws.length (shortF b ws).1 wr hWd (by omega)
   obtain ⟨n,n1,n2,_,_⟩:=trimW_take (shortF b ws).1
   have hln:(trimW (shortF b ws).1).length=n:=by rw [n2,List.length_take];omega
   have hW2:Wd (fun k=>w.heap.size≤k) wr (.slice (some ⟨w.heap.size,0,none⟩) (trimW (shortF b ws).1).length ws.length) (trimW (shortF b ws).1):=by
    rw [hln,n2]
    exact hWd.take n1
   rw [hsl] at hT
   have HT:=Lib.hid hT
   have HW2:=Lib.hid hW2
   clear hT hW2 hWd hsl hln n1 n2 hcl
   go_wp2_with (go_at_call 131;refine HT.out.mono ?_;rintro e w8 ⟨rfl,rfl⟩)
   go_ret2
   exact ⟨_,rfl,HW2.out,hbl⟩
  | succ k =>
   obtain rfl:i=(k:Int):=by omega
   obtain ⟨bk,off,rfl,_,hbk,hcell⟩:=HF.out (by omega)
   have hx:=(hbl.cell (p:=⟨bk,off+k,none⟩) hbk).trans (hcell k (by omega))
   have hxw:=HW.out ws[k] (List.getElem_mem (by omega))
   have hdr:ws.drop k=ws[k] :: ws.drop (k+1):=List.drop_eq_getElem_cons (by omega)
   have hr:=shortF_rest b hb (ws.drop (k+1))
   have hsh:shortF b (ws.drop k)=(((shortF b (ws.drop (k+1))).2 * 4294967296+ws[k]) / b :: (shortF b (ws.drop (k+1))).1,((shortF b (ws.drop (k+1))).2 * 4294967296+ws[k]) % b):=by rw [hdr,shortF]
   have HS:=Lib.hid hsh
   have HCL:=Lib.hid hcl
   generalize (shortF b (ws.drop (k+1))).2=r at hr HS ⊢
   generalize ws[k]=x at hx hxw HS
   have hkI:(k:Int)<(ws.length:Int):=by omega
   clear hcell hdr hsh hcl
   have hlt:=(Array.getElem?_eq_some_iff.1 hcs).1
   have hor:=or_words r x (by omega) hxw
   have hk0:cs.toList[k]?=some (.int .u32 0):=by
    rw [HCL.out,List.getElem?_append_left (by simp),List.getElem?_replicate,if_pos (by omega)]
   have o0:wr.cell? ⟨w.heap.size,k,none⟩=some (.int .u32 0):=by rw [Lib.cell_of_heap hcs,← Array.getElem?_toList];exact hk0
   have oz:∀ j,wr.frozen? ⟨w.heap.size,j,none⟩=false:=by intro j;simp [World.frozen?,hcs]
   clear hk0
   have hq:(r * 4294967296+x) / b<4294967296:=by
    rw [Nat.div_lt_iff_lt_mul hb]
    have:(r+1) * 4294967296≤b * 4294967296:=Nat.mul_le_mul_right _ hr
    rw [Nat.mul_comm 4294967296 b]
    omega
   have e1:((r:Int) * 4294967296+(x:Int)) % (b:Int)=(((r * 4294967296+x) % b:Nat):Int):=by
    rw [Int.natCast_emod]
    congr 1
   have e2:((r:Int) * 4294967296+(x:Int)) / (b:Int) % 4294967296=(((r * 4294967296+x) / b:Nat):Int):=by
    have e3:((r:Int) * 4294967296+(x:Int)) / (b:Int)=(((r * 4294967296+x) / b:Nat):Int):=by
     rw [Int.natCast_ediv]
     congr 1
    rw [e3]
    generalize (r * 4294967296+x) / b=qq at hq ⊢
    omega
   have E1:=Lib.hid e1
   have E2:=Lib.hid e2
   clear e1 e2
   go_wp2
   refine ⟨⟨k,(k:Int) - 1,_,by omega,rfl,by omega,by rw [HS.out];exact val_int E1.out,heap_setCell_same wr w.heap.size k _ _ _ hcs,?_,hbl.setCell (Nat.le_refl _) _⟩,by simp [intOf]⟩
   rw [Array.toList_setIfInBounds,HCL.out,set_last,HS.out,E2.out]
   rfl
def RevPost (bk:Nat)(l:List UInt8)(rest:List Value)(fr:Nat × Nat)(w:World)(e:Ending)(w':World):Prop :=
 e=.returned (.tuple #[])∧w'.heap[bk]?=some (.cells (Lib.byteCells l.reverse++rest).toArray 5 fr)∧w'.heap.size=w.heap.size∧(∀ q,q≠bk→w'.heap[q]?=w.heap[q]?)∧Below bk w w'
theorem drew_heap (w:World):w.drew.heap=w.heap:=rfl
theorem split_ends {α:Type}:∀ (M:List α),2≤M.length→∃ x N y,M=x :: (N++[y])
 | [],h=>absurd h (by simp)
 | [x],h=>absurd h (by simp)
 | x :: y :: l,_=>⟨x,(y :: l).dropLast,(y :: l).getLast (by simp),by rw [List.dropLast_concat_getLast]⟩
theorem swap_ends {α:Type}(A N C:List α)(x y:α):((A++(x :: (N++y :: C))).set A.length y).set (A.length+N.length+1) x=A++(y :: (N++x :: C)):=by
 rw [List.set_append_right _ _ (Nat.le_refl _),Nat.sub_self,List.set_cons_zero,List.set_append_right _ _ (by omega),show A.length+N.length+1 - A.length=N.length+1 by omega,List.set_cons_succ,List.set_append_right _ _ (Nat.le_refl _),Nat.sub_self,List.set_cons_zero]
theorem heap_set_fr (w:World)(b i:Nat)(cs:Array Value)(T:TypeId)(fr:Nat × Nat)(v:Value)(hb:w.heap[b]?=some (.cells cs T fr)) :
  (w.setCell ⟨b,i,none⟩ v).heap[b]?=some (.cells (cs.setIfInBounds i v) T fr):=by
 simp [World.setCell,Array.getElem?_modify,hb]
theorem byteRev_any (bk cap:Nat)(l:List UInt8)(rest:List Value)(fr:Nat × Nat)(w:World)(h:w.heap[bk]?=some (.cells (Lib.byteCells l++rest).toArray 5 fr))(hf:l.length≤fr.1)(hn:l.length≤1099511627776) :
  Calls Tryz.prog 173 #[.slice (some ⟨bk,0,none⟩) l.length cap] w (RevPost bk l rest fr w):=by
 go_enter Tryz.func173,Tryz.ntmps173
 go_wp2
 go_loopg [2,3] l.length (fun k s2 s3 wr=>∃ (A M C:List UInt8),s2=.int .i64 (A.length:Nat)∧s3=.int .i64 ((A.length:Int)+(M.length:Int) - 1)∧M.length≤k∧l=C.reverse++M++A.reverse ∧
  wr.heap[bk]?=some (.cells (Lib.byteCells (A++M++C)++rest).toArray 5 fr)∧wr.heap.size=w.heap.size∧(∀ q,q≠bk→wr.heap[q]?=w.heap[q]?)∧Below bk w wr)
 case atStart=>exact ⟨[],l,[],rfl,by simp,Nat.le_refl _,by simp,by simpa using h,rfl,fun _ _=>rfl,Below.refl _ _⟩
 case round =>
  obtain ⟨A,M,C,rfl,rfl,hk,hl,hh,hsz,hoth,hbl⟩:=hrel
  have hlen:l.length=C.length+M.length+A.length:=by rw [hl];simp;omega
  by_cases hlt:2≤M.length
  ·obtain ⟨x,N,y,rfl⟩:=split_ends M hlt
   have hI:(A.length:Int)<(A.length:Int)+((x :: (N++[y])).length:Int) - 1:=by simp only [List.length_cons] at hlt ⊢;omega
   have hj:(A.length:Int)+((x :: (N++[y])).length:Int) - 1=((A.length+N.length+1:Nat):Int):=by simp;omega
   simp only [List.length_cons,List.length_append,List.length_nil] at hlen hk
   rw [hj] at hI ⊢
   have e:A++(x :: (N++[y]))++C=A++(x :: (N++y :: C)):=by simp
   rw [e] at hh
   have ci:wr.cell? ⟨bk,A.length,none⟩=some (.int .u8 x.toNat):=by
    rw [Lib.cell_of_heap hh]
    simp [Lib.byteCells]
   have cj:wr.cell? ⟨bk,A.length+N.length+1,none⟩=some (.int .u8 y.toNat):=by
    rw [Lib.cell_of_heap hh,List.getElem?_toArray,Lib.byteCells,List.map_append,List.append_assoc,List.getElem?_append_right (by simp;omega)]
    simp only [List.length_map]
    rw [show A.length+N.length+1 - A.length=N.length+1 by omega,List.map_cons,List.cons_append,List.getElem?_cons_succ,List.map_append,List.append_assoc,List.getElem?_append_right (by simp)]
    simp
   have fi:wr.frozen? ⟨bk,A.length,none⟩=false:=by
    simp [World.frozen?,hh]
    omega
   have fj:wr.frozen? ⟨bk,A.length+N.length+1,none⟩=false:=by
    simp [World.frozen?,hh]
    omega
   have h1:=heap_set_fr wr bk A.length _ _ _ (.int .u8 y.toNat) hh
   have h2:=heap_set_fr _ bk (A.length+N.length+1) _ _ _ (.int .u8 x.toNat) h1
   have HL:=Lib.hid hl
   have HH:=Lib.hid hh
   have H2:=Lib.hid h2
   have HO:=Lib.hid hoth
   clear hj hl hh h1 h2 hoth e
   go_wp2_with fail
   go_region
   go_wp2
   go_roundg N.length
   case measure=>omega
   case rel =>
    refine ⟨A++[y],N,x :: C,by simp,by simp;omega,Nat.le_refl _,by rw [HL.out];simp,?_,?_,?_,((hbl.setCell (Nat.le_refl _) _).setCell (Nat.le_refl _) _).drew⟩
    ·rw [drew_heap,H2.out]
     have e2:((Lib.byteCells (A++x :: (N++y :: C))++rest).toArray.setIfInBounds A.length (.int .u8 y.toNat)).setIfInBounds (A.length+N.length+1) (.int .u8 x.toNat)=(Lib.byteCells (A++[y]++N++x :: C)++rest).toArray:=by
      have:=swap_ends (Lib.byteCells A) (Lib.byteCells N) (Lib.byteCells C++rest) (.int .u8 x.toNat) (.int .u8 y.toNat)
      simp only [Lib.byteCells_length] at this
      apply Array.toList_inj.1
      simp only [Array.toList_setIfInBounds]
      have e3:Lib.byteCells (A++x :: (N++y :: C))++rest=Lib.byteCells A++(.int .u8 x.toNat :: (Lib.byteCells N++.int .u8 y.toNat :: (Lib.byteCells C++rest))):=by simp [Lib.byteCells]
      have e4:Lib.byteCells (A++[y]++N++x :: C)++rest=Lib.byteCells A++(.int .u8 y.toNat :: (Lib.byteCells N++.int .u8 x.toNat :: (Lib.byteCells C++rest))):=by simp [Lib.byteCells]
      rw [e3,e4,this]
     rw [e2]
    ·simpa using hsz
    ·intro q hq
     rw [drew_heap,heap_setCell_other _ _ _ _ hq,heap_setCell_other _ _ _ _ hq]
     exact HO.out q hq
  ·have hI:decide ((A.length:Int)<(A.length:Int)+(M.length:Int) - 1)=false:=decide_eq_false (by omega)
   have hr:M.reverse=M:=by
    match M,hlt with
    | [],_=>rfl
    | [x],_=>rfl
    | x :: y :: l,h=>exact absurd h (by simp)
   have HR:Hid (A++M++C=l.reverse):=Lib.hid (by rw [hl];simp [hr])
   have HH:=Lib.hid hh
   clear hl hh hr
   go_wp2
   go_end0
   exact ⟨rfl,by rw [← HR.out];exact HH.out,hsz,hoth,hbl⟩
end Go.Proofs.YtbodlpoomfefcaaGreatDoor
