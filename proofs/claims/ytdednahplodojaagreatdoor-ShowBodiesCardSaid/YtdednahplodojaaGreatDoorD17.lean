/- Walks and plain laws: ProgPE, ProgMem, ZMem, ZedW3, BytesRev. -/
import Derived.Test.YtdednahplodojaaGreatDoorD16
import Derived.Laws.BitsAllLaws
import Derived.Lib.UnsafeStr
import Derived.Shelf.RegionOpen
set_option maxHeartbeats 16000000
set_option maxRecDepth 100000
set_option linter.unusedVariables false
set_option linter.unusedSimpArgs false
namespace Go.Proofs.YtdednahplodojaaGreatDoor
structure FF where
 name:List UInt8
 base:Nat
 clause:List PE
 at_:Nat
 bare:Int
structure DD where
 pub:Bool
 params:List FF
 res:FF
 body:PE
structure PP where
 imports:List (List UInt8 × Nat)
 defs:List DD
def TyS.ff (toks:List Tok)(u:Nat)(name:List UInt8)(at_:Nat)(t:TyS):FF where
 name:=name
 base:=if textAt toks (u+1)=tBool then 2 else 1
 clause:=match t.cl with|none=>[]|some e=>[e.pe toks (u+3)]
 at_:=at_
 bare:=match t.cl with|none=>((placeAt toks (u+1)+(textAt toks (u+1)).length:Nat):Int)|some _=>-1
def TyS.parFF (toks:List Tok)(u:Nat)(t:TyS):FF:=t.ff toks (u+1) (textAt toks u) (placeAt toks u)
def parsFF (toks:List Tok)(u:Nat):List TyS→List FF
 | []=>[]
 | t :: l=>t.parFF toks u :: parsFF toks (u+t.par.lv+1) l
def DfS.dd (toks:List Tok)(u:Nat)(d:DfS):DD where
 pub:=d.pub
 params:=parsFF toks (d.at1 u+3) d.pars
 res:=d.ty.ff toks (d.at2 u) (textAt toks (d.at1 u+1)) (placeAt toks (d.at1 u+1))
 body:=d.body.pe toks (d.at3 u)
def defsDD (toks:List Tok)(u:Nat):List DfS→List DD
 | []=>[]
 | d :: l=>d.dd toks u :: defsDD toks (u+d.pt.lv) l
def impsPP (toks:List Tok)(u:Nat):Nat→List (List UInt8 × Nat)
 | 0=>[]
 | n+1=>(textAt toks (u+1),placeAt toks (u+1)) :: impsPP toks (u+3) n
def PgS.pp (toks:List Tok)(p:PgS):PP:=⟨impsPP toks 0 p.imps,defsDD toks (3 * p.imps) p.defs⟩
def clDump:List PE→List UInt8
 | []=>[]
 | e :: l=>e.dump++clDump l
def clDumpT:List PE→List UInt8
 | []=>[]
 | e :: l=>e.dumpT++clDumpT l
def FF.tdump (f:FF):List UInt8:=[58]++decF f.base++clDump f.clause
def FF.tdumpT (f:FF):List UInt8:=[58]++decF f.base++clDumpT f.clause
def parsDump:List FF→List UInt8
 | []=>[]
 | f :: l=>[32]++f.name++f.tdump++parsDump l
def parsDumpT:List FF→List UInt8
 | []=>[]
 | f :: l=>[32]++f.name++f.tdumpT++parsDumpT l
def DD.dump (d:DD):List UInt8:=(if d.pub=true then [112,117,98,32] else [])++d.res.name++parsDump d.params++([32]++d.res.tdump++[32,61,32]++d.body.dump++[10])
def DD.dumpT (d:DD):List UInt8:=(if d.pub=true then [112,117,98,32] else [])++d.res.name++parsDumpT d.params++([32]++d.res.tdumpT++[32,61,32]++d.body.dumpT++[10])
def defsDump:List DD→List UInt8
 | []=>[]
 | d :: l=>d.dump++defsDump l
def defsDumpT:List DD→List UInt8
 | []=>[]
 | d :: l=>d.dumpT++defsDumpT l
def impsDump:List (List UInt8 × Nat)→List UInt8
 | []=>[]
 | m :: l=>[105,109,112,111,114,116,32]++m.1++[10]++impsDump l
def PP.dump (p:PP):List UInt8:=impsDump p.imports++defsDump p.defs
def PP.dumpT (p:PP):List UInt8:=impsDump p.imports++defsDumpT p.defs
def FF.erase (f:FF):FF:={ f with clause:=[] }
def DD.erase (d:DD):DD:={ d with params:=d.params.map FF.erase,res:=d.res.erase }
def PP.erase (p:PP):PP:={ p with defs:=p.defs.map DD.erase }
def FF.bares (f:FF):List Int:=if 0≤f.bare then [f.bare] else []
def DD.bares (d:DD):List Int:=d.params.flatMap FF.bares++d.res.bares
def PP.bares (p:PP):List Int:=p.defs.flatMap DD.bares
def FF.all (P:PE→Prop)(f:FF):Prop:=∀ e∈f.clause,P e
def DD.all (P:PE→Prop)(d:DD):Prop:=(∀ f∈d.params,f.all P)∧d.res.all P∧P d.body
def PP.all (P:PE→Prop)(p:PP):Prop:=∀ d∈p.defs,d.all P
theorem clDump_told:∀ {l:List PE},(∀ e∈l,e.told)→clDumpT l=clDump l
 | [],_=>rfl
 | e :: l,h=>by
  rw [clDumpT,clDump,PE.dump_told (h e List.mem_cons_self),clDump_told fun x hx=>h x (List.mem_cons_of_mem _ hx)]
theorem FF.dump_told {f:FF}(h:f.all PE.told):f.tdumpT=f.tdump:=by rw [FF.tdumpT,FF.tdump,clDump_told h]
theorem parsDump_told:∀ {l:List FF},(∀ f∈l,f.all PE.told)→parsDumpT l=parsDump l
 | [],_=>rfl
 | f :: l,h=>by
  rw [parsDumpT,parsDump,FF.dump_told (h f List.mem_cons_self),parsDump_told fun x hx=>h x (List.mem_cons_of_mem _ hx)]
theorem DD.dump_told {d:DD}(h:d.all PE.told):d.dumpT=d.dump:=by
 rw [DD.dumpT,DD.dump,parsDump_told h.1,FF.dump_told h.2.1,PE.dump_told h.2.2]
theorem defsDump_told:∀ {l:List DD},(∀ d∈l,d.all PE.told)→defsDumpT l=defsDump l
 | [],_=>rfl
 | d :: l,h=>by
  rw [defsDumpT,defsDump,DD.dump_told (h d List.mem_cons_self),defsDump_told fun x hx=>h x (List.mem_cons_of_mem _ hx)]
theorem PP.dump_told {p:PP}(h:p.all PE.told):p.dumpT=p.dump:=by rw [PP.dumpT,PP.dump,defsDump_told h]
theorem FF.all_erase {P:PE→Prop}(f:FF):f.erase.all P:=fun e he=>by cases he
theorem DD.all_erase {P:PE→Prop}{d:DD}(h:P d.body):d.erase.all P:=by
 refine ⟨fun f hf=>?_,FF.all_erase _,h⟩
 obtain ⟨g,_,rfl⟩:=List.mem_map.1 hf
 exact FF.all_erase g
theorem PP.all_erase {P:PE→Prop}{p:PP}(h:p.all P):p.erase.all P:=fun d hd=>by
 obtain ⟨c,hc,rfl⟩:=List.mem_map.1 hd
 exact DD.all_erase (h c hc).2.2
theorem nd_sep:∀ l:List PT,ndL l≤ndL (sepPT l)
 | []=>by rw [sepPT];exact Nat.le_refl _
 | [t]=>by rw [sepPT_one];exact Nat.le_refl _
 | t :: s :: l=>by
  have:=nd_sep (s :: l)
  have h2:ndL (t :: .leaf :: sepPT (s :: l))=t.nd+(1+ndL (sepPT (s :: l))):=by rw [ndL,ndL,PT.nd]
  rw [sepPT_two,h2,ndL]
  omega
theorem DfS.nd_parts (d:DfS):ndL (d.pars.map TyS.par)≤d.pt.nd∧ndL d.ty.pts≤d.pt.nd∧d.body.pt.nd≤d.pt.nd:=by
 have:=nd_sep (d.pars.map TyS.par)
 rw [DfS.pt,PT.nd,DfS.kids]
 simp only [ndL_append,ndL]
 omega
theorem PgS.nd_defs (p:PgS):ndL (p.defs.map DfS.pt)≤p.pt.nd:=by
 rw [PgS.pt,PT.nd,PgS.kids]
 simp only [ndL_append,ndL]
 omega
def PeN (toks:List Tok)(N:Nat)(P:PE→Prop):Prop:=∀ (cl:Bool) (e:CE) (u:Nat),e.ok toks cl u→e.pt.nd≤N→P (e.pe toks u)
theorem TyS.all_ff {toks:List Tok}{N:Nat}{P:PE→Prop}(h:PeN toks N P){t:TyS}{u:Nat}{name:List UInt8}{a:Nat}(ho:t.ok toks u)(hn:ndL t.pts≤N):(t.ff toks u name a).all P:=by
 intro x hx
 obtain ⟨_,ho⟩:=ho
 unfold TyS.ff at hx
 unfold TyS.pts at hn
 cases hc:t.cl with
 | none=>rw [hc] at hx;cases hx
 | some e =>
  rw [hc] at hx ho hn
  simp only [List.mem_singleton] at hx
  subst hx
  simp only [ndL,PT.nd,List.cons_append,List.nil_append] at hn
  exact h true e _ ho (by omega)
theorem TyS.nd_par (t:TyS):ndL t.pts≤t.par.nd:=by
 have:t.par.nd=ndL (.leaf :: t.pts)+1:=by rw [TyS.par,PT.nd]
 rw [ndL] at this
 omega
theorem pars_all {toks:List Tok}{N:Nat}{P:PE→Prop}(h:PeN toks N P):∀ (l:List TyS) (u:Nat),parsOk toks u l→ndL (l.map TyS.par)≤N→∀ f∈parsFF toks u l,f.all P
 | [],_,_,_,f,hf=>by cases hf
 | t :: l,u,ho,hn,f,hf=>by
  have:=t.nd_par
  rw [List.map_cons,ndL] at hn
  rw [parsFF,List.mem_cons] at hf
  rcases hf with rfl|hf
  ·exact TyS.all_ff h ho.1.2 (by omega)
  ·exact pars_all h l _ ho.2 (by omega) f hf
theorem DfS.all_dd {toks:List Tok}{N:Nat}{P:PE→Prop}(h:PeN toks N P){d:DfS}{u:Nat}(ho:d.ok toks u)(hn:d.pt.nd≤N):(d.dd toks u).all P:=by
 obtain ⟨_,_,_,_,h5,h6,h7⟩:=ho
 obtain ⟨n1,n2,n3⟩:=d.nd_parts
 exact ⟨pars_all h _ _ h5 (by omega),TyS.all_ff h h6 (by omega),h _ _ _ h7 (by omega)⟩
theorem defs_all {toks:List Tok}{N:Nat}{P:PE→Prop}(h:PeN toks N P):∀ (l:List DfS) (u:Nat),defsOk toks u l→ndL (l.map DfS.pt)≤N→∀ d∈defsDD toks u l,d.all P
 | [],_,_,_,d,hd=>by cases hd
 | x :: l,u,ho,hn,d,hd=>by
  rw [List.map_cons,ndL] at hn
  rw [defsDD,List.mem_cons] at hd
  rcases hd with rfl|hd
  ·exact DfS.all_dd h ho.1 (by omega)
  ·exact defs_all h l _ ho.2 (by omega) d hd
theorem PgS.all_pp {toks:List Tok}{P:PE→Prop}{p:PgS}(h:PeN toks p.pt.nd P)(ho:p.ok toks):(p.pp toks).all P:=defs_all h _ _ ho.2.2.2 p.nd_defs
theorem parsFF_len (toks:List Tok):∀ (l:List TyS) (u:Nat),(parsFF toks u l).length=l.length
 | [],_=>rfl
 | t :: l,u=>by rw [parsFF,List.length_cons,List.length_cons,parsFF_len toks l]
theorem defsDD_len (toks:List Tok):∀ (l:List DfS) (u:Nat),(defsDD toks u l).length=l.length
 | [],_=>rfl
 | t :: l,u=>by rw [defsDD,List.length_cons,List.length_cons,defsDD_len toks l]
theorem impsPP_len (toks:List Tok):∀ (n u:Nat),(impsPP toks u n).length=n
 | 0,_=>rfl
 | n+1,u=>by rw [impsPP,List.length_cons,impsPP_len toks n]
structure FF.small (M:Nat) (f:FF):Prop where
 name:f.name.length≤M
 base:f.base=1∨f.base=2
 clause:f.clause.length≤1
structure DD.small (M:Nat) (d:DD):Prop where
 params:∀ f∈d.params,f.small M
 few:d.params.length≤8
 res:d.res.small M
structure PP.small (M:Nat) (p:PP):Prop where
 imports:∀ m∈p.imports,m.1.length≤M
 ifew:p.imports.length≤16
 defs:∀ d∈p.defs,d.small M
 dfew:p.defs.length≤64
theorem FF.small.erase {M:Nat}{f:FF}(h:f.small M):f.erase.small M:=⟨h.name,h.base,Nat.zero_le _⟩
theorem DD.small.erase {M:Nat}{d:DD}(h:d.small M):d.erase.small M:=by
 refine ⟨fun f hf=>?_,by simpa [DD.erase] using h.few,h.res.erase⟩
 obtain ⟨g,hg,rfl⟩:=List.mem_map.1 hf
 exact (h.params g hg).erase
theorem PP.small.erase {M:Nat}{p:PP}(h:p.small M):p.erase.small M:=by
 refine ⟨h.imports,h.ifew,fun d hd=>?_,by simpa [PP.erase] using h.dfew⟩
 obtain ⟨c,hc,rfl⟩:=List.mem_map.1 hd
 exact (h.defs c hc).erase
theorem TyS.ff_small {toks:List Tok}{M:Nat}(hM:∀ u,(textAt toks u).length≤M)(t:TyS)(u v a:Nat):(t.ff toks u (textAt toks v) a).small M:=by
 refine ⟨hM v,?_,?_⟩
 ·show (if _ then _ else _)=1∨_
  split
  ·right;show (if _ then _ else _)=2;rw [if_pos (by assumption)]
  ·left;rfl
 ·unfold TyS.ff
  cases t.cl <;> simp
theorem pars_small {toks:List Tok}{M:Nat}(hM:∀ u,(textAt toks u).length≤M):∀ (l:List TyS) (u:Nat),∀ f∈parsFF toks u l,f.small M
 | [],_,f,hf=>by cases hf
 | t :: l,u,f,hf=>by
  rw [parsFF,List.mem_cons] at hf
  rcases hf with rfl|hf
  ·exact TyS.ff_small hM _ _ _ _
  ·exact pars_small hM l _ f hf
theorem DfS.dd_small {toks:List Tok}{M:Nat}(hM:∀ u,(textAt toks u).length≤M){d:DfS}{u:Nat}(ho:d.ok toks u):(d.dd toks u).small M :=
 ⟨pars_small hM _ _,by show (parsFF _ _ _).length≤8;rw [parsFF_len];exact ho.2.2.2.1,TyS.ff_small hM _ _ _ _⟩
theorem defs_small {toks:List Tok}{M:Nat}(hM:∀ u,(textAt toks u).length≤M):∀ (l:List DfS) (u:Nat),defsOk toks u l→∀ d∈defsDD toks u l,d.small M
 | [],_,_,d,hd=>by cases hd
 | x :: l,u,ho,d,hd=>by
  rw [defsDD,List.mem_cons] at hd
  rcases hd with rfl|hd
  ·exact DfS.dd_small hM ho.1
  ·exact defs_small hM l _ ho.2 d hd
theorem imps_small {toks:List Tok}{M:Nat}(hM:∀ u,(textAt toks u).length≤M):∀ (n u:Nat),∀ m∈impsPP toks u n,m.1.length≤M
 | 0,_,m,hm=>by cases hm
 | n+1,u,m,hm=>by
  rw [impsPP,List.mem_cons] at hm
  rcases hm with rfl|hm
  ·exact hM _
  ·exact imps_small hM n _ m hm
theorem PgS.pp_small {toks:List Tok}{M:Nat}{p:PgS}(hM:∀ u,(textAt toks u).length≤M)(ho:p.ok toks):(p.pp toks).small M :=
 ⟨imps_small hM _ _,by show (impsPP _ _ _).length≤16;rw [impsPP_len];exact ho.1,defs_small hM _ _ ho.2.2.2,by show (defsDD _ _ _).length≤64;rw [defsDD_len];exact ho.2.1⟩
theorem clDump_len {K:Nat}:∀ {l:List PE},(∀ e∈l,e.dump.length≤K)→(clDump l).length≤l.length * K
 | [],_=>by simp [clDump]
 | e :: l,h=>by
  have h1:=h e List.mem_cons_self
  have h2:=clDump_len (l:=l) fun x hx=>h x (List.mem_cons_of_mem _ hx)
  rw [clDump,List.length_append,List.length_cons,Nat.succ_mul]
  omega
def dumpK (K:Nat)(e:PE):Prop:=e.dump.length≤K
theorem FF.tdump_len {M K:Nat}{f:FF}(h:f.small M)(hk:f.all (dumpK K)):f.tdump.length≤K+3:=by
 have h1:=clDump_len (K:=K) hk
 have h2:f.clause.length * K≤1 * K:=Nat.mul_le_mul_right _ h.clause
 have h3:=dec_two (n:=f.base) (by rcases h.base with q|q <;> omega)
 rw [FF.tdump]
 simp only [List.length_append,List.length_cons,List.length_nil]
 omega
theorem parsDump_len {M K:Nat}:∀ {l:List FF},(∀ f∈l,f.small M)→(∀ f∈l,f.all (dumpK K))→(parsDump l).length≤l.length * (M+K+4)
 | [],_,_=>by simp [parsDump]
 | f :: l,h,hk=>by
  have h0:=h f List.mem_cons_self
  have h1:=FF.tdump_len h0 (hk f List.mem_cons_self)
  have h2:=parsDump_len (l:=l) (fun x hx=>h x (List.mem_cons_of_mem _ hx)) (fun x hx=>hk x (List.mem_cons_of_mem _ hx))
  have h3:=h0.name
  rw [parsDump,List.length_cons,Nat.succ_mul]
  simp only [List.length_append,List.length_cons,List.length_nil]
  omega
theorem DD.dump_len {M K:Nat}{d:DD}(h:d.small M)(hk:d.all (dumpK K)):d.dump.length≤10 * (M+K+4)+20:=by
 have h1:=parsDump_len h.params hk.1
 have h2:d.params.length * (M+K+4)≤8 * (M+K+4):=Nat.mul_le_mul_right _ h.few
 have h3:=FF.tdump_len h.res hk.2.1
 have h4:d.body.dump.length≤K:=hk.2.2
 have h5:=h.res.name
 rw [DD.dump]
 simp only [List.length_append,List.length_cons,List.length_nil]
 split <;> simp only [List.length_cons,List.length_nil] <;> omega
theorem defsDump_len {M K:Nat}:∀ {l:List DD},(∀ d∈l,d.small M)→(∀ d∈l,d.all (dumpK K))→(defsDump l).length≤l.length * (10 * (M+K+4)+20)
 | [],_,_=>by simp [defsDump]
 | d :: l,h,hk=>by
  have h1:=DD.dump_len (h d List.mem_cons_self) (hk d List.mem_cons_self)
  have h2:=defsDump_len (l:=l) (fun x hx=>h x (List.mem_cons_of_mem _ hx)) (fun x hx=>hk x (List.mem_cons_of_mem _ hx))
  rw [defsDump,List.length_append,List.length_cons,Nat.succ_mul]
  omega
theorem impsDump_len {M:Nat}:∀ {l:List (List UInt8 × Nat)},(∀ m∈l,m.1.length≤M)→(impsDump l).length≤l.length * (M+8)
 | [],_=>by simp [impsDump]
 | m :: l,h=>by
  have h1:=h m List.mem_cons_self
  have h2:=impsDump_len (l:=l) fun x hx=>h x (List.mem_cons_of_mem _ hx)
  rw [impsDump,List.length_cons,Nat.succ_mul]
  simp only [List.length_append,List.length_cons,List.length_nil]
  omega
theorem PP.dump_len {M K:Nat}{p:PP}(h:p.small M)(hk:p.all (dumpK K)):p.dump.length≤16 * (M+8)+64 * (10 * (M+K+4)+20):=by
 have h1:=impsDump_len h.imports
 have h2:p.imports.length * (M+8)≤16 * (M+8):=Nat.mul_le_mul_right _ h.ifew
 have h3:=defsDump_len h.defs hk
 have h4:p.defs.length * (10 * (M+K+4)+20)≤64 * (10 * (M+K+4)+20):=Nat.mul_le_mul_right _ h.dfew
 rw [PP.dump,List.length_append]
 omega
end Go.Proofs.YtdednahplodojaaGreatDoor

namespace Go.Proofs.YtdednahplodojaaGreatDoor
open Go.RowKit
structure RK (α β:Type) where
 sz:Nat
 cells:α→β→List Value
 inn:(Nat→Prop)→World→α→β→Prop
 len:∀ a b,(cells a b).length=sz
 frame:∀ {P:Nat→Prop} {w w':World} {a:α} {b:β},inn P w a b→Alk P w w'→inn P w' a b
 imp:∀ {P Q:Nat→Prop} {w:World} {a:α} {b:β},inn P w a b→(∀ k,P k→k<w.heap.size→Q k)→inn Q w a b
section
variable {α β:Type}
def RK.flat (K:RK α β)(l:List (α × β)):List Value:=l.flatMap fun p=>K.cells p.1 p.2
theorem RK.flat_len (K:RK α β):∀ l:List (α × β),(K.flat l).length=l.length * K.sz
 | []=>by simp [RK.flat]
 | p :: l=>by
  have:=RK.flat_len K l
  unfold RK.flat at this ⊢
  rw [List.flatMap_cons,List.length_append,K.len,this,List.length_cons,Nat.succ_mul,Nat.add_comm]
theorem RK.flat_snoc (K:RK α β)(l:List (α × β))(p:α × β):K.flat (l++[p])=K.flat l++K.cells p.1 p.2:=by
 unfold RK.flat
 rw [List.flatMap_append,List.flatMap_singleton]
theorem RK.flat_at (K:RK α β):∀ (l:List (α × β)) (i j:Nat) (h:i<l.length),j<K.sz→(K.flat l)[i * K.sz+j]?=(K.cells l[i].1 l[i].2)[j]?
 | [],i,j,h,_=>absurd h (by simp)
 | p :: l,0,j,_,hj=>by
  unfold RK.flat
  rw [List.flatMap_cons,List.getElem?_append_left (by rw [K.len];omega)]
  simp
 | p :: l,i+1,j,h,hj=>by
  have:=RK.flat_at K l i j (by simpa using h) hj
  unfold RK.flat at this ⊢
  rw [List.flatMap_cons,List.getElem?_append_right (by rw [K.len,Nat.succ_mul];omega),K.len,show (i+1) * K.sz+j - K.sz=i * K.sz+j by rw [Nat.succ_mul];omega,this]
  simp
def RowK (K:RK α β)(P:Nat→Prop)(w:World)(v:Value)(zs:List α):Prop :=
 ∃ l:List (α × β),l.map Prod.fst=zs∧SlP P w v K.sz zs.length (K.flat l)∧∀ p∈l,K.inn P w p.1 p.2
theorem RowK.frame {K:RK α β}{P:Nat→Prop}{w w':World}{v:Value}{zs:List α}(h:RowK K P w v zs)(ha:Alk P w w'):RowK K P w' v zs:=by
 obtain ⟨l,h1,h2,h3⟩:=h
 exact ⟨l,h1,h2.frame ha,fun p hp=>K.frame (h3 p hp) ha⟩
theorem RowK.imp {K:RK α β}{P Q:Nat→Prop}{w:World}{v:Value}{zs:List α}(h:RowK K P w v zs)(hq:∀ b,P b→b<w.heap.size→Q b):RowK K Q w v zs:=by
 obtain ⟨l,h1,h2,h3⟩:=h
 exact ⟨l,h1,h2.imp hq,fun p hp=>K.imp (h3 p hp) hq⟩
theorem RowK.nil (K:RK α β)(P:Nat→Prop)(w:World):RowK K P w (.slice none 0 0) []:=⟨[],rfl,SlP.nil P w K.sz,fun p hp=>by cases hp⟩
theorem RowK.slice {K:RK α β}{P:Nat→Prop}{w:World}{v:Value}{zs:List α}(h:RowK K P w v zs):∃ ao cap,v=.slice ao zs.length cap:=by
 obtain ⟨l,h1,h2,h3⟩:=h
 exact h2.form
theorem RowK.form {K:RK α β}{P:Nat→Prop}{w:World}{v:Value}{zs:List α}(h:RowK K P w v zs):∃ ao cap,v=.slice ao zs.length cap∧zs.length≤cap ∧
  (0<zs.length→∃ b off,ao=some ⟨b,off,none⟩∧P b∧b<w.heap.size∧∀ i,(hi:i<zs.length)→∃ x,K.inn P w zs[i] x∧∀ j u,(K.cells zs[i] x)[j]?=some u→w.cell? ⟨b,off+i * K.sz+j,none⟩=some u):=by
 obtain ⟨l,rfl,⟨ao,cap,hv,hn,hl,hc⟩,h3⟩:=h
 refine ⟨ao,cap,hv,hn,fun h0=>?_⟩
 obtain ⟨b,off,ha,hP,hlt,hcell⟩:=hc h0
 refine ⟨b,off,ha,hP,hlt,fun i hi=>?_⟩
 rw [List.length_map] at hi
 rw [List.getElem_map]
 refine ⟨_,h3 _ (List.getElem_mem hi),fun j u hu=>?_⟩
 have hj:j<K.sz:=by
  rcases Nat.lt_or_ge j K.sz with h'|h'
  ·exact h'
  ·rw [List.getElem?_eq_none (by rw [K.len];exact h')] at hu;cases hu
 have hu':=(K.flat_at l i j hi hj).trans hu
 obtain ⟨h',e⟩:=List.getElem?_eq_some_iff.1 hu'
 have:=hcell (i * K.sz+j) h'
 rw [e] at this
 rw [Nat.add_assoc]
 exact this
def OwnK (K:RK α β)(C e:Nat)(w:World)(v:Value)(zs:List α):Prop :=
 ∃ l:List (α × β),l.map Prod.fst=zs∧w.ownsRow C e K.sz v zs.length (K.flat l)∧∀ p∈l,K.inn (fun b=>C≤b∧some b≠v.ownBlock) w p.1 p.2
theorem OwnK.nil (K:RK α β)(C e:Nat)(w:World):OwnK K C e w (.slice none 0 0) []:=⟨[],rfl,World.ownsRow_nil _ _ _ _,fun p hp=>by cases hp⟩
theorem OwnK.below {K:RK α β}{C e:Nat}{w w':World}{v:Value}{zs:List α}(h:OwnK K C e w v zs)(hb:Below w.heap.size w w'):OwnK K C e w' v zs:=by
 obtain ⟨l,h1,h2,h3⟩:=h
 exact ⟨l,h1,own_below h2 hb,fun p hp=>K.frame (h3 p hp) (Alk.of hb)⟩
theorem OwnK.set {K:RK α β}{C e:Nat}{w:World}{v:Value}{zs:List α}(h:OwnK K C e w v zs){a:Addr}(ha:a.block<C)(u:Value):OwnK K C e (w.setCell a u) v zs:=by
 obtain ⟨l,h1,h2,h3⟩:=h
 refine ⟨l,h1,own_set h2 (fun q=>?_) u,fun p hp=>K.frame (h3 p hp) (Alk.set u fun b hb=>by have:=hb.1;omega)⟩
 have:=(h2.lt a.block q.symm).1
 omega
theorem OwnK.drew {K:RK α β}{C e:Nat}{w:World}{v:Value}{zs:List α}(h:OwnK K C e w v zs):OwnK K C e w.drew v zs:=h.below ((Below.refl _ _).drew)
theorem OwnK.row {K:RK α β}{C e:Nat}{w:World}{v:Value}{zs:List α}(h:OwnK K C e w v zs):RowK K (fun b=>C≤b) w v zs:=by
 obtain ⟨l,h1,h2,h3⟩:=h
 exact ⟨l,h1,SlP.ofOwns h2 fun b hb=>hb,fun p hp=>K.imp (h3 p hp) fun b hb _=>hb.1⟩
theorem OwnK.slice {K:RK α β}{C e:Nat}{w:World}{v:Value}{zs:List α}(h:OwnK K C e w v zs):∃ ao cap,v=.slice ao zs.length cap:=h.row.slice
theorem OwnK.snoc {K:RK α β}{C e:Nat}{w w':World}{kv kv':Value}{zs:List α}{a:α}{x:β}{g H:Nat}{l:List (α × β)}(h1:l.map Prod.fst=zs)(h2:∀ p∈l,K.inn (fun b=>C≤b∧some b≠kv.ownBlock) w p.1 p.2)(hx:K.inn (fun b=>C≤b∧some b≠kv.ownBlock) w a x)
  (hown:w'.ownsRow C e K.sz kv' (zs.length+1) (K.flat l++K.cells a x)) (hgrow:w.grownBy w' kv.ownBlock) (hv:kv'.ownBlock=some g) (hor:kv.ownBlock=some g∨g=H) (hH:w.heap.size≤H):OwnK K C e w' kv' (zs++[a]):=by
 have himp:∀ b,(C≤b∧some b≠kv.ownBlock)→b<w.heap.size→((C≤b∧some b≠kv'.ownBlock)∧some b≠kv.ownBlock):=fun b hb hlt=>by
  refine ⟨⟨hb.1,fun q=>?_⟩,hb.2⟩
  rw [hv] at q
  simp only [Option.some.injEq] at q
  rcases hor with h|h
  ·exact hb.2 (by rw [h,q])
  ·omega
 have hall:∀ {a:α} {x:β},K.inn (fun b=>C≤b∧some b≠kv.ownBlock) w a x→K.inn (fun b=>C≤b∧some b≠kv'.ownBlock) w' a x:=fun h =>
  K.imp (K.frame (K.imp h himp) (Alk.grown hgrow fun b hb=>hb.2)) fun b hb _=>hb.1
 refine ⟨l++[(a,x)],by rw [List.map_append,h1];rfl,?_,fun p hp=>?_⟩
 ·rw [K.flat_snoc,List.length_append,List.length_singleton];exact hown
 ·rcases List.mem_append.1 hp with hp|hp
  ·exact hall (h2 p hp)
  ·rw [List.mem_singleton] at hp
   subst hp
   exact hall hx
end
def EK (S:Shape):RK PE (Value × Value) where
 sz:=S.sz
 cells e p:=S.cells e p.1 p.2
 inn P w e p:=EAt S P w p.1 p.2 e
 len e p:=S.len e p.1 p.2
 frame h ha:=h.frame ha
 imp h hq:=h.imp hq
def FK (S:Shape):RK FF Value where
 sz:=5
 cells f cv:=[strV f.name,.int .i64 f.base,cv,.int .i64 f.at_,.int .i64 f.bare]
 inn P w f cv:=RowK (EK S) P w cv f.clause
 len _ _:=rfl
 frame h ha:=h.frame ha
 imp h hq:=h.imp hq
structure DV where
 pv:Value
 cv:Value
 m:Value
 k:Value
def DA:RK DD DV where
 sz:=15
 cells d x:=[.bool d.pub,strV d.res.name,x.pv,.int .i64 d.res.base,x.cv,.int .i64 d.body.op,strV d.body.name,strV d.body.module,.bool (decide (d.body.num<0)),x.m,.bool d.body.yes,x.k,.int .i64 d.body.at_,.int .i64 d.res.at_,.int .i64 d.res.bare]
 inn P w d x:=RowK (FK XA) P w x.pv d.params∧RowK (EK XA) P w x.cv d.res.clause∧EAt XA P w x.m x.k d.body
 len _ _:=rfl
 frame h ha:=⟨h.1.frame ha,h.2.1.frame ha,h.2.2.frame ha⟩
 imp h hq:=⟨h.1.imp hq,h.2.1.imp hq,h.2.2.imp hq⟩
def DR:RK DD DV where
 sz:=14
 cells d x:=[.bool d.pub,x.pv,strV d.res.name,.int .i64 d.res.base,x.cv,.int .i64 d.res.at_,.int .i64 d.res.bare,.int .i64 d.body.op,strV d.body.name,strV d.body.module,strV d.body.txt,.bool d.body.yes,x.k,.int .i64 d.body.at_]
 inn P w d x:=RowK (FK XR) P w x.pv d.params∧RowK (EK XR) P w x.cv d.res.clause∧EAt XR P w x.m x.k d.body
 len _ _:=rfl
 frame h ha:=⟨h.1.frame ha,h.2.1.frame ha,h.2.2.frame ha⟩
 imp h hq:=⟨h.1.imp hq,h.2.1.imp hq,h.2.2.imp hq⟩
def IA:RK (List UInt8 × Nat) Unit where
 sz:=2
 cells m _:=[strV m.1,.int .i64 m.2]
 inn _ _ _ _:=True
 len _ _:=rfl
 frame _ _:=trivial
 imp _ _:=trivial
def IR:RK (List UInt8 × Nat) Unit where
 sz:=1
 cells m _:=[strV m.1]
 inn _ _ _ _:=True
 len _ _:=rfl
 frame _ _:=trivial
 imp _ _:=trivial
def PAtA (P:Nat→Prop)(w:World)(iv dv:Value)(p:PP):Prop:=RowK IA P w iv p.imports∧RowK DA P w dv p.defs
def PAtR (P:Nat→Prop)(w:World)(iv dv:Value)(p:PP):Prop:=RowK IR P w iv p.imports∧RowK DR P w dv p.defs
theorem PAtA.frame {P:Nat→Prop}{w w':World}{iv dv:Value}{p:PP}(h:PAtA P w iv dv p)(ha:Alk P w w'):PAtA P w' iv dv p:=⟨h.1.frame ha,h.2.frame ha⟩
theorem PAtA.imp {P Q:Nat→Prop}{w:World}{iv dv:Value}{p:PP}(h:PAtA P w iv dv p)(hq:∀ b,P b→b<w.heap.size→Q b):PAtA Q w iv dv p:=⟨h.1.imp hq,h.2.imp hq⟩
theorem PAtR.frame {P:Nat→Prop}{w w':World}{iv dv:Value}{p:PP}(h:PAtR P w iv dv p)(ha:Alk P w w'):PAtR P w' iv dv p:=⟨h.1.frame ha,h.2.frame ha⟩
theorem PAtR.imp {P Q:Nat→Prop}{w:World}{iv dv:Value}{p:PP}(h:PAtR P w iv dv p)(hq:∀ b,P b→b<w.heap.size→Q b):PAtR Q w iv dv p:=⟨h.1.imp hq,h.2.imp hq⟩
end Go.Proofs.YtdednahplodojaaGreatDoor

namespace Go.Proofs.YtdednahplodojaaGreatDoor
open Go.RowKit Go
structure ShapeZ where
 sz:Nat
 cells:PZ→Value→Value→List Value
 agg:PZ→Value→Value→Value
 num:(Nat→Prop)→World→Int→Value→Prop
 len:∀ e m k,(cells e m k).length=sz
 frame:∀ {P:Nat→Prop} {w w':World} {n:Int} {m:Value},num P w n m→Alk P w w'→num P w' n m
 imp:∀ {P Q:Nat→Prop} {w:World} {n:Int} {m:Value},num P w n m→(∀ b,P b→b<w.heap.size→Q b)→num Q w n m
def rowsZ (S:ShapeZ):List PZ→List (Value × Value)→List Value
 | e :: es,p :: l=>S.cells e p.1 p.2++rowsZ S es l
 | _,_=>[]
mutual
def ZAt (S:ShapeZ)(P:Nat→Prop)(w:World)(mag kv:Value):PZ→Prop
 | .mk _op _name _module num _yes kids _at_=>S.num P w num mag∧∃ l:List (Value × Value),SlP P w kv S.sz kids.length (rowsZ S kids l)∧ZAtL S P w l kids
def ZAtL (S:ShapeZ)(P:Nat→Prop)(w:World)(l:List (Value × Value)):List PZ→Prop
 | []=>l=[]
 | e :: es=>∃ p l',l=p :: l'∧ZAt S P w p.1 p.2 e∧ZAtL S P w l' es
end
mutual
theorem ZAt.frame {S:ShapeZ}{P:Nat→Prop}{w w':World}(ha:Alk P w w'):∀ {e:PZ} {m k:Value},ZAt S P w m k e→ZAt S P w' m k e
 | .mk op name module num yes kids at_,m,k,h=>by
  rw [ZAt] at h ⊢
  obtain ⟨h1,l,h2,h3⟩:=h
  exact ⟨S.frame h1 ha,l,h2.frame ha,ZAtL.frame ha h3⟩
theorem ZAtL.frame {S:ShapeZ}{P:Nat→Prop}{w w':World}(ha:Alk P w w'):∀ {es:List PZ} {l:List (Value × Value)},ZAtL S P w l es→ZAtL S P w' l es
 | [],l,h=>by rw [ZAtL] at h ⊢;exact h
 | e :: es,l,h=>by
  rw [ZAtL] at h ⊢
  obtain ⟨p,l',h1,h2,h3⟩:=h
  exact ⟨p,l',h1,ZAt.frame ha h2,ZAtL.frame ha h3⟩
end
mutual
theorem ZAt.imp {S:ShapeZ}{P Q:Nat→Prop}{w:World}(hq:∀ b,P b→b<w.heap.size→Q b):∀ {e:PZ} {m k:Value},ZAt S P w m k e→ZAt S Q w m k e
 | .mk op name module num yes kids at_,m,k,h=>by
  rw [ZAt] at h ⊢
  obtain ⟨h1,l,h2,h3⟩:=h
  exact ⟨S.imp h1 hq,l,h2.imp hq,ZAtL.imp hq h3⟩
theorem ZAtL.imp {S:ShapeZ}{P Q:Nat→Prop}{w:World}(hq:∀ b,P b→b<w.heap.size→Q b):∀ {es:List PZ} {l:List (Value × Value)},ZAtL S P w l es→ZAtL S Q w l es
 | [],l,h=>by rw [ZAtL] at h ⊢;exact h
 | e :: es,l,h=>by
  rw [ZAtL] at h ⊢
  obtain ⟨p,l',h1,h2,h3⟩:=h
  exact ⟨p,l',h1,ZAt.imp hq h2,ZAtL.imp hq h3⟩
end
theorem ZAtL.len {S:ShapeZ}{P:Nat→Prop}{w:World}:∀ {es:List PZ} {l:List (Value × Value)},ZAtL S P w l es→l.length=es.length
 | [],l,h=>by rw [ZAtL] at h;subst h;rfl
 | e :: es,l,h=>by
  rw [ZAtL] at h
  obtain ⟨p,l',rfl,_,h3⟩:=h
  simp [ZAtL.len h3]
theorem ZAtL.snoc {S:ShapeZ}{P:Nat→Prop}{w:World}:∀ {es:List PZ} {l:List (Value × Value)} {e:PZ} {m k:Value},ZAtL S P w l es→ZAt S P w m k e→ZAtL S P w (l++[(m,k)]) (es++[e])
 | [],l,e,m,k,h,h2=>by
  rw [ZAtL] at h
  subst h
  rw [List.nil_append,List.nil_append,ZAtL]
  exact ⟨(m,k),[],rfl,h2,by rw [ZAtL]⟩
 | x :: es,l,e,m,k,h,h2=>by
  rw [ZAtL] at h
  obtain ⟨p,l',rfl,h3,h4⟩:=h
  rw [List.cons_append,List.cons_append,ZAtL]
  exact ⟨p,_,rfl,h3,h4.snoc h2⟩
theorem rowsZ_at (S:ShapeZ):∀ (es:List PZ) (l:List (Value × Value)) (i j:Nat) (hl:l.length=es.length) (hi:i<es.length),j<S.sz→(rowsZ S es l)[i * S.sz+j]?=(S.cells es[i] (l[i]'(by omega)).1 (l[i]'(by omega)).2)[j]?
 | [],[],i,j,_,h,_=>absurd h (by simp)
 | x :: es,p :: l,0,j,_,_,hj=>by
  simp only [rowsZ,Nat.zero_mul,Nat.zero_add,List.getElem_cons_zero]
  rw [List.getElem?_append_left (by rw [S.len];exact hj)]
 | x :: es,p :: l,i+1,j,hl,hi,hj=>by
  simp only [rowsZ,List.getElem_cons_succ]
  rw [List.getElem?_append_right (by rw [S.len,Nat.succ_mul];omega),S.len,show (i+1) * S.sz+j - S.sz=i * S.sz+j by rw [Nat.succ_mul];omega]
  exact rowsZ_at S es l i j (by simpa using hl) (by simpa using hi) hj
 | [],_ :: _,_,_,h,_,_=>by simp at h
 | _ :: _,[],_,_,h,_,_=>by simp at h
theorem ZAtL.get {S:ShapeZ}{P:Nat→Prop}{w:World}:∀ {es:List PZ} {l:List (Value × Value)} (h:ZAtL S P w l es) (i:Nat) (hi:i<es.length),ZAt S P w (l[i]'(by rw [h.len];exact hi)).1 (l[i]'(by rw [h.len];exact hi)).2 es[i]
 | [],l,h,i,hi=>absurd hi (by simp)
 | e :: es,l,h,i,hi=>by
  have h':=h
  rw [ZAtL] at h'
  obtain ⟨p,l',rfl,h3,h4⟩:=h'
  cases i with
  | zero=>exact h3
  | succ i=>exact h4.get i (by simpa using hi)
theorem ZAt.form {S:ShapeZ}{P:Nat→Prop}{w:World}{e:PZ}{mag kv:Value}(h:ZAt S P w mag kv e):S.num P w e.num mag∧∃ ao cap,kv=.slice ao e.kids.length cap∧e.kids.length≤cap ∧
  (0<e.kids.length→∃ b off,ao=some ⟨b,off,none⟩∧P b∧b<w.heap.size∧∀ i,(hi:i<e.kids.length)→∃ m k,ZAt S P w m k e.kids[i]∧∀ j u,(S.cells e.kids[i] m k)[j]?=some u→w.cell? ⟨b,off+i * S.sz+j,none⟩=some u):=by
 cases e with
 | mk op name module num yes kids at_ =>
  rw [ZAt] at h
  obtain ⟨h1,l,⟨ao,cap,hv,hn,hl,hc⟩,h3⟩:=h
  refine ⟨h1,ao,cap,hv,hn,fun h0=>?_⟩
  obtain ⟨b,off,ha,hP,hlt,hcell⟩:=hc h0
  refine ⟨b,off,ha,hP,hlt,fun i hi=>?_⟩
  have hll:=h3.len
  refine ⟨_,_,h3.get i hi,fun j u hu=>?_⟩
  have hj:j<S.sz:=by
   rcases Nat.lt_or_ge j S.sz with h'|h'
   ·exact h'
   ·rw [List.getElem?_eq_none (by rw [S.len];exact h')] at hu;cases hu
  have hr:=rowsZ_at S kids l i j hll hi hj
  have hu':=hr.trans hu
  obtain ⟨h',e⟩:=List.getElem?_eq_some_iff.1 hu'
  have:=hcell (i * S.sz+j) h'
  rw [e] at this
  rw [Nat.add_assoc]
  exact this
def YA:ShapeZ where
 sz:=8
 cells e m k:=[.int .i64 e.op,strV e.name,strV e.module,.bool (decide (e.num<0)),m,.bool e.yes,k,.int .i64 e.at_]
 agg e m k:=.agg #[.int .i64 e.op,strV e.name,strV e.module,.bool (decide (e.num<0)),m,.bool e.yes,k,.int .i64 e.at_]
 num:=NumAt
 len _ _ _:=rfl
 frame h ha:=by obtain ⟨ws,h1,h2⟩:=h;exact ⟨ws,h1.frame ha,h2⟩
 imp h hq:=by obtain ⟨ws,h1,h2⟩:=h;exact ⟨ws,h1.imp hq,h2⟩
def YR:ShapeZ where
 sz:=7
 cells e _ k:=[.int .i64 e.op,strV e.name,strV e.module,strV (intF e.num),.bool e.yes,k,.int .i64 e.at_]
 agg e _ k:=.agg #[.int .i64 e.op,strV e.name,strV e.module,strV (intF e.num),.bool e.yes,k,.int .i64 e.at_]
 num _ _ _ _:=True
 len _ _ _:=rfl
 frame _ _:=trivial
 imp _ _:=trivial
def ZK (S:ShapeZ):RK PZ (Value × Value) where
 sz:=S.sz
 cells e p:=S.cells e p.1 p.2
 inn P w e p:=ZAt S P w p.1 p.2 e
 len e p:=S.len e p.1 p.2
 frame h ha:=h.frame ha
 imp h hq:=h.imp hq
theorem YA_cells (e:PE)(m k:Value):YA.cells e.z m k=XA.cells e m k:=by cases e;rfl
theorem rowsZ_of:∀ (es:List PE) (l:List (Value × Value)),rowsZ YA (zsE es) l=rowsE XA es l
 | [],_=>rfl
 | e :: es,[]=>rfl
 | e :: es,p :: l=>by rw [zsE,rowsZ,rowsE,YA_cells,rowsZ_of es l]
mutual
theorem ZAt.ofE {P:Nat→Prop}{w:World}:∀ {e:PE} {m k:Value},EAt XA P w m k e→ZAt YA P w m k e.z
 | .mk op nm md num txt yes kids at_,m,k,h=>by
  rw [EAt] at h
  obtain ⟨h1,l,h2,h3⟩:=h
  rw [PE.z,ZAt]
  refine ⟨h1,l,?_,ZAtL.ofE h3⟩
  rw [rowsZ_of,zsE_map,List.length_map]
  exact h2
theorem ZAtL.ofE {P:Nat→Prop}{w:World}:∀ {es:List PE} {l:List (Value × Value)},EAtL XA P w l es→ZAtL YA P w l (zsE es)
 | [],l,h=>by rw [EAtL] at h;rw [zsE,ZAtL];exact h
 | e :: es,l,h=>by
  rw [EAtL] at h
  obtain ⟨p,l',h1,h2,h3⟩:=h
  rw [zsE,ZAtL]
  exact ⟨p,l',h1,ZAt.ofE h2,ZAtL.ofE h3⟩
end
theorem or_words (r x:Nat)(hr:r<4294967296)(hx:x<4294967296):bits BinOp.or IntKind.u64 ((r:Int) * 4294967296) (x:Int)=(r:Int) * 4294967296+(x:Int):=by
 have e:((r:Int) * 4294967296)=((r * 4294967296:Nat):Int):=by omega
 have h:(r * 4294967296) ||| x=r * 4294967296+x:=by
  rw [show (4294967296:Nat)=2 ^ 32 from rfl,← Nat.shiftLeft_eq,Nat.shiftLeft_add_eq_or_of_lt (by omega)]
 rw [e,u64_or_nat _ _ (by omega) (by omega),h]
 omega
theorem set_last {α:Type}(z v:α)(k:Nat)(L:List α):(List.replicate (k+1) z++L).set k v=List.replicate k z++v :: L:=by
 rw [List.replicate_succ',List.append_assoc,List.set_append_right _ _ (by simp),List.length_replicate,Nat.sub_self]
 rfl
def ShortPost (b:Nat)(ws:List Nat)(w:World)(e:Ending)(w':World):Prop :=
 ∃ cap,e=.returned (.tuple #[.slice (some ⟨w.heap.size,0,none⟩) (trimW (shortF b ws).1).length cap,.int .u64 ((shortF b ws).2:Nat)])∧Wd (fun k=>w.heap.size≤k) w' (.slice (some ⟨w.heap.size,0,none⟩) (trimW (shortF b ws).1).length cap) (trimW (shortF b ws).1)∧Below w.heap.size w w'
theorem zshort_any (P:Nat→Prop)(ao:Option Addr)(cap:Nat)(ws:List Nat)(b:Nat)(w:World)(h:Wd P w (.slice ao ws.length cap) ws)(hw:∀ x∈ws,x<4294967296)(hb:0<b)(hb9:b≤1000000000)(hn:ws.length≤1000) :
  Calls Tryz.prog 130 #[.slice ao ws.length cap,.int .u64 b] w (ShortPost b ws w):=by
 obtain ⟨i0,hi,hz0,hz1,hz2⟩:=info_parts Tryz.infoU32
 obtain ⟨ao',cap',hv,hc1,hf⟩:=h.form
 simp only [Value.slice.injEq] at hv
 obtain ⟨rfl,-,rfl⟩:=hv
 have HF:=Lib.hid hf
 have HW:=Lib.hid hw
 have hmk:=run_make (P:=Tryz.prog) w 35 200 i0 (.int .u32 0) Tryz.underlying35 hi hz0 .i64 .i64 ws.length ws.length (by omega) (by omega) (by rw [hz2];omega) (by omega)
 rw [hz1] at hmk
 clear hf h hw
 go_enter Tryz.func130,Tryz.ntmps130
 go_wp2
 have hnew:=heap_alloc_new w (.cells (madeCells #[Value.int .u32 0] ws.length) 200)
 have hbw:=below_new w (.cells (madeCells #[Value.int .u32 0] ws.length) 200)
 clear hmk
 generalize w.alloc _=w2 at hnew hbw ⊢
 go_loopw [7,8] (fun rv q wr=>∃ (k:Nat) (i:Int) (cs:Array Value),k≤ws.length∧q=.int .i64 i∧i+1=(k:Int)∧rv=.int .u64 ((shortF b (ws.drop k)).2:Nat)∧wr.heap[w.heap.size]?=some (.cells cs 200 (0,0))∧cs.toList=List.replicate k (.int .u32 0)++(shortF b (ws.drop k)).1.map (fun d=>.int .u32 (d:Nat))∧Below w.heap.size w wr) (fun _ q _=>(intOf q+1).toNat)
 case atStart=>exact ⟨ws.length,_,_,Nat.le_refl _,rfl,by omega,by rw [List.drop_length];rfl,hnew,by rw [toList_madeCells_one,List.drop_length];simp [shortF],hbw⟩
 case round =>
  obtain ⟨k,i,cs,hk,rfl,hik,rfl,hcs,hcl,hbl⟩:=hrel
  have hz:=hbl.size
  cases k with
  | zero =>
   obtain rfl:i=-1:=by omega
   rw [List.drop_zero] at hcl ⊢
   rw [List.replicate_zero,List.nil_append] at hcl
   have hsl:=shortF_len b ws
   have hWd:Wd (fun k=>w.heap.size≤k) wr (.slice (some ⟨w.heap.size,0,none⟩) (shortF b ws).1.length ws.length) (shortF b ws).1:=by
    refine ⟨_,_,rfl,by rw [hsl];exact Nat.le_refl _,by simp,fun h0=>⟨w.heap.size,0,rfl,Nat.le_refl _,(Array.getElem?_eq_some_iff.1 hcs).1,fun j hj=>?_⟩⟩
    rw [Lib.cell_of_heap hcs,Nat.zero_add,← Array.getElem?_toList,hcl,List.getElem?_eq_getElem hj]
   have hT:=ztrim_any _ (some ⟨w.heap.size,0,none⟩) ws.length (shortF b ws).1 wr hWd (by omega)
   obtain ⟨n,n1,n2,_,_⟩:=trimW_take (shortF b ws).1
   have hln:(trimW (shortF b ws).1).length=n:=by rw [n2,List.length_take];omega
   have hW2:Wd (fun k=>w.heap.size≤k) wr (.slice (some ⟨w.heap.size,0,none⟩) (trimW (shortF b ws).1).length ws.length) (trimW (shortF b ws).1):=by
    rw [hln,n2]
    exact hWd.take n1
   rw [hsl] at hT
   have HT:=Lib.hid hT
   have HW2:=Lib.hid hW2
   clear hT hW2 hWd hsl hln n1 n2 hcl
   go_wp2_with (go_at_call 83;refine HT.out.mono ?_;rintro e w8 ⟨rfl,rfl⟩)
   go_ret2
   exact ⟨_,rfl,HW2.out,hbl⟩
  | succ k =>
   obtain rfl:i=(k:Int):=by omega
   obtain ⟨bk,off,rfl,_,hbk,hcell⟩:=HF.out (by omega)
   have hx:=(hbl.cell (p:=⟨bk,off+k,none⟩) hbk).trans (hcell k (by omega))
   have hxw:=HW.out ws[k] (List.getElem_mem (by omega))
   have hdr:ws.drop k=ws[k] :: ws.drop (k+1):=List.drop_eq_getElem_cons (by omega)
   have hr:=shortF_rest b hb (ws.drop (k+1))
   have hsh:shortF b (ws.drop k)=(((shortF b (ws.drop (k+1))).2 * 4294967296+ws[k]) / b :: (shortF b (ws.drop (k+1))).1,((shortF b (ws.drop (k+1))).2 * 4294967296+ws[k]) % b):=by rw [hdr,shortF]
   have HS:=Lib.hid hsh
   have HCL:=Lib.hid hcl
   generalize (shortF b (ws.drop (k+1))).2=r at hr HS ⊢
   generalize ws[k]=x at hx hxw HS
   have hkI:(k:Int)<(ws.length:Int):=by omega
   clear hcell hdr hsh hcl
   have hlt:=(Array.getElem?_eq_some_iff.1 hcs).1
   have hor:=or_words r x (by omega) hxw
   have hk0:cs.toList[k]?=some (.int .u32 0):=by
    rw [HCL.out,List.getElem?_append_left (by simp),List.getElem?_replicate,if_pos (by omega)]
   have o0:wr.cell? ⟨w.heap.size,k,none⟩=some (.int .u32 0):=by rw [Lib.cell_of_heap hcs,← Array.getElem?_toList];exact hk0
   have oz:∀ j,wr.frozen? ⟨w.heap.size,j,none⟩=false:=by intro j;simp [World.frozen?,hcs]
   clear hk0
   have hq:(r * 4294967296+x) / b<4294967296:=by
    rw [Nat.div_lt_iff_lt_mul hb]
    have:(r+1) * 4294967296≤b * 4294967296:=Nat.mul_le_mul_right _ hr
    rw [Nat.mul_comm 4294967296 b]
    omega
   have e1:((r:Int) * 4294967296+(x:Int)) % (b:Int)=(((r * 4294967296+x) % b:Nat):Int):=by
    rw [Int.natCast_emod]
    congr 1
   have e2:((r:Int) * 4294967296+(x:Int)) / (b:Int) % 4294967296=(((r * 4294967296+x) / b:Nat):Int):=by
    have e3:((r:Int) * 4294967296+(x:Int)) / (b:Int)=(((r * 4294967296+x) / b:Nat):Int):=by
     rw [Int.natCast_ediv]
     congr 1
    rw [e3]
    generalize (r * 4294967296+x) / b=qq at hq ⊢
    omega
   have E1:=Lib.hid e1
   have E2:=Lib.hid e2
   clear e1 e2
   go_wp2
   refine ⟨⟨k,(k:Int) - 1,_,by omega,rfl,by omega,by rw [HS.out];exact val_int E1.out,heap_setCell_same wr w.heap.size k _ _ _ hcs,?_,hbl.setCell (Nat.le_refl _) _⟩,by simp [intOf]⟩
   rw [Array.toList_setIfInBounds,HCL.out,set_last,HS.out,E2.out]
   rfl
def RevPost (bk:Nat)(l:List UInt8)(rest:List Value)(fr:Nat × Nat)(w:World)(e:Ending)(w':World):Prop :=
 e=.returned (.tuple #[])∧w'.heap[bk]?=some (.cells (Lib.byteCells l.reverse++rest).toArray 5 fr)∧w'.heap.size=w.heap.size∧(∀ q,q≠bk→w'.heap[q]?=w.heap[q]?)∧Below bk w w'
theorem drew_heap (w:World):w.drew.heap=w.heap:=rfl
theorem split_ends {α:Type}:∀ (M:List α),2≤M.length→∃ x N y,M=x :: (N++[y])
 | [],h=>absurd h (by simp)
 | [x],h=>absurd h (by simp)
 | x :: y :: l,_=>⟨x,(y :: l).dropLast,(y :: l).getLast (by simp),by rw [List.dropLast_concat_getLast]⟩
theorem swap_ends {α:Type}(A N C:List α)(x y:α):((A++(x :: (N++y :: C))).set A.length y).set (A.length+N.length+1) x=A++(y :: (N++x :: C)):=by
 rw [List.set_append_right _ _ (Nat.le_refl _),Nat.sub_self,List.set_cons_zero,List.set_append_right _ _ (by omega),show A.length+N.length+1 - A.length=N.length+1 by omega,List.set_cons_succ,List.set_append_right _ _ (Nat.le_refl _),Nat.sub_self,List.set_cons_zero]
theorem heap_set_fr (w:World)(b i:Nat)(cs:Array Value)(T:TypeId)(fr:Nat × Nat)(v:Value)(hb:w.heap[b]?=some (.cells cs T fr)) :
  (w.setCell ⟨b,i,none⟩ v).heap[b]?=some (.cells (cs.setIfInBounds i v) T fr):=by
 simp [World.setCell,Array.getElem?_modify,hb]
theorem byteRev_any (bk cap:Nat)(l:List UInt8)(rest:List Value)(fr:Nat × Nat)(w:World)(h:w.heap[bk]?=some (.cells (Lib.byteCells l++rest).toArray 5 fr))(hf:l.length≤fr.1)(hn:l.length≤1099511627776) :
  Calls Tryz.prog 132 #[.slice (some ⟨bk,0,none⟩) l.length cap] w (RevPost bk l rest fr w):=by
 go_enter Tryz.func132,Tryz.ntmps132
 go_wp2
 go_loopg [2,3] l.length (fun k s2 s3 wr=>∃ (A M C:List UInt8),s2=.int .i64 (A.length:Nat)∧s3=.int .i64 ((A.length:Int)+(M.length:Int) - 1)∧M.length≤k∧l=C.reverse++M++A.reverse ∧
  wr.heap[bk]?=some (.cells (Lib.byteCells (A++M++C)++rest).toArray 5 fr)∧wr.heap.size=w.heap.size∧(∀ q,q≠bk→wr.heap[q]?=w.heap[q]?)∧Below bk w wr)
 case atStart=>exact ⟨[],l,[],rfl,by simp,Nat.le_refl _,by simp,by simpa using h,rfl,fun _ _=>rfl,Below.refl _ _⟩
 case round =>
  obtain ⟨A,M,C,rfl,rfl,hk,hl,hh,hsz,hoth,hbl⟩:=hrel
  have hlen:l.length=C.length+M.length+A.length:=by rw [hl];simp;omega
  by_cases hlt:2≤M.length
  ·obtain ⟨x,N,y,rfl⟩:=split_ends M hlt
   have hI:(A.length:Int)<(A.length:Int)+((x :: (N++[y])).length:Int) - 1:=by simp only [List.length_cons] at hlt ⊢;omega
   have hj:(A.length:Int)+((x :: (N++[y])).length:Int) - 1=((A.length+N.length+1:Nat):Int):=by simp;omega
   simp only [List.length_cons,List.length_append,List.length_nil] at hlen hk
   rw [hj] at hI ⊢
   have e:A++(x :: (N++[y]))++C=A++(x :: (N++y :: C)):=by simp
   rw [e] at hh
   have ci:wr.cell? ⟨bk,A.length,none⟩=some (.int .u8 x.toNat):=by
    rw [Lib.cell_of_heap hh]
    simp [Lib.byteCells]
   have cj:wr.cell? ⟨bk,A.length+N.length+1,none⟩=some (.int .u8 y.toNat):=by
    rw [Lib.cell_of_heap hh,List.getElem?_toArray,Lib.byteCells,List.map_append,List.append_assoc,List.getElem?_append_right (by simp;omega)]
    simp only [List.length_map]
    rw [show A.length+N.length+1 - A.length=N.length+1 by omega,List.map_cons,List.cons_append,List.getElem?_cons_succ,List.map_append,List.append_assoc,List.getElem?_append_right (by simp)]
    simp
   have fi:wr.frozen? ⟨bk,A.length,none⟩=false:=by
    simp [World.frozen?,hh]
    omega
   have fj:wr.frozen? ⟨bk,A.length+N.length+1,none⟩=false:=by
    simp [World.frozen?,hh]
    omega
   have h1:=heap_set_fr wr bk A.length _ _ _ (.int .u8 y.toNat) hh
   have h2:=heap_set_fr _ bk (A.length+N.length+1) _ _ _ (.int .u8 x.toNat) h1
   have HL:=Lib.hid hl
   have HH:=Lib.hid hh
   have H2:=Lib.hid h2
   have HO:=Lib.hid hoth
   clear hj hl hh h1 h2 hoth e
   go_wp2_with fail
   go_region
   go_wp2
   go_roundg N.length
   case measure=>omega
   case rel =>
    refine ⟨A++[y],N,x :: C,by simp,by simp;omega,Nat.le_refl _,by rw [HL.out];simp,?_,?_,?_,((hbl.setCell (Nat.le_refl _) _).setCell (Nat.le_refl _) _).drew⟩
    ·rw [drew_heap,H2.out]
     have e2:((Lib.byteCells (A++x :: (N++y :: C))++rest).toArray.setIfInBounds A.length (.int .u8 y.toNat)).setIfInBounds (A.length+N.length+1) (.int .u8 x.toNat)=(Lib.byteCells (A++[y]++N++x :: C)++rest).toArray:=by
      have:=swap_ends (Lib.byteCells A) (Lib.byteCells N) (Lib.byteCells C++rest) (.int .u8 x.toNat) (.int .u8 y.toNat)
      simp only [Lib.byteCells_length] at this
      apply Array.toList_inj.1
      simp only [Array.toList_setIfInBounds]
      have e3:Lib.byteCells (A++x :: (N++y :: C))++rest=Lib.byteCells A++(.int .u8 x.toNat :: (Lib.byteCells N++.int .u8 y.toNat :: (Lib.byteCells C++rest))):=by simp [Lib.byteCells]
      have e4:Lib.byteCells (A++[y]++N++x :: C)++rest=Lib.byteCells A++(.int .u8 y.toNat :: (Lib.byteCells N++.int .u8 x.toNat :: (Lib.byteCells C++rest))):=by simp [Lib.byteCells]
      rw [e3,e4,this]
     rw [e2]
    ·simpa using hsz
    ·intro q hq
     rw [drew_heap,heap_setCell_other _ _ _ _ hq,heap_setCell_other _ _ _ _ hq]
     exact HO.out q hq
  ·have hI:decide ((A.length:Int)<(A.length:Int)+(M.length:Int) - 1)=false:=decide_eq_false (by omega)
   have hr:M.reverse=M:=by
    match M,hlt with
    | [],_=>rfl
    | [x],_=>rfl
    | x :: y :: l,h=>exact absurd h (by simp)
   have HR:Hid (A++M++C=l.reverse):=Lib.hid (by rw [hl];simp [hr])
   have HH:=Lib.hid hh
   clear hl hh hr
   go_wp2
   go_end0
   exact ⟨rfl,by rw [← HR.out];exact HH.out,hsz,hoth,hbl⟩
end Go.Proofs.YtdednahplodojaaGreatDoor
