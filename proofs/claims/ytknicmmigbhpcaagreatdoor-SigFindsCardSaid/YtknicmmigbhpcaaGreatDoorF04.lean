/- Walks and plain laws: Builder, LexWhole, RefLex1, RefLex2, RefLex3, RefLex4, RefLex5, RefLex6, ParsePlain, ParseLaws1, ParseTree. -/
import Derived.Test.YtknicmmigbhpcaaGreatDoorF03
set_option maxHeartbeats 16000000
set_option maxRecDepth 100000
set_option linter.unusedVariables false
set_option linter.unusedSimpArgs false
namespace Go.Proofs.YtknicmmigbhpcaaGreatDoor
open Go.RowKit
theorem sizeBuilder:(Tryz.prog.info? 153).map (·.size)=some 2:=by kernel_rfl
class Qo (T:TypeId):Prop where
 lies:liesAt Tryz.prog Tryz.prog.depth T (2 / Tryz.prog.cellsOf T) 0 153 1=true
 ne:T≠5
instance:Qo 153:=⟨by kernel_rfl,by decide⟩
instance:Qo 155:=⟨by kernel_rfl,by decide⟩
theorem Tryz.infoByte:(Tryz.prog.info? 5).map (fun i=>(i.zero,i.size,i.bytes))=some (some (.int .u8 0),1,1):=by kernel_rfl
theorem Bb (b:Nat)(w:World)(h0:w.cell? ⟨b,0,none⟩=some (.pointer (some ⟨b,0,none⟩))) :
  Calls Tryz.prog 130 #[.pointer (some ⟨b,0,none⟩)] w fun e w'=>e=.returned (.tuple #[])∧w'=w:=by
 obtain⟨j,hj,_⟩:=Option.map_eq_some_iff.1 sizeBuilder;go_enter Tryz.func130,Tryz.ntmps130;go_wp2;rw[Lib.run_neq_ptr_same w _ Tryz.underlying150 hj];go_wp2
 go_end0
 exact⟨rfl,rfl⟩
theorem Ak {T:TypeId}[hT:Qo T](b:Nat)(w:World)(h0:w.cell? ⟨b,0,none⟩=some (.pointer none))(hsh:w.shape? b=some (T,2))(hfz:w.frozen? ⟨b,0,none⟩=false) :
  Calls Tryz.prog 130 #[.pointer (some ⟨b,0,none⟩)] w fun e w'=>e=.returned (.tuple #[])∧w'=w.setCell ⟨b,0,none⟩ (.pointer (some ⟨b,0,none⟩)):=by
 obtain⟨j,hj,hjs⟩:=Option.map_eq_some_iff.1 sizeBuilder;go_enter Tryz.func130,Tryz.ntmps130;go_wp2;rw[Lib.run_to_unsafe w ⟨b,0,none⟩ Tryz.underlying150 Tryz.underlying277 hj (by rw[hjs];decide) hsh (Nat.zero_lt_succ 1)];simp only[Result.andThen];rw[Oper.upon_value];go_wp2;rw[run_callFunc_extern Tryz.func210 (by kernel_rfl) (by kernel_rfl) (by kernel_rfl) (e:=Extern.AbiNoEscape.same) (by kernel_rfl)];rw[Lib.run_noEscape];simp only[Result.andThen];rw[Oper.upon_value];go_wp2;rw[Lib.run_from_unsafe w ⟨b,0,none⟩ Tryz.underlying277 Tryz.underlying150 hj hsh hT.lies];simp only[Result.andThen];rw[Oper.upon_value];go_wp2
 go_end0
 exact⟨rfl,rfl⟩
theorem Ji {T:TypeId}[hT:Qo T](B b:Nat)(bs:List Value)(w:World)(h:Lib.IsBuilderF T 5 B b bs w) :
  Calls Tryz.prog 130 #[.pointer (some ⟨b,0,none⟩)] w fun e w'=>e=.returned (.tuple #[])∧(Lib.BuilderAtF T 5 B b (.pointer (some ⟨b,0,none⟩)) bs w'∧Below B w w'∧Lib.OthersKept 5 (some b) w w'):=by
 rcases h with h|h
 ·refine(Ak b w h.cell0 h.shape h.frozen0).mono ?_
  rintro e w' ⟨rfl,rfl⟩;exact⟨rfl,h.used _,(Below.refl B w).setCell (p:=⟨b,0,none⟩) h.1 _,(Lib.OthersKept.refl _ _ w).setCell ⟨b,0,none⟩ rfl _⟩
 ·refine(Bb b w h.cell0).mono ?_
  rintro e w' ⟨rfl,rfl⟩;exact⟨rfl,h,Below.refl B _,Lib.OthersKept.refl _ _ _⟩
theorem writeString {T:TypeId}[hT:Qo T](B b:Nat)(bs:List Value)(s:ByteArray)(w:World)(h:Lib.IsBuilderF T 5 B b bs w)(hlen:bs.length+s.size≤140737488355328)(hBw:B≤w.heap.size) :
  Calls Tryz.prog 79 #[.pointer (some ⟨b,0,none⟩),.string s] w fun e w'=>e=.returned (.tuple #[.int .i64 s.size,.nilIface])∧(Lib.IsBuilderF T 5 B b (bs++Lib.strCells s) w'∧Below B w w'∧Lib.OthersKept 5 (some b) w w'):=by
 obtain⟨i0,hi,hz0,hz1,hz2⟩:=info_parts Tryz.infoByte;go_enter Tryz.func79,Tryz.ntmps79;go_wp2_with (go_at_call 130;refine(Ji B b bs _ h).mono ?_);rintro e w1 ⟨rfl,h1,hb1,hk1⟩;obtain⟨hB,v,hbk,hown,hne⟩:=h1
 have c0:w1.cell? ⟨b,0,none⟩=some (.pointer (some ⟨b,0,none⟩)):=by rw[Lib.cell_of_heap hbk];rfl
 have c1:w1.cell? ⟨b,1,none⟩=some v:=by rw[Lib.cell_of_heap hbk];rfl
 go_wp2_with (at_builtin;refine Lib.wpList_append_own_stringF _ rfl _ _ 151 9 rfl B 5 i0 Tryz.underlying151 Tryz.underlying9 hi hz0 hz1 hz2 _ _ _ rfl hown s rfl ?c3 ?c4 ?c5 ?_)
 case c3=>unfold maxLen;omega
 case c4=>omega
 case c5=>have:=hb1.size;omega
 intro v' w2 hown' hgrow _
 have hlt:b<w1.heap.size:=by
  rcases Nat.lt_or_ge b w1.heap.size with h'|h'
  ·exact h'
  ·simp[Array.getElem?_eq_none h'] at hbk
 have hb2:w2.heap[b]?=some (.cells #[.pointer (some ⟨b,0,none⟩),v] T (0,0)):=by
  rw[hgrow.block b hlt (fun e=>hne e.symm)];exact hbk
 have d0:w2.cell? ⟨b,0,none⟩=some (.pointer (some ⟨b,0,none⟩)):=by rw[Lib.cell_of_heap hb2];rfl
 have d1:w2.cell? ⟨b,1,none⟩=some v:=by rw[Lib.cell_of_heap hb2];rfl
 have f1:w2.frozen? ⟨b,1,none⟩=false:=Lib.frozen_of_heap hb2 1
 obtain⟨ao,n',cap,rfl⟩:∃ ao n' cap,v'=.slice ao n' cap:=by
  rcases hown'.2 with ⟨hv,_⟩|⟨g,cap,cur,fz,hv,_⟩
  ·exact⟨_,_,_,hv⟩
  ·exact⟨_,_,_,hv⟩
 go_wp2;go_ret2;refine⟨rfl,?_,?_,(hk1.grown hgrow (Lib.ownsRowF_kind hown)).setCell ⟨b,1,none⟩ rfl _⟩
 ·exact Or.inr (Lib.BuilderAtF.put (T:=T) (e:=5) hB hb2 (bs':=bs++Lib.strCells s) (by simpa [Lib.strCells_length] using hown') hT.ne)
 ·exact(hb1.grown hgrow (by have:=hb1.size;omega) (fun k hk=>(hown.lt k hk).1)).setCell (p:=⟨b,1,none⟩) hB _
def jO (B b:Nat)(acc:List UInt8)(w:World)(T:TypeId:=153):Prop:=Lib.IsBuilderF T 5 B b (Lib.byteCells acc) w
theorem jO.at {T:TypeId}{B b:Nat}{acc:List UInt8}{w:World}(h:jO B b acc w T):∃ p,Lib.BuilderAtF T 5 B b p (Lib.byteCells acc) w:=by
 rcases h with h|h
 ·exact⟨_,h⟩
 ·exact⟨_,h⟩
theorem jO.le {T:TypeId}{B b:Nat}{acc:List UInt8}{w:World}(h:jO B b acc w T):B≤b:=by obtain⟨p,h⟩:=h.at;exact h.1
theorem jO.lt {T:TypeId}{B b:Nat}{acc:List UInt8}{w:World}(h:jO B b acc w T):b<w.heap.size:=by obtain⟨p,h⟩:=h.at;exact h.lt
theorem jO.alloc {T:TypeId}{B b:Nat}{acc:List UInt8}{w:World}(h:jO B b acc w T)(o:Obj):jO B b acc (w.alloc o) T:=by
 rcases h with h|h
 ·exact Or.inl (h.alloc o)
 ·exact Or.inr (h.alloc o)
theorem jO.drew {T:TypeId}{B b:Nat}{acc:List UInt8}{w:World}(h:jO B b acc w T):jO B b acc w.drew T:=by
 rcases h with h|h
 ·exact Or.inl h.drew
 ·exact Or.inr h.drew
theorem jO.fresh {T:TypeId}(w:World):jO w.heap.size w.heap.size [] (w.alloc (.cells #[.pointer none,.slice none 0 0] T)) T :=
 Lib.IsBuilderF.of (Lib.fresh_isBuilder T 5 w)
theorem jO.mono {T:TypeId}{B B' b:Nat}{acc:List UInt8}{w:World}(h:jO B b acc w T)(hb:B'≤B):jO B' b acc w T:=by
 have key:∀ p,Lib.BuilderAtF T 5 B b p (Lib.byteCells acc) w→Lib.BuilderAtF T 5 B' b p (Lib.byteCells acc) w:=by
  rintro p ⟨h1,v,h2,⟨h3,h4⟩,h5⟩;refine⟨by omega,v,h2,⟨h3,?_⟩,h5⟩
  rcases h4 with h4|⟨g,cap,cur,fz,q1,q2,q3⟩
  ·exact Or.inl h4
  ·exact Or.inr ⟨g,cap,cur,fz,q1,by omega,q3⟩
 rcases h with h|h
 ·exact Or.inl (key _ h)
 ·exact Or.inr (key _ h)
theorem jO.ne {T:TypeId}{B b k:Nat}{acc:List UInt8}{w:World}(h:jO B b acc w T){cs:Array Value}{T':TypeId}{fr:Nat × Nat}(hk:w.heap[k]?=some (.cells cs T' fr))(hT:T'≠T):k≠b:=by
 obtain⟨p,_,v,hb,_⟩:=h.at;rintro rfl;rw[hk] at hb;simp only[Option.some.injEq,Obj.cells.injEq] at hb;exact hT hb.2.1
theorem jO.block {T:TypeId}{B b k:Nat}{acc:List UInt8}{w w':World}(h:jO B b acc w T)(ho:Lib.OthersKept 5 (some b) w w'){cs:Array Value}{T':TypeId}{fr:Nat × Nat}(hk:w.heap[k]?=some (.cells cs T' fr))
  (hT:T'≠T) (he:T'≠5):w'.heap[k]?=some (.cells cs T' fr) :=
 ho k _ hk (fun e=>h.ne hk hT (Option.some.inj e)) (fun c fz e=>he (by injection e))
theorem jO.row {T:TypeId}{B b base e sz n:Nat}{v:Value}{xs:List Value}{acc:List UInt8}{w w':World}(h:jO B b acc w T)(ho:Lib.OthersKept 5 (some b) w w')(hr:w.ownsRow base e sz v n xs)
  (hT:e≠T) (he:e≠5):w'.ownsRow base e sz v n xs:=by
 obtain⟨h1,h2⟩:=hr;refine⟨h1,?_⟩
 rcases h2 with h2|⟨g,cap,cur,q1,q2,q3,q4⟩
 ·exact Or.inl h2
 ·exact Or.inr ⟨g,cap,cur,q1,q2,h.block ho q3 hT he,q4⟩
theorem jO.grown {T:TypeId}{B b base e sz n:Nat}{v:Value}{xs:List Value}{acc:List UInt8}{w w':World}(h:jO B b acc w T)(hr:w.ownsRow base e sz v n xs)(hg:w.grownBy w' v.ownBlock)
  (hT:e≠T) (he:e≠5):jO B b acc w' T:=by
 have hrow:∀ k,v.ownBlock=some k→∃ cs,w.heap[k]?=some (.cells cs e (0,0)):=by
  intro k hk
  rcases hr.2 with ⟨rfl,_⟩|⟨g,cap,cur,rfl,_,hgg,_⟩
  ·simp[Value.ownBlock] at hk
  ·simp[Value.ownBlock] at hk;subst hk;exact⟨_,hgg⟩
 have key:∀ p,Lib.BuilderAtF T 5 B b p (Lib.byteCells acc) w→Lib.BuilderAtF T 5 B b p (Lib.byteCells acc) w':=by
  rintro p ⟨h1,u,h2,h3,h5⟩;have hlt:b<w.heap.size:=h.lt;refine⟨h1,u,?_,h3.kept hg ?_,h5⟩
  ·rw[hg.block b hlt (fun q=>?_)]
   ·exact h2
   ·obtain⟨cs,hcs⟩:=hrow b q.symm
    exact h.ne hcs hT rfl
  ·rcases h3.2 with ⟨rfl,_⟩|⟨g,cap,cur,fz,rfl,_,hgg,_⟩
   ·exact Or.inl rfl
   ·refine Or.inr (fun q=>?_)
    obtain⟨cs,hcs⟩:=hrow g (by rw[← q];rfl);rw[hcs] at hgg;simp only[Option.some.injEq,Obj.cells.injEq] at hgg;exact he hgg.2.1
 rcases h with h|h
 ·exact Or.inl (key _ h)
 ·exact Or.inr (key _ h)
theorem j6 {T:TypeId}[Qo T](B b:Nat)(acc:List UInt8)(s:ByteArray)(w:World)(h:jO B b acc w T)(hlen:acc.length+s.size≤140737488355328)(hBw:B≤w.heap.size) :
  Calls Tryz.prog 79 #[.pointer (some ⟨b,0,none⟩),.string s] w fun e w'=>e=.returned (.tuple #[.int .i64 s.size,.nilIface])∧jO B b (acc++s.data.toList) w' T∧Below B w w'∧Lib.OthersKept 5 (some b) w w':=by
 have:=writeString B b (Lib.byteCells acc) s w h (by rw[Lib.byteCells_length];exact hlen) hBw;rw[Lib.strCells_eq,← Lib.byteCells_append] at this;exact this
theorem zM (B b:Nat)(acc:List UInt8)(w:World)(h:jO B b acc w)(hBw:B≤w.heap.size) :
  Calls Tryz.prog 77 #[.pointer (some ⟨b,0,none⟩)] w fun e w'=>e=.returned (.string ⟨acc.toArray⟩)∧jO B b acc w'∧Below B w w'∧Lib.OthersKept 5 (some b) w w' :=
 Tryz.Builder_String_any_k B b acc w h hBw
def fZ:List Tok→List UInt8
 | []=>[]
 | t :: l=>t.lead++t.text++fZ l
theorem Bc:∀ (l:List Tok),(fZ l).length=fP l l.length
 | []=>rfl
 | t :: l=>by rw[fZ,bP,bP,Bc l,dX,jX,lH]
theorem r9:∀ (l:List Tok) (t:Tok),fZ (l++[t])=fZ l++(t.lead++t.text)
 | [],t=>by simp[fZ]
 | x :: l,t=>by simp only[List.cons_append,fZ,r9 l t,List.append_assoc]
theorem Laid.Bd {T:List UInt8}{p:Nat}{l:List Tok}(h:Laid T p l):∀ k,k≤l.length→fZ (l.take k)=T.take (fP l k)
 | 0,_=>by simp[fZ,vk]
 | k+1,hk=>by
  have hl:k<l.length:=hk;have hle:=h.inside (k+1) hk;rw[jw l k hl,lH] at hle;rw[List.take_succ_eq_append_getElem hl,r9,h.Bd k (by omega),jw l k hl,lH];have h1:=h.lead k hl;have h2:=h.text k hl;generalize fP l k=a at h1 h2 hle ⊢;rw[← Nat.add_assoc,List.take_add (i:=a+l[k].lead.length),List.take_add (i:=a),h1,h2,List.append_assoc]
theorem Laid.TI {T:List UInt8}{p:Nat}{l:List Tok}(h:Laid T p l):fZ l=T:=by
 have:=h.Bd l.length (Nat.le_refl _);rw[List.take_length,h.whole,List.take_length] at this;exact this
theorem rE:∀ (l:List Tok) (k:Nat),k≤l.length→(fZ (l.take k)).length=fP l k
 | l,0,_=>by simp[fZ,vk]
 | [],k+1,h=>absurd h (by simp)
 | t :: l,k+1,h=>by
  rw[List.take_succ_cons,fZ,bP,bP,rE l k (by simpa using h),jX,lH]
theorem Mf (l:List Tok):∀ (i j:Nat),i≤j→j≤l.length→fP l i≤fP l j:=by
 intro i j h hj
 induction j with
 | zero=>exact Nat.le_of_eq (by rw[Nat.le_zero.1 h])
 | succ j ih =>
  rcases Nat.lt_or_ge i (j+1) with h'|h'
  ·have:=ih (by omega) (by omega)
   rw[jw l j (by omega)];omega
  ·obtain rfl:i=j+1:=by omega
   exact Nat.le_refl _
theorem je (y:List UInt8):∃ Y:ByteArray,Y.data.toList=y∧ByteArray.mk y.toArray=Y:=⟨⟨y.toArray⟩,rfl,rfl⟩
theorem Qp (v:Value)(l:List Tok)(w:World)(hl:l.length≤1099511627776)(hn:fP l l.length≤1099511627776)(hv:Rec w.heap.size w v 4 bV l) :
  Calls Tryz.prog 177 #[v] w fun e w'=>e=.returned (.string ⟨(fZ l).toArray⟩)∧Below w.heap.size w w':=by
 obtain⟨ao,cap,rfl,hcap,hf⟩:=hv.form (fun _=>rfl);clear hv;go_enter Tryz.func177,Tryz.ntmps177;go_wp2
 go_loopw [8] (fun i wr=>∃ k:Nat,k≤l.length∧i=.int .i64 k∧jO w.heap.size w.heap.size (fZ (l.take k)) wr∧Below w.heap.size w wr) (fun i _=>l.length - (intOf i).toNat)
 case atStart=>exact⟨0,Nat.zero_le _,rfl,jO.fresh w,(Below.refl _ _).alloc (Nat.le_refl _) _⟩
 case round =>
  obtain⟨k,hk,rfl,hbd,hbl⟩:=hrel;have hz:=hbl.size
  by_cases hlt:k<l.length
  ·obtain⟨b,off,rfl,hb,hcell⟩:=hf (by omega)
   have hx0:=(hbl.cell (p:=⟨b,off+k * 4,none⟩) hb).trans (hcell k 0 _ hlt rfl);have hx1:=(hbl.cell (p:=⟨b,off+k * 4+1,none⟩) hb).trans (hcell k 1 _ hlt rfl);have hx2:=(hbl.cell (p:=⟨b,off+k * 4+2,none⟩) hb).trans (hcell k 2 _ hlt rfl);have hx3:=(hbl.cell (p:=⟨b,off+k * 4+3,none⟩) hb).trans (hcell k 3 _ hlt rfl);have hmo:=Mf l (k+1) l.length hlt (Nat.le_refl _);rw[jw l k hlt,lH,← rE l k hk] at hmo
   have hsn:fZ (l.take (k+1))=fZ (l.take k)++(l[k].lead++l[k].text):=by rw[List.take_succ_eq_append_getElem hlt,r9]
   generalize l[k]=t at hx0 hx1 hx2 hx3 hmo hsn;obtain⟨c,x,y,q⟩:=t;simp only at hx0 hx1 hx2 hx3 hmo hsn;obtain⟨X,rfl,eX⟩:=je x;obtain⟨Y,rfl,eY⟩:=je y;rw[eX] at hx1;rw[eY] at hx2;simp only[aK] at hmo;generalize fZ (l.take k)=acc at hbd hmo hsn;have HS:=ah hsn;have ady:=hbd.alloc (.cells #[.int .i64 c,.string X,.string Y,.int .i64 q] 136);have adz:=hbl.alloc hz (.cells #[.int .i64 c,.string X,.string Y,.int .i64 q] 136);clear hcell hf hsn eX eY;go_wp2_with (go_at_call 79;refine(j6 w.heap.size w.heap.size acc (X++Y) _ ady ?c1 ?c2).mono ?_)
   case c1=>simp only[ByteArray.size_append];omega
   case c2=>simp;omega
   rintro e w2 ⟨rfl,abM,hb2,ho2⟩;rw[zI,← HS.out] at abM;clear ho2;go_wp2
   go_roundw
   case rel=>exact⟨k+1,by omega,by go_num,abM,adz.trans hb2⟩
   case measure=>simp[intOf];omega
  ·have hkl:k=l.length:=by omega
   subst hkl;rw[List.take_length] at hbd;clear hf;go_wp2_with (go_at_call 77;refine(zM w.heap.size w.heap.size _ _ hbd hz).mono ?_;rintro e w4 ⟨rfl,TJ,hb4,Qq⟩);go_ret;exact⟨rfl,hbl.trans hb4⟩
end Go.Proofs.YtknicmmigbhpcaaGreatDoor

namespace Go.Proofs.YtknicmmigbhpcaaGreatDoor
open Go.RowKit
open Go.RowKit
open Go.RowKit
open Go.RowKit
open Go.RowKit
open Go.RowKit
structure Nd where
 kind:Int
 tok:Int
 kids:List Int
structure aB where
 nodes:List Nd
 used:Nat
 clause:Bool
 fE:Nat
 Ya:Nat
def abN:Tok:=⟨0,[],[],0⟩
def bL (toks:List Tok)(u:Nat):Tok:=toks.getD (min u (toks.length - 1)) abN
def aS (toks:List Tok)(st:aB)(l:List (List UInt8)):Bool:=((bL toks st.used).kind == 2 || (bL toks st.used).kind == 4) && decide ((bL toks st.used).text∈l)
def fQ (toks:List Tok)(e:Nat)(st:aB):aB:=if st.fE=0 then { st with fE:=e,Ya:=(bL toks st.used).place } else st
def ay (toks:List Tok)(st:aB):Int × aB :=
 if st.used=toks.length then (-1,st) else ((st.nodes.length:Nat),{ st with nodes:=st.nodes++[⟨19,(st.used:Nat),[]⟩],used:=st.used+1 })
def El (kind:Int)(kids:List Int)(st:aB):Int × aB :=
 if kids.any (fun k=>decide (k<0) || decide ((st.nodes.length:Int)≤k)) then (-1,st) else ((st.nodes.length:Nat),{ st with nodes:=st.nodes++[⟨kind,-1,kids⟩] })
def aY (kind:Int)(kids:List Int)(st:aB):Int × aB:=if st.fE=0 then El kind kids st else (0,st)
def aA (toks:List Tok)(l:List (List UInt8))(st:aB):Int × aB:=if st.fE=0∧aS toks st l=true then ay toks st else (0,fQ toks 22 st)
def aO (toks:List Tok)(k:Nat)(st:aB):Int × aB:=if st.fE=0∧(bL toks st.used).kind=k then ay toks st else (0,fQ toks 22 st)
def aM (toks:List Tok)(depth nest:Nat)(st:aB):aB:=if depth<nest then fQ toks 23 st else st
def yI:Nat→List (List UInt8)
 | 0=>[[124,124]]
 | 1=>[[38,38]]
 | 2=>[[61],[60,62],[60],[60,61],[62],[62,61]]
 | 3=>[[43],[45]]
 | _=>[[42],[47],[37]]
def aR (toks:List Tok)(one:aB→Option (Int × aB)):Nat→List Int→aB→Option (List Int × aB)
 | 0,kids,st=>some (kids,if st.fE=0 then fQ toks 15 st else st)
 | r+1,kids,st =>
  if st.fE≠0 then some (kids,st)
  else (one st).bind fun k =>
   if k.2.fE=0∧aS toks k.2 [[44]]=true then aR toks one r (kids++[k.1,(ay toks k.2).1]) (ay toks k.2).2
   else some (kids++[k.1],k.2)
def jf (toks:List Tok)(one:aB→Option (Int × aB))(st:aB):Option (List Int × aB) :=
 if aS toks st [[41]]=true then some ([],st) else aR toks one 8 [] st
inductive Task where
 | expr (nest:Nat)
 | formula (nest:Nat)
 | part (l nest:Nat)
 | row (l nest:Nat)
 | loop (l nest:Nat) (a:Int)
 | neg (nest:Nat)
 | factor (nest:Nat)
 | atom (nest:Nat)
 | name (nest:Nat)
def abO:List UInt8:=[108,101,116]
def tIf:List UInt8:=[105,102]
def OW:List UInt8:=[97,115,115,101,114,116]
def Td:List UInt8:=[105,110]
def EI:List UInt8:=[116,104,101,110]
def EJ:List UInt8:=[101,108,115,101]
def OX:List UInt8:=[116,114,117,101]
def Mg:List UInt8:=[102,97,108,115,101]
def Yb:List UInt8:=[110,111,116]
def aaw:List UInt8:=[114,101,115]
def lD (toks:List Tok)(a:Int × aB):List Int × aB :=
 if aS toks a.2 [[46]]=true then ([a.1,(ay toks a.2).1,(aO toks 1 (ay toks a.2).2).1],(aO toks 1 (ay toks a.2).2).2) else ([a.1],a.2)
def run (toks:List Tok)(depth:Nat):Nat→Task→aB→Option (Int × aB)
 | 0,_,_=>none
 | g+1,.expr nest,st0 =>
  if (aM toks depth nest st0).fE≠0 then some (0,aM toks depth nest st0)
  else if (aM toks depth nest st0).clause=true then run toks depth g (.formula nest) (aM toks depth nest st0)
  else if aS toks (aM toks depth nest st0) [abO]=true then
   (run toks depth g (.expr (nest+1)) (aA toks [[61]] (aO toks 1 (ay toks (aM toks depth nest st0)).2).2).2).bind fun d =>
    (run toks depth g (.expr (nest+1)) (aA toks [Td] d.2).2).bind fun f =>
     some (aY 7 [(ay toks (aM toks depth nest st0)).1,(aO toks 1 (ay toks (aM toks depth nest st0)).2).1,(aA toks [[61]] (aO toks 1 (ay toks (aM toks depth nest st0)).2).2).1,d.1,(aA toks [Td] d.2).1,f.1] f.2)
  else if aS toks (aM toks depth nest st0) [tIf]=true then
   (run toks depth g (.expr (nest+1)) (ay toks (aM toks depth nest st0)).2).bind fun b =>
    (run toks depth g (.expr (nest+1)) (aA toks [EI] b.2).2).bind fun d =>
     (run toks depth g (.expr (nest+1)) (aA toks [EJ] d.2).2).bind fun f =>
      some (aY 8 [(ay toks (aM toks depth nest st0)).1,b.1,(aA toks [EI] b.2).1,d.1,(aA toks [EJ] d.2).1,f.1] f.2)
  else if aS toks (aM toks depth nest st0) [OW]=true then
   (run toks depth g (.expr (nest+1)) (ay toks (aM toks depth nest st0)).2).bind fun b =>
    (run toks depth g (.expr (nest+1)) (aA toks [Td] b.2).2).bind fun d =>
     some (aY 9 [(ay toks (aM toks depth nest st0)).1,b.1,(aA toks [Td] b.2).1,d.1] d.2)
  else run toks depth g (.formula nest) (aM toks depth nest st0)
 | g+1,.formula nest,st0 =>
  (run toks depth g (.row 0 nest) st0).bind fun a =>
   if a.2.fE=0∧aS toks a.2 [[61,62]]=true then
    if (aM toks depth (nest+1) (ay toks a.2).2).fE≠0 then some (0,aM toks depth (nest+1) (ay toks a.2).2)
    else (run toks depth g (.formula (nest+1)) (aM toks depth (nest+1) (ay toks a.2).2)).bind fun b=>some (aY 10 [a.1,(ay toks a.2).1,b.1] b.2)
   else some a
 | g+1,.part l nest,st=>if l=1 then run toks depth g (.neg nest) st else if l=4 then run toks depth g (.factor nest) st else run toks depth g (.row (l+1) nest) st
 | g+1,.row l nest,st=>(run toks depth g (.part l nest) st).bind fun a=>run toks depth g (.loop l nest a.1) a.2
 | g+1,.loop l nest a,st =>
  if st.fE=0∧aS toks st (yI l)=true then
   (run toks depth g (.part l nest) (ay toks st).2).bind fun b =>
    if l=2 then some (aY 10 [a,(ay toks st).1,b.1] b.2)
    else run toks depth g (.loop l nest (aY 10 [a,(ay toks st).1,b.1] b.2).1) (aY 10 [a,(ay toks st).1,b.1] b.2).2
  else some (a,st)
 | g+1,.neg nest,st =>
  if st.fE=0∧aS toks st [Yb]=true then
   if (aM toks depth (nest+1) (ay toks st).2).fE≠0 then some (0,aM toks depth (nest+1) (ay toks st).2)
   else (run toks depth g (.neg (nest+1)) (aM toks depth (nest+1) (ay toks st).2)).bind fun b=>some (aY 11 [(ay toks st).1,b.1] b.2)
  else run toks depth g (.row 2 nest) st
 | g+1,.factor nest,st =>
  if st.fE=0∧aS toks st [[45]]=true then
   if (aM toks depth (nest+1) (ay toks st).2).fE≠0 then some (0,aM toks depth (nest+1) (ay toks st).2)
   else (run toks depth g (.factor (nest+1)) (aM toks depth (nest+1) (ay toks st).2)).bind fun b=>some (aY 11 [(ay toks st).1,b.1] b.2)
  else run toks depth g (.atom nest) st
 | g+1,.atom nest,st =>
  if st.fE≠0 then some (0,st)
  else if (bL toks st.used).kind=3 then some (aY 15 [(ay toks st).1] (ay toks st).2)
  else if aS toks st [OX,Mg]=true then some (aY 16 [(ay toks st).1] (ay toks st).2)
  else if st.clause=true∧aS toks st [aaw]=true then some (aY 17 [(ay toks st).1] (ay toks st).2)
  else if aS toks st [[40]]=true then
   (run toks depth g (.expr (nest+1)) (ay toks st).2).bind fun b =>
    some (aY 12 [(ay toks st).1,b.1,(aA toks [[41]] b.2).1] (aA toks [[41]] b.2).2)
  else if (bL toks st.used).kind=1 then run toks depth g (.name nest) st
  else some (0,fQ toks 22 st)
 | g+1,.name nest,st =>
  if (ay toks st).2.clause=true∨aS toks (ay toks st).2 [[46],[40]]=false then some (aY 14 [(ay toks st).1] (ay toks st).2)
  else
   (jf toks (fun s=>run toks depth g (.expr (nest+1)) s) (aA toks [[40]] (lD toks (ay toks st)).2).2).bind fun l =>
    some (aY 13 ((lD toks (ay toks st)).1++[(aA toks [[40]] (lD toks (ay toks st)).2).1]++l.1++[(aA toks [[41]] l.2).1]) (aA toks [[41]] l.2).2)
def startP:aB:=⟨[],0,false,0,0⟩
def aax (toks:List Tok)(depth g:Nat):Option aB :=
 (run toks depth g (.expr 1) { startP with clause:=true }).bind fun a=>some (aY 18 [a.1,(aO toks 5 a.2).1] (aO toks 5 a.2).2).2
def bX (a b:aB):Prop:=a.used≤b.used∧(a.fE≠0→b.fE=a.fE)∧b.clause=a.clause∧a.nodes.length≤b.nodes.length
theorem bX.refl (a:aB):bX a a:=⟨Nat.le_refl _,fun _=>rfl,rfl,Nat.le_refl _⟩
theorem bX.trans {a b c:aB}(h:bX a b)(k:bX b c):bX a c :=
 ⟨Nat.le_trans h.1 k.1,fun q=>by have h1:=h.2.1 q;rw[k.2.1 (by rw[h1];exact q),h1],k.2.2.1.trans h.2.2.1,Nat.le_trans h.2.2.2 k.2.2.2⟩
theorem bX.zero {a b:aB}(h:bX a b)(hb:b.fE=0):a.fE=0:=by
 apply Classical.byContradiction
 intro q;exact q (by rw[← h.2.1 q];exact hb)
theorem nI (toks:List Tok)(e:Nat)(st:aB):bX st (fQ toks e st):=by
 unfold fQ
 split
 ·rename_i h;exact⟨Nat.le_refl _,fun q=>absurd h q,rfl,Nat.le_refl _⟩
 ·exact bX.refl _
theorem aJ (toks:List Tok)(st:aB):bX st (ay toks st).2:=by
 unfold ay
 split
 ·exact bX.refl _
 ·exact⟨Nat.le_succ _,fun _=>rfl,rfl,by simp⟩
theorem TK (k:Int)(l:List Int)(st:aB):bX st (El k l st).2:=by
 unfold El
 split
 ·exact bX.refl _
 ·exact⟨Nat.le_refl _,fun _=>rfl,rfl,by simp⟩
theorem aD (k:Int)(l:List Int)(st:aB):bX st (aY k l st).2:=by
 unfold aY
 split
 ·exact TK _ _ _
 ·exact bX.refl _
theorem aF (toks:List Tok)(l:List (List UInt8))(st:aB):bX st (aA toks l st).2:=by
 unfold aA
 split
 ·exact aJ _ _
 ·exact nI _ _ _
theorem dO (toks:List Tok)(k:Nat)(st:aB):bX st (aO toks k st).2:=by
 unfold aO
 split
 ·exact aJ _ _
 ·exact nI _ _ _
theorem dZ (toks:List Tok)(d n:Nat)(st:aB):bX st (aM toks d n st):=by
 unfold aM
 split
 ·exact nI _ _ _
 ·exact bX.refl _
theorem yJ (toks:List Tok)(a:Int × aB):bX a.2 (lD toks a).2:=by
 unfold lD
 split
 ·exact(aJ _ _).trans (dO _ _ _)
 ·exact bX.refl _
theorem kJ (toks:List Tok)(one:aB→Option (Int × aB))(h1:∀ s k,one s=some k→bX s k.2):∀ (r:Nat) (kids:List Int) (st:aB) (l:List Int × aB),aR toks one r kids st=some l→bX st l.2
 | 0,kids,st,l,h=>by
  rw[aR] at h
  injection h with h
  subst h;show bX st (if st.fE=0 then fQ toks 15 st else st)
  split
  ·exact nI _ _ _
  ·exact bX.refl _
 | r+1,kids,st,l,h=>by
  rw[aR] at h
  split at h
  ·injection h with h;subst h;exact bX.refl _
  ·obtain⟨k,hk,h⟩:=bH h
   have:=h1 _ _ hk
   split at h
   ·exact(this.trans (aJ _ _)).trans (kJ toks one h1 r _ _ _ h)
   ·injection h with h;subst h;exact this
theorem kg (toks:List Tok)(one:aB→Option (Int × aB))(h1:∀ s k,one s=some k→bX s k.2)(st:aB)(l:List Int × aB)(h:jf toks one st=some l):bX st l.2:=by
 unfold jf at h
 split at h
 ·injection h with h;subst h;exact bX.refl _
 ·exact kJ toks one h1 _ _ _ _ h
theorem aN (toks:List Tok)(depth:Nat):∀ (g:Nat) (t:Task) (st:aB) (r:Int × aB),run toks depth g t st=some r→bX st r.2
 | 0,_,_,_,h=>by rw[run] at h;cases h
 | g+1,.expr nest,st,r,h=>by
  have ih:=aN toks depth g;rw[run] at h;have hd:=dZ toks depth nest st;generalize aM toks depth nest st=s at h hd
  split at h
  ·injection h with h;subst h;exact hd
  split at h
  ·exact hd.trans (ih _ _ _ h)
  split at h
  ·obtain⟨d,h1,h⟩:=bH h
   obtain⟨f,h2,h⟩:=bH h
   injection h with h;subst h
   exact(((((hd.trans (aJ _ _)).trans (dO _ _ _)).trans (aF _ _ _)).trans (ih _ _ _ h1)).trans (aF _ _ _)).trans ((ih _ _ _ h2).trans (aD _ _ _))
  split at h
  ·obtain⟨b,h1,h⟩:=bH h
   obtain⟨d,h2,h⟩:=bH h;obtain⟨f,h3,h⟩:=bH h
   injection h with h;subst h
   exact(((((hd.trans (aJ _ _)).trans (ih _ _ _ h1)).trans (aF _ _ _)).trans (ih _ _ _ h2)).trans (aF _ _ _)).trans ((ih _ _ _ h3).trans (aD _ _ _))
  split at h
  ·obtain⟨b,h1,h⟩:=bH h
   obtain⟨d,h2,h⟩:=bH h
   injection h with h;subst h
   exact(((hd.trans (aJ _ _)).trans (ih _ _ _ h1)).trans (aF _ _ _)).trans ((ih _ _ _ h2).trans (aD _ _ _))
  ·exact hd.trans (ih _ _ _ h)
 | g+1,.formula nest,st,r,h=>by
  have ih:=aN toks depth g;rw[run] at h;obtain⟨a,h1,h⟩:=bH h;have ha:=ih _ _ _ h1
  split at h
  ·have hd:=(ha.trans (aJ toks a.2)).trans (dZ toks depth (nest+1) _)
   split at h
   ·injection h with h;subst h;exact hd
   ·obtain⟨b,h2,h⟩:=bH h
    injection h with h;subst h
    exact(hd.trans (ih _ _ _ h2)).trans (aD _ _ _)
  ·injection h with h;subst h;exact ha
 | g+1,.part l nest,st,r,h=>by
  have ih:=aN toks depth g;rw[run] at h
  split at h
  ·exact ih _ _ _ h
  ·split at h
   ·exact ih _ _ _ h
   ·exact ih _ _ _ h
 | g+1,.row l nest,st,r,h=>by
  have ih:=aN toks depth g;rw[run] at h;obtain⟨a,h1,h⟩:=bH h;exact(ih _ _ _ h1).trans (ih _ _ _ h)
 | g+1,.loop l nest a,st,r,h=>by
  have ih:=aN toks depth g;rw[run] at h
  split at h
  ·obtain⟨b,h1,h⟩:=bH h
   have hb:=((aJ toks st).trans (ih _ _ _ h1)).trans (aD 10 [a,(ay toks st).1,b.1] _)
   split at h
   ·injection h with h;subst h;exact hb
   ·exact hb.trans (ih _ _ _ h)
  ·injection h with h;subst h;exact bX.refl _
 | g+1,.neg nest,st,r,h=>by
  have ih:=aN toks depth g;rw[run] at h
  split at h
  ·have hd:=(aJ toks st).trans (dZ toks depth (nest+1) _)
   split at h
   ·injection h with h;subst h;exact hd
   ·obtain⟨b,h2,h⟩:=bH h
    injection h with h;subst h
    exact(hd.trans (ih _ _ _ h2)).trans (aD _ _ _)
  ·exact ih _ _ _ h
 | g+1,.factor nest,st,r,h=>by
  have ih:=aN toks depth g;rw[run] at h
  split at h
  ·have hd:=(aJ toks st).trans (dZ toks depth (nest+1) _)
   split at h
   ·injection h with h;subst h;exact hd
   ·obtain⟨b,h2,h⟩:=bH h
    injection h with h;subst h
    exact(hd.trans (ih _ _ _ h2)).trans (aD _ _ _)
  ·exact ih _ _ _ h
 | g+1,.atom nest,st,r,h=>by
  have ih:=aN toks depth g;rw[run] at h
  split at h
  ·injection h with h;subst h;exact bX.refl _
  split at h
  ·injection h with h;subst h;exact(aJ _ _).trans (aD _ _ _)
  split at h
  ·injection h with h;subst h;exact(aJ _ _).trans (aD _ _ _)
  split at h
  ·injection h with h;subst h;exact(aJ _ _).trans (aD _ _ _)
  split at h
  ·obtain⟨b,h1,h⟩:=bH h
   injection h with h;subst h
   exact(((aJ _ _).trans (ih _ _ _ h1)).trans (aF _ _ _)).trans (aD _ _ _)
  split at h
  ·exact ih _ _ _ h
  ·injection h with h;subst h;exact nI _ _ _
 | g+1,.name nest,st,r,h=>by
  have ih:=aN toks depth g;rw[run] at h
  split at h
  ·injection h with h;subst h;exact(aJ _ _).trans (aD _ _ _)
  ·obtain⟨l,h1,h⟩:=bH h
   injection h with h;subst h
   exact((((aJ _ _).trans (yJ _ _)).trans (aF _ _ _)).trans (kg toks _ (fun s k hk=>ih _ _ _ hk) _ _ h1)).trans ((aF _ _ _).trans (aD _ _ _))
def gH (toks:List Tok):Prop:=(bL toks toks.length).kind=5
theorem gH.pos {toks:List Tok}(h:gH toks):0<toks.length:=by
 cases toks with
 | nil=>cases h
 | cons t l=>simp
theorem gH.before {toks:List Tok}(h:gH toks){u:Nat}(hu:(bL toks u).kind≠5):u+1<toks.length:=by
 apply Classical.byContradiction
 intro q
 apply hu
 have hp:=h.pos;rw[gH] at h;unfold bL at h ⊢;rw[show min u (toks.length - 1)=min toks.length (toks.length - 1) by omega];exact h
theorem aZ {toks:List Tok}{st:aB}{l:List (List UInt8)}(h:aS toks st l=true):(bL toks st.used).kind≠5:=by
 simp only[aS,Bool.and_eq_true,Bool.or_eq_true,beq_iff_eq] at h;omega
theorem Mh {toks:List Tok}{st:aB}(h:st.used+1<toks.length):ay toks st=(((st.nodes.length:Nat):Int),{ st with nodes:=st.nodes++[⟨19,(st.used:Nat),[]⟩],used:=st.used+1 }):=by
 unfold ay;rw[if_neg (by omega)]
theorem ji {toks:List Tok}(hE:gH toks){st:aB}(h:(bL toks st.used).kind≠5):(ay toks st).2.used=st.used+1∧st.used+1<toks.length:=by
 have:=hE.before h;rw[Mh this];exact⟨rfl,this⟩
def jg:Task→Nat
 | .expr _=>18
 | .formula _=>17
 | .row l _=>if l≤1 then 16 - 2 * l else 15 - 2 * l
 | .part l _=>if l≤1 then 15 - 2 * l else 14 - 2 * l
 | .neg _=>12
 | .factor _=>5
 | .atom _=>4
 | .name _=>3
 | .loop _ _ _=>1
def Yc (toks:List Tok)(st:aB):Task→Prop
 | .row l _=>l≤4
 | .part l _=>l≤4
 | .loop l _ _=>l≤4
 | .name _=>st.used<toks.length
 | _=>True
def dU (toks:List Tok)(t:Task)(st:aB):Nat:=20 * (toks.length - st.used)+jg t
theorem kK {toks:List Tok}{e:Nat}(he:e≠0)(st:aB):(fQ toks e st).fE≠0:=by
 unfold fQ
 split
 ·exact he
 ·assumption
theorem Qr {toks:List Tok}(hE:gH toks)(l:List (List UInt8))(st:aB):st.used+1≤(aA toks l st).2.used∨(aA toks l st).2.fE≠0:=by
 unfold aA
 split
 ·rename_i h
  have:=(ji hE (aZ h.2)).1;exact .inl (by rw[this];exact Nat.le_refl _)
 ·exact .inr (kK (by decide) st)
theorem nR (toks:List Tok)(one:aB→Option (Int × aB))(base:Nat)(h1:∀ s,base≤s.used→∃ k,one s=some k∧bX s k.2):∀ (r:Nat) (kids:List Int) (st:aB),base≤st.used∨st.fE≠0→∃ l,aR toks one r kids st=some l
 | 0,kids,st,_=>⟨_,rfl⟩
 | r+1,kids,st,hb=>by
  rw[aR]
  split
  ·exact⟨_,rfl⟩
  ·rename_i hf
   obtain⟨k,hk,hx⟩:=h1 st (hb.resolve_right hf);rw[hk];simp only[Option.bind_some]
   split
   ·exact nR toks one base h1 r _ _ (.inl (Nat.le_trans (hb.resolve_right hf) (Nat.le_trans hx.1 (aJ toks k.2).1)))
   ·exact⟨_,rfl⟩
theorem jk (toks:List Tok)(depth:Nat)(hE:gH toks):∀ (g:Nat) (t:Task) (st:aB),Yc toks st t→dU toks t st≤g→∃ r,run toks depth g t st=some r
 | 0,t,st,_,h=>by
  exfalso
  have:1≤jg t:=by
   cases t<;>simp only[jg]<;>first|omega|(simp only[Yc] at *;split<;>omega)
  unfold dU at h;omega
 | g+1,.expr nest,st,_,h=>by
  have ih:=jk toks depth hE g;rw[run];have hd:=dZ toks depth nest st;generalize aM toks depth nest st=s at hd;have hu:=hd.1;simp only[dU,jg] at h
  split
  ·exact⟨_,rfl⟩
  split
  ·exact ih _ _ trivial (by simp only[dU,jg];omega)
  split
  ·rename_i hn
   obtain⟨e1,e2⟩:=ji hE (aZ hn);have x1:=(dO toks 1 (ay toks s).2).1;have x2:=(aF toks [[61]] (aO toks 1 (ay toks s).2).2).1;obtain⟨d,hd1⟩:=ih (.expr (nest+1)) (aA toks [[61]] (aO toks 1 (ay toks s).2).2).2 trivial (by simp only[dU,jg];omega);have x3:=(aN toks depth g _ _ _ hd1).1;have x4:=(aF toks [Td] d.2).1;obtain⟨f,hf⟩:=ih (.expr (nest+1)) (aA toks [Td] d.2).2 trivial (by simp only[dU,jg];omega);rw[hd1,Option.bind_some,hf,Option.bind_some];exact⟨_,rfl⟩
  split
  ·rename_i hn
   obtain⟨e1,e2⟩:=ji hE (aZ hn);obtain⟨b,hb⟩:=ih (.expr (nest+1)) (ay toks s).2 trivial (by simp only[dU,jg];omega);have x3:=(aN toks depth g _ _ _ hb).1;have x4:=(aF toks [EI] b.2).1;obtain⟨d,hd1⟩:=ih (.expr (nest+1)) (aA toks [EI] b.2).2 trivial (by simp only[dU,jg];omega);have x5:=(aN toks depth g _ _ _ hd1).1;have x6:=(aF toks [EJ] d.2).1;obtain⟨f,hf⟩:=ih (.expr (nest+1)) (aA toks [EJ] d.2).2 trivial (by simp only[dU,jg];omega);rw[hb,Option.bind_some,hd1,Option.bind_some,hf,Option.bind_some];exact⟨_,rfl⟩
  split
  ·rename_i hn
   obtain⟨e1,e2⟩:=ji hE (aZ hn);obtain⟨b,hb⟩:=ih (.expr (nest+1)) (ay toks s).2 trivial (by simp only[dU,jg];omega);have x3:=(aN toks depth g _ _ _ hb).1;have x4:=(aF toks [Td] b.2).1;obtain⟨d,hd1⟩:=ih (.expr (nest+1)) (aA toks [Td] b.2).2 trivial (by simp only[dU,jg];omega);rw[hb,Option.bind_some,hd1,Option.bind_some];exact⟨_,rfl⟩
  ·exact ih _ _ trivial (by simp only[dU,jg];omega)
 | g+1,.formula nest,st,_,h=>by
  have ih:=jk toks depth hE g;rw[run];simp only[dU,jg] at h;obtain⟨a,ha⟩:=ih (.row 0 nest) st (by simp[Yc]) (by simp only[dU,jg];simp;omega);have x1:=(aN toks depth g _ _ _ ha).1;rw[ha,Option.bind_some]
  split
  ·rename_i hn
   obtain⟨e1,e2⟩:=ji hE (aZ hn.2);have x2:=(dZ toks depth (nest+1) (ay toks a.2).2).1
   split
   ·exact⟨_,rfl⟩
   ·obtain⟨b,hb⟩:=ih (.formula (nest+1)) (aM toks depth (nest+1) (ay toks a.2).2) trivial (by simp only[dU,jg];omega)
    rw[hb,Option.bind_some];exact⟨_,rfl⟩
  ·exact⟨_,rfl⟩
 | g+1,.part l nest,st,hl,h=>by
  have ih:=jk toks depth hE g;rw[run];simp only[dU,jg] at h;simp only[Yc] at hl
  split
  ·rename_i h1;subst h1
   exact ih _ _ trivial (by simp only[dU,jg];simp at h;omega)
  ·split
   ·rename_i h4;subst h4
    exact ih _ _ trivial (by simp only[dU,jg];simp at h;omega)
   ·refine ih _ _ (by simp only[Yc];omega) ?_
    simp only[dU,jg]
    split at h
    ·obtain rfl:l=0:=by omega
     simp;omega
    ·rw[if_neg (by omega)];omega
 | g+1,.row l nest,st,hl,h=>by
  have ih:=jk toks depth hE g;rw[run];simp only[dU,jg] at h;simp only[Yc] at hl;obtain⟨a,ha⟩:=ih (.part l nest) st hl (by simp only[dU,jg];split at h<;>split<;>omega);have x1:=(aN toks depth g _ _ _ ha).1;rw[ha,Option.bind_some];refine ih _ _ hl ?_;simp only[dU,jg]
  split at h<;>omega
 | g+1,.loop l nest a,st,hl,h=>by
  have ih:=jk toks depth hE g;rw[run];simp only[dU,jg] at h;simp only[Yc] at hl
  split
  ·rename_i hn
   obtain⟨e1,e2⟩:=ji hE (aZ hn.2);obtain⟨b,hb⟩:=ih (.part l nest) (ay toks st).2 hl (by simp only[dU,jg];split<;>omega);have x1:=(aN toks depth g _ _ _ hb).1;have x2:=(aD 10 [a,(ay toks st).1,b.1] b.2).1;rw[hb,Option.bind_some]
   split
   ·exact⟨_,rfl⟩
   ·exact ih _ _ hl (by simp only[dU,jg];omega)
  ·exact⟨_,rfl⟩
 | g+1,.neg nest,st,_,h=>by
  have ih:=jk toks depth hE g;rw[run];simp only[dU,jg] at h
  split
  ·rename_i hn
   obtain⟨e1,e2⟩:=ji hE (aZ hn.2);have x2:=(dZ toks depth (nest+1) (ay toks st).2).1
   split
   ·exact⟨_,rfl⟩
   ·obtain⟨b,hb⟩:=ih (.neg (nest+1)) (aM toks depth (nest+1) (ay toks st).2) trivial (by simp only[dU,jg];omega)
    rw[hb,Option.bind_some];exact⟨_,rfl⟩
  ·exact ih _ _ (by simp[Yc]) (by simp only[dU,jg];simp;omega)
 | g+1,.factor nest,st,_,h=>by
  have ih:=jk toks depth hE g;rw[run];simp only[dU,jg] at h
  split
  ·rename_i hn
   obtain⟨e1,e2⟩:=ji hE (aZ hn.2);have x2:=(dZ toks depth (nest+1) (ay toks st).2).1
   split
   ·exact⟨_,rfl⟩
   ·obtain⟨b,hb⟩:=ih (.factor (nest+1)) (aM toks depth (nest+1) (ay toks st).2) trivial (by simp only[dU,jg];omega)
    rw[hb,Option.bind_some];exact⟨_,rfl⟩
  ·exact ih _ _ trivial (by simp only[dU,jg];omega)
 | g+1,.atom nest,st,_,h=>by
  have ih:=jk toks depth hE g;rw[run];simp only[dU,jg] at h
  split
  ·exact⟨_,rfl⟩
  split
  ·exact⟨_,rfl⟩
  split
  ·exact⟨_,rfl⟩
  split
  ·exact⟨_,rfl⟩
  split
  ·rename_i hn
   obtain⟨e1,e2⟩:=ji hE (aZ hn);obtain⟨b,hb⟩:=ih (.expr (nest+1)) (ay toks st).2 trivial (by simp only[dU,jg];omega);rw[hb,Option.bind_some];exact⟨_,rfl⟩
  split
  ·rename_i hk
   have:=hE.before (u:=st.used) (by omega);exact ih _ _ (by simp only[Yc];omega) (by simp only[dU,jg];omega)
  ·exact⟨_,rfl⟩
 | g+1,.name nest,st,hl0,h=>by
  have ih:=jk toks depth hE g;rw[run];simp only[dU,jg] at h
  split
  ·exact⟨_,rfl⟩
  ·have x1:=(aJ toks st).1
   have x2:=(yJ toks (ay toks st)).1;have x3:=Qr hE [[40]] (lD toks (ay toks st)).2;generalize (aA toks [[40]] (lD toks (ay toks st)).2)=b at x3
   have hl:∃ l,jf toks (fun s=>run toks depth g (.expr (nest+1)) s) b.2=some l:=by
    unfold jf
    split
    ·exact⟨_,rfl⟩
    ·refine nR toks _ (st.used+1) (fun s hs=>?_) _ _ _ (x3.imp (by omega) id)
     have hlt:st.used<toks.length:=hl0;obtain⟨k,hk⟩:=ih (.expr (nest+1)) s trivial (by simp only[dU,jg];omega);exact⟨k,hk,aN toks depth g _ _ _ hk⟩
   obtain⟨l,hl⟩:=hl;rw[hl,Option.bind_some];exact⟨_,rfl⟩
inductive PT where
 | leaf
 | node (k:Nat) (l:List PT)
mutual
def PT.lv:PT→Nat
 | .leaf=>1
 | .node _ l=>bB l
def bB:List PT→Nat
 | []=>0
 | t :: l=>t.lv+bB l
end
mutual
def PT.nd:PT→Nat
 | .leaf=>1
 | .node _ l=>dI l+1
def dI:List PT→Nat
 | []=>0
 | t :: l=>t.nd+dI l
end
def bM (b:Nat):List PT→List Int
 | []=>[]
 | t :: l=>(((b+t.nd:Nat):Int) - 1) :: bM (b+t.nd) l
mutual
def PT.em (b u:Nat):PT→List Nd
 | .leaf=>[⟨19,(u:Nat),[]⟩]
 | .node k l=>wL b u l++[⟨k,-1,bM b l⟩]
def wL (b u:Nat):List PT→List Nd
 | []=>[]
 | t :: l=>t.em b u++wL (b+t.nd) (u+t.lv) l
end
theorem gZ:∀ (l k:List PT),bB (l++k)=bB l+bB k
 | [],k=>by simp[bB]
 | t :: l,k=>by simp only[List.cons_append,bB,gZ l k];omega
theorem lI:∀ (l k:List PT),dI (l++k)=dI l+dI k
 | [],k=>by simp[dI]
 | t :: l,k=>by simp only[List.cons_append,dI,lI l k];omega
theorem mH:∀ (b:Nat) (l k:List PT),bM b (l++k)=bM b l++bM (b+dI l) k
 | b,[],k=>by simp[bM,dI]
 | b,t :: l,k=>by simp only[List.cons_append,bM,mH _ l k,dI];rw[Nat.add_assoc]
theorem Bf:∀ (b u:Nat) (l k:List PT),wL b u (l++k)=wL b u l++wL (b+dI l) (u+bB l) k
 | b,u,[],k=>by simp[wL,dI,bB]
 | b,u,t :: l,k=>by simp only[List.cons_append,wL,Bf _ _ l k,dI,bB,List.append_assoc];rw[Nat.add_assoc,Nat.add_assoc]
mutual
theorem PT.sj (b u:Nat):∀ (t:PT),(t.em b u).length=t.nd
 | .leaf=>by simp[PT.em,PT.nd]
 | .node k l=>by simp[PT.em,PT.nd,wM b u l]
theorem wM (b u:Nat):∀ (l:List PT),(wL b u l).length=dI l
 | []=>by simp[wL,dI]
 | t :: l=>by rw[wL,dI,bP,PT.sj b u t,wM _ _ l]
end
theorem PT.gq (t:PT):0<t.nd:=by cases t<;>simp[PT.nd]
theorem vv:∀ (b:Nat) (l:List PT) (k:Int),k∈bM b l→(b:Int)≤k∧k<((b+dI l:Nat):Int)
 | _,[],k,h=>by cases h
 | b,t :: l,k,h=>by
  have hp:=t.gq;rw[bM,List.mem_cons] at h;rw[dI]
  rcases h with rfl|h
  ·omega
  ·have:=vv _ l k h
   omega
def dR (st:aB)(l:List PT)(st':aB):Prop:=st'={ st with nodes:=st.nodes++wL st.nodes.length st.used l,used:=st.used+bB l }
theorem dR.nil (st:aB):dR st [] st:=by simp[dR,wL,bB]
theorem dR.append {a b c:aB}{l k:List PT}(h:dR a l b)(h2:dR b k c):dR a (l++k) c:=by
 rw[dR] at h h2 ⊢;rw[h2,h];simp only[bP,wM,Bf,gZ,List.append_assoc,Nat.add_assoc]
theorem dR.len {a b:aB}{l:List PT}(h:dR a l b):b.nodes.length=a.nodes.length+dI l:=by rw[h];simp[wM]
theorem dR.used {a b:aB}{l:List PT}(h:dR a l b):b.used=a.used+bB l:=by rw[h]
theorem dR.clause {a b:aB}{l:List PT}(h:dR a l b):b.clause=a.clause:=by rw[h]
theorem dR.fE {a b:aB}{l:List PT}(h:dR a l b):b.fE=a.fE:=by rw[h]
theorem dR.leaf {toks:List Tok}{st:aB}(h:st.used+1≤toks.length):dR st [.leaf] (ay toks st).2∧(ay toks st).1=((st.nodes.length:Nat):Int):=by
 unfold ay;rw[if_neg (by omega)];exact⟨by simp[dR,wL,PT.em,bB,PT.lv],rfl⟩
theorem dR.node {a b:aB}{l:List PT}(h:dR a l b)(hf:b.fE=0)(k:Nat):dR a [.node k l] (aY k (bM a.nodes.length l) b).2∧(aY k (bM a.nodes.length l) b).1=((a.nodes.length+dI l:Nat):Int):=by
 have hlen:=h.len;unfold aY;rw[if_pos hf];unfold El;rw[if_neg]
 ·refine⟨?_,by rw[hlen]⟩
  rw[dR] at h ⊢;rw[h];simp[wL,PT.em,bB,PT.lv]
 ·intro q
  obtain⟨x,hx,hy⟩:=List.any_eq_true.1 q;have:=vv _ _ _ hx;simp only[Bool.or_eq_true,decide_eq_true_eq] at hy;omega
inductive CE where
 | num|truth|res|Jj
 | group (e:CE)
 | un (e:CE)
 | bin (a b:CE)
 | iff (a b c:CE)
 | pF (a b:CE)
 | pG (a b:CE)
 | call (q:Bool) (l:List CE)
mutual
def CE.pt:CE→PT
 | .num=>.node 15 [.leaf]
 | .truth=>.node 16 [.leaf]
 | .res=>.node 17 [.leaf]
 | .Jj=>.node 14 [.leaf]
 | .group e=>.node 12 [.leaf,e.pt,.leaf]
 | .un e=>.node 11 [.leaf,e.pt]
 | .bin a b=>.node 10 [a.pt,.leaf,b.pt]
 | .iff a b c=>.node 8 [.leaf,a.pt,.leaf,b.pt,.leaf,c.pt]
 | .pF a b=>.node 7 [.leaf,.leaf,.leaf,a.pt,.leaf,b.pt]
 | .pG a b=>.node 9 [.leaf,a.pt,.leaf,b.pt]
 | .call q l=>.node 13 ((if q then [.leaf,.leaf,.leaf] else [.leaf])++[.leaf]++dS l++[.leaf])
def dS:List CE→List PT
 | []=>[]
 | e :: l=>e.pt :: (match l with | []=>[]|_ :: _=>.leaf :: dS l)
end
theorem qQ (e:CE):dS [e]=[e.pt]:=by simp[dS]
theorem lJ (e f:CE)(l:List CE):dS (e :: f :: l)=e.pt :: .leaf :: dS (f :: l):=by
 conv=>lhs;rw[dS]
def aI (toks:List Tok)(u:Nat):List UInt8:=(bL toks u).text
def gu (toks:List Tok)(u:Nat):Nat:=(bL toks u).kind
def nS:List (List UInt8):=[[43],[45],[42],[47],[37],[61],[60,62],[60],[60,61],[62],[62,61],[38,38],[124,124],[61,62]]
mutual
def CE.ok (toks:List Tok)(cl:Bool)(u:Nat):CE→Prop
 | .num=>gu toks u=3
 | .truth=>aI toks u=OX∨aI toks u=Mg
 | .res=>cl=true∧aI toks u=aaw
 | .Jj=>gu toks u=1
 | .group e=>aI toks u=[40]∧e.ok toks cl (u+1)
 | .un e=>(aI toks u=Yb∨aI toks u=[45])∧e.ok toks cl (u+1)
 | .bin a b=>aI toks (u+a.pt.lv)∈nS∧a.ok toks cl u∧b.ok toks cl (u+a.pt.lv+1)
 | .iff a b c=>cl=false∧a.ok toks cl (u+1)∧b.ok toks cl (u+1+a.pt.lv+1)∧c.ok toks cl (u+1+a.pt.lv+1+b.pt.lv+1)
 | .pF a b=>cl=false∧gu toks (u+1)=1∧a.ok toks cl (u+3)∧b.ok toks cl (u+3+a.pt.lv+1)
 | .pG a b=>cl=false∧a.ok toks cl (u+1)∧b.ok toks cl (u+1+a.pt.lv+1)
 | .call q l=>cl=false∧gu toks u=1∧l.length≤8∧(if q then aI toks (u+1)=[46]∧gu toks (u+2)=1∧mU toks cl (u+4) l else aI toks (u+1)=[40]∧mU toks cl (u+2) l)
def mU (toks:List Tok)(cl:Bool)(u:Nat):List CE→Prop
 | []=>True
 | e :: l=>e.ok toks cl u∧mU toks cl (u+e.pt.lv+1) l
end
def Te (toks:List Tok)(st:aB)(r:Int × aB)(e:CE):Prop :=
 dR st [e.pt] r.2∧r.1=((st.nodes.length+e.pt.nd:Nat):Int) - 1∧e.ok toks st.clause st.used∧(st.used<toks.length→r.2.used<toks.length)
end Go.Proofs.YtknicmmigbhpcaaGreatDoor
