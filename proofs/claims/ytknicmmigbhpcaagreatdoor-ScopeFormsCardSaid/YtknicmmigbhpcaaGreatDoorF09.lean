/- Walks and plain laws: MapCopy, MapS2, MapS3, Builder, LexWhole. -/
import Derived.Shelf.Spec.SlicesInsert
import Derived.Lib.AppendZerosOnto
import Derived.Laws.CopyOwn
import Derived.Test.YtknicmmigbhpcaaGreatDoorF08
set_option maxHeartbeats 16000000
set_option maxRecDepth 100000
set_option linter.unusedVariables false
set_option linter.unusedSimpArgs false
namespace Go.Proofs.YtknicmmigbhpcaaGreatDoor
open Go.RowKit Go
theorem mZ {P:Program}(w:World)(dT sT ty elem:TypeId)(k g o dLen dCap:Nat)(a:Addr)(sLen sCap:Nat)(cur:Array Value)(t:TypeId)(cs:List Value)
  (hu:P.underlying dT=some (.slice elem)) (hs:(P.info? elem).map (·.size)=some k) (hg:w.heap[g]?=some (.cells cur t (0,0))) (hn:cs.length=Nat.min sLen dLen * k)
  (hsrc:∀ j v,cs[j]?=some v→w.cell? (a.add j)=some v) (hfit:o+cs.length≤cur.size) (h1:∀ v∈cs,v.oneCell'=true) :
  (Builtin.copy_ #[dT,sT] ty #[.slice (some ⟨g,o,none⟩) dLen dCap,.slice (some a) sLen sCap]).run P w =
   .ok (goInt (Nat.min sLen dLen)) (w.setRow g (cur.toList.take o++cs++cur.toList.drop (o+cs.length)).toArray):=by
 have hf:=run_firstCells_some (P:=P) w k (Nat.min sLen dLen) a sLen sCap cs hn hsrc;have hst:=run_storeCells_at P g o t cs 0 cur w hg (by simpa using hfit) h1
 cases hq:P.info? elem with
 | none=>simp[hq] at hs
 | some i =>
  have hi:i.size=k:=by simpa [hq] using hs
  simp[Builtin.copy_,run_underlying hu,Builtin.lenOf,sizeOf,typeInfo,hq,hi,hf,hst]
theorem KA {w:World}{g n:Nat}{cur:Array Value}{t:TypeId}{fr:Nat × Nat}(h:w.heap[g]?=some (.cells cur t fr))(hn:cur.size=n):w.shape? g=some (t,n):=by
 subst hn;simp only[World.shape?,h]
theorem setRow_size (w:World)(g:Nat)(A:Array Value):(w.setRow g A).heap.size=w.heap.size:=by simp[World.setRow]
theorem xR {w:World}{g:Nat}{cur:Array Value}{t:TypeId}(hg:w.heap[g]?=some (.cells cur t (0,0))){j:Nat}{v:Value}(h:cur.toList[j]?=some v):w.cell? ⟨g,j,none⟩=some v:=by
 simp only[World.cell?,hg];rw[Array.getElem?_toList] at h
 simpa using h
theorem NZ (cur:List Value)(n i k:Nat)(hi:i≤n)(hc:(n+1) * k≤cur.length)(nw row:List Value)(hr:cur.take (n * k)=row)(hw:nw.length=k) :
  let c1:=cur.take ((i+1) * k)++row.drop (i * k)++cur.drop ((i+1) * k+(row.drop (i * k)).length)
  let c2:=c1.take (i * k)++nw++c1.drop (i * k+nw.length)
  c1.length=cur.length∧c2.length=cur.length∧c2.take ((n+1) * k)=row.take (i * k)++(nw++row.drop (i * k)):=by
 have e1:(n+1) * k=n * k+k:=Nat.succ_mul n k;have e2:(i+1) * k=i * k+k:=Nat.succ_mul i k;have e3:i * k≤n * k:=Nat.mul_le_mul_right k hi;rw[e1] at hc
 have hrl:row.length=n * k:=by rw[← hr,List.length_take];omega
 have hd:(row.drop (i * k)).length=n * k - i * k:=by rw[List.length_drop,hrl]
 simp only[e1,e2,hd,hw];generalize hN:n * k=N at *;generalize hI:i * k=I at *
 have hl1:(cur.take (I+k)++row.drop I++cur.drop (I+k+(N - I))).length=cur.length:=by
  rw[bC,bC,List.length_take,List.length_drop,List.length_drop,hrl];omega
 refine⟨hl1,?_,?_⟩
 ·rw[bC,bC,List.length_take,List.length_drop,hl1,hw];omega
 ·have ht:(cur.take (I+k)++row.drop I++cur.drop (I+k+(N - I))).take I=row.take I:=by
   rw[List.append_assoc,List.take_append_of_le_length (by rw[List.length_take];omega),List.take_take,Nat.min_eq_left (by omega),← hr,List.take_take,Nat.min_eq_left e3]
  have hdr:(cur.take (I+k)++row.drop I++cur.drop (I+k+(N - I))).drop (I+k)=row.drop I++cur.drop (I+k+(N - I)):=by
   rw[List.append_assoc,List.drop_append_of_le_length (by rw[List.length_take];omega),List.drop_of_length_le (by rw[List.length_take];omega),List.nil_append]
  rw[ht,hdr,List.append_assoc]
  have hlt:(row.take I).length=I:=by rw[List.length_take,hrl];omega
  rw[List.take_append,List.take_of_length_le (l:=row.take I) (by rw[hlt];omega),hlt,List.take_append,List.take_of_length_le (l:=nw) (by rw[hw];omega),hw,List.take_append,List.take_of_length_le (l:=row.drop I) (by rw[hd];omega),hd];rw[show N+k - I - k - (N - I)=0 by omega,List.take_zero,List.append_nil]
theorem KC (R:List Value)(n i k:Nat)(hi:i≤n)(hc:(n+1) * k≤R.length)(nw row:List Value)(hr:R.take (i * k)=row.take (i * k))(hrl:row.length=n * k)(hw:nw.length=k) :
  let c1:=R.take (i * k)++nw++R.drop (i * k+nw.length)
  let c2:=c1.take ((i+1) * k)++row.drop (i * k)++c1.drop ((i+1) * k+(row.drop (i * k)).length)
  c1.length=R.length∧c2.length=R.length∧c2.take ((n+1) * k)=row.take (i * k)++(nw++row.drop (i * k)):=by
 have e1:(n+1) * k=n * k+k:=Nat.succ_mul n k;have e2:(i+1) * k=i * k+k:=Nat.succ_mul i k;have e3:i * k≤n * k:=Nat.mul_le_mul_right k hi;rw[e1] at hc
 have hd:(row.drop (i * k)).length=n * k - i * k:=by rw[List.length_drop,hrl]
 simp only[e1,e2,hd,hw];generalize hN:n * k=N at *;generalize hI:i * k=I at *
 have hl0:(R.take I).length=I:=by rw[List.length_take];omega
 have hl1:(R.take I++nw++R.drop (I+k)).length=R.length:=by
  rw[bC,bC,hl0,List.length_drop,hw];omega
 refine⟨hl1,?_,?_⟩
 ·rw[bC,bC,List.length_take,hd,List.length_drop,hl1];omega
 ·have ht:(R.take I++nw++R.drop (I+k)).take (I+k)=row.take I++nw:=by
   rw[List.take_append_of_le_length (by rw[bC,hl0,hw];omega),List.take_of_length_le (by rw[bC,hl0,hw];omega),hr]
  have hl2:(row.take I).length=I:=by rw[← hr,hl0]
  rw[ht,List.append_assoc,List.append_assoc,List.take_append,List.take_of_length_le (l:=row.take I) (by rw[hl2];omega),hl2,List.take_append,List.take_of_length_le (l:=nw) (by rw[hw];omega),hw,List.take_append,List.take_of_length_le (l:=row.drop I) (by rw[hd];omega),hd];rw[show N+k - I - k - (N - I)=0 by omega,List.take_zero,List.append_nil]
end Go.Proofs.YtknicmmigbhpcaaGreatDoor

namespace Go.Proofs.YtknicmmigbhpcaaGreatDoor
open Go.RowKit Go Go.Lib
theorem Tryz.zm:(Tryz.prog.info? 170).map (fun i=>(i.zero,i.size,i.bytes))=some (some (.agg #[.string ⟨#[]⟩,.string ⟨#[]⟩,.slice none 0 0,.int .i64 0,.slice none 0 0]),5,88):=by kernel_rfl
def N7 (B:Nat)(v:Value)(l:ML)(x:List UInt8)(vs:List Value)(w:World)(e:Ending)(w':World):Prop :=
 ∃ g cap,e=.returned (.slice (some ⟨g,0,none⟩) (l.length+1) cap)∧w'.ownsRow B 170 5 (.slice (some ⟨g,0,none⟩) (l.length+1) cap) (l.length+1) (jo (qp l x vs))∧w.grownBy w' v.ownBlock∧(v.ownBlock=some g∨w.heap.size≤g)
theorem AY (B sb:Nat)(v:Value)(l:ML)(x:List UInt8)(vs:List Value)(w:World)(hw:Ab 4 l)(hB:B≤w.heap.size)(hn:l.length≤1000000)(hp:bE l x=l.length)(hvl:vs.length=4)(h1:∀ u∈vs,u.oneCell'=true)
  (hown:w.ownsRow B 170 5 v l.length (jo l)) (hsb:w.heap[sb]?=some (.cells (bY (x,vs)).toArray 170 (0,0))) :
  Calls Tryz.prog 84 #[v,.int .i64 l.length,.slice (some ⟨sb,0,none⟩) 1 1] w (N7 B v l x vs w):=by
 obtain⟨i0,hi,hz0,hz1,hz2⟩:=info_parts Tryz.zm
 have hrow:jo (qp l x vs)=jo l++bY (x,vs):=by
  rw[BA l x vs hw.wid,hp,List.take_of_length_le (by rw[oI hw.wid];omega),List.drop_of_length_le (by rw[oI hw.wid];omega),List.append_nil]
 have hnl:(bY (x,vs)).length=1 * 5:=by rw[bY,dI,hvl]
 have hn1:∀ u∈bY (x,vs),u.oneCell'=true:=fun u hu=>by
  rcases List.mem_cons.1 hu with q|q
  ·rw[q];rfl
  ·exact h1 u q
 have HW:=ah hown;have HR:=ah hrow;have hnews:=World.news_of_block hsb;unfold N7;generalize hmr:jo l=mr at *;generalize jo (qp l x vs)=mr' at *;generalize hmc:bY (x,vs)=mc at *;generalize hnn:l.length=n at *;clear hrow hp hmr hmc hw hsb hnn
 rcases hown.2 with ⟨rfl,rfl⟩|⟨g,cap,cur,rfl,hg,hh,hnc,hm,hs,hx⟩
 ·clear hown
  go_enter Tryz.func84,Tryz.ntmps84;go_wp2_with (at_builtin;refine wpList_append_lies _ rfl _ _ 163 rfl B 170 i0 _ 5 88 Tryz.underlying163 hi hz0 hz1 hz2 rfl (by decide) _ 0 _ rfl HW.out ⟨sb,0,none⟩ 1 1 _ rfl hnl hnews hn1 (by decide) (by unfold maxLen;omega) (by omega) hB _ rfl ?_;intro g cap w' hown' hgrow hor hlt);go_ret;exact⟨g,cap,rfl,by rw[HR.out];exact hown',hgrow,hor.imp id (fun q=>by omega)⟩
 ·clear hown hh hs hx hg
  unfold maxLen at hm;go_enter Tryz.func84,Tryz.ntmps84;go_wp2_with (at_builtin;refine wpList_append_lies _ rfl _ _ 163 rfl B 170 i0 _ 5 88 Tryz.underlying163 hi hz0 hz1 hz2 rfl (by decide) _ n _ rfl HW.out ⟨sb,0,none⟩ 1 1 _ rfl hnl hnews hn1 (by decide) (by unfold maxLen;omega) (by omega) hB _ rfl ?_;intro g cap w' hown' hgrow hor hlt)
  all_goals
   go_ret;exact⟨g,cap,rfl,by rw[HR.out];exact hown',hgrow,hor.imp id (fun q=>by omega)⟩
theorem Ci (B sb g c:Nat)(l:ML)(x:List UInt8)(vs:List Value)(w:World)(hw:Ab 4 l)(hn:l.length≤1000000)(hp:bE l x<l.length)(hvl:vs.length=4)(h1:∀ u∈vs,u.oneCell'=true)(hroom:l.length+1≤c)
  (hown:w.ownsRow B 170 5 (.slice (some ⟨g,0,none⟩) l.length c) l.length (jo l)) (hsb:w.heap[sb]?=some (.cells (bY (x,vs)).toArray 170 (0,0))) (hne:sb≠g) :
  Calls Tryz.prog 84 #[.slice (some ⟨g,0,none⟩) l.length c,.int .i64 (bE l x:Nat),.slice (some ⟨sb,0,none⟩) 1 1] w (N7 B (.slice (some ⟨g,0,none⟩) l.length c) l x vs w):=by
 obtain⟨i0,hi0,hz0,hzs,hzb⟩:=info_parts Tryz.zm
 have hsz:(Tryz.prog.info? 170).map (·.size)=some 5:=by rw[hi0];simp[hzs]
 have hnl:(bY (x,vs)).length=5:=by rw[bY,dI,hvl]
 have hn1:∀ u∈bY (x,vs),u.oneCell'=true:=fun u hu=>by
  rcases List.mem_cons.1 hu with q|q
  ·rw[q];rfl
  ·exact h1 u q
 have Zj:w.heap[sb]?=some (.cells (bY (x,vs)).toArray 170 (0,0)):=hsb
 have aea:(bY (x,vs)).toArray.size=5:=by rw[List.size_toArray,hnl]
 have hr1:=JI hw;have hrl:=oI hw.wid;have hnews:=World.news_of_block hsb;have hrow:=BA l x vs hw.wid
 rcases hown.2 with ⟨hv,_⟩|⟨g',cap',cur,hv,hg,hh,hnc,hm,hs,hx⟩
 ·cases hv
 simp only[Value.slice.injEq,Option.some.injEq,Addr.mk.injEq,and_true] at hv;obtain⟨rfl,-,rfl⟩:=hv;unfold maxLen at hm
 have hcl:cur.toList.length=c * 5:=by rw[Array.length_toList,hs]
 have hins:=NZ cur.toList l.length (bE l x) 5 (Nat.le_of_lt hp) (by omega) (bY (x,vs)) (jo l) hx hnl;simp only at hins;obtain⟨k1,k2,k3⟩:=hins;rw[← hrow] at k3;unfold N7;generalize jo (qp l x vs)=mr' at *;generalize hmr:jo l=mr at *;generalize hmc:bY (x,vs)=mc at *;generalize hii:bE l x=i at *;generalize hnn:l.length=n at *;clear hrow hmr hmc hw hsb hnn hii h1 hvl
 have hdl:(mr.drop (i * 5)).length=(n - i) * 5:=by rw[List.length_drop,hrl];omega
 -- the two copies
 obtain⟨c1,hc1⟩:∃ c1,c1=cur.toList.take ((i+1) * 5)++mr.drop (i * 5)++cur.toList.drop ((i+1) * 5+(mr.drop (i * 5)).length):=⟨_,rfl⟩
 rw[← hc1] at k1 k2 k3
 have hcp1:∀ (W:World),W.heap[g]?=some (.cells cur 170 (0,0))→∀ ty dc sc,(Builtin.copy_ #[163,163] ty #[.slice (some ⟨g,(i+1) * 5,none⟩) (n - i) dc,.slice (some ⟨g,i * 5,none⟩) (n+1 - i) sc]).run Tryz.prog W=.ok (goInt (n - i:Nat)) (W.setRow g c1.toArray):=fun W hW ty dc sc=>by
  have hmin:Nat.min (n+1 - i) (n - i)=n - i:=by simp only[Nat.min_def];split<;>omega
  have:=mZ (P:=Tryz.prog) W 163 163 ty 170 5 g ((i+1) * 5) (n - i) dc ⟨g,i * 5,none⟩ (n+1 - i) sc cur _ (mr.drop (i * 5)) Tryz.underlying163 hsz hW (by rw[hmin,hdl])
   (fun j v hj=>by
    rw[List.getElem?_drop,← hx] at hj;rw[List.getElem?_take] at hj
    split at hj
    ·rw[Addr.add_lit]
     exact xR hW hj
    ·cases hj) (by rw[hdl,hs];omega) (fun v hv=>hr1 v (List.mem_of_mem_drop hv))
  rw[hmin,← hc1] at this;exact this
 obtain⟨c2,hc2⟩:∃ c2,c2=c1.take (i * 5)++mc++c1.drop (i * 5+mc.length):=⟨_,rfl⟩
 rw[← hc2] at k2 k3
 have hcp2:∀ (W:World),W.heap[g]?=some (.cells c1.toArray 170 (0,0))→(∀ j u,mc[j]?=some u→W.cell? ((⟨sb,0,none⟩:Addr).add j)=some u)→∀ ty dc,(Builtin.copy_ #[163,163] ty #[.slice (some ⟨g,i * 5,none⟩) (n+1 - i) dc,.slice (some ⟨sb,0,none⟩) 1 1]).run Tryz.prog W=.ok (goInt 1) (W.setRow g c2.toArray):=fun W hW hsrc ty dc=>by
  have hmin:Nat.min 1 (n+1 - i)=1:=by simp only[Nat.min_def];split<;>omega
  have:=mZ (P:=Tryz.prog) W 163 163 ty 170 5 g (i * 5) (n+1 - i) dc ⟨sb,0,none⟩ 1 1 c1.toArray _ mc Tryz.underlying163 hsz hW (by rw[hmin,hnl]) hsrc (by rw[List.size_toArray,k1,hnl,hcl];omega) hn1;rw[hmin,List.toList_toArray,← hc2] at this;exact this
 have hbg:g<w.heap.size:=(bQ hh).1
 have hov:∀ lb cb,(callFunc 140 #[.slice (some ⟨sb,0,none⟩) 1 1,.slice (some ⟨g,(i+1) * 5,none⟩) lb cb]).run Tryz.prog w=.ok (.value (.bool false)) w:=fun lb cb=>by
  rw[run_callFunc_extern Tryz.func140 (by kernel_rfl) (by kernel_rfl) (by kernel_rfl) (e:=Extern.SlicesOverlaps.overlaps #[163,163] #[4]) (by kernel_rfl),
   Lib.run_overlaps_apart w 163 4 170 Tryz.underlying163 5 Tryz.sizeOf170 ⟨sb,0,none⟩ ⟨g,(i+1) * 5,none⟩ 1 1 lb cb hne 170 170 5 (c * 5) (KA Zj aea) (KA hh hs) (by omega) (by simp[World.frozen?,Zj]) (by simp[World.frozen?,Zj])]
  rfl
 have hcpA:=hcp1 w.drew hh;have hw1:(w.drew.setRow g c1.toArray).heap[g]?=some (.cells c1.toArray 170 (0,0)):=setRow_heap w.drew g cur _ _ _ hh
 have hcpB:=hcp2 (w.drew.setRow g c1.toArray) hw1 (fun j u hj=>by
  rw[show (w.drew.setRow g c1.toArray).cell? ((⟨sb,0,none⟩:Addr).add j)=w.cell? ((⟨sb,0,none⟩:Addr).add j) from by
   rw[Addr.add_lit]
   exact World.cell?_of_block (a:=⟨sb,0+j,none⟩) (setRow_other w.drew g sb _ hne)]
  exact hnews j u (by simpa using hj))
 have hw2:((w.drew.setRow g c1.toArray).setRow g c2.toArray).heap[g]?=some (.cells c2.toArray 170 (0,0)):=setRow_heap _ g _ _ _ _ hw1
 have hgr:w.grownBy ((w.drew.setRow g c1.toArray).setRow g c2.toArray) (some g):=⟨rfl,rfl,rfl,by rw[setRow_size,setRow_size];exact Nat.le_refl _,fun k hk hkg=>by
  have hkn:k≠g:=fun q=>hkg (by rw[q])
  rw[setRow_other _ g k _ hkn,setRow_other _ g k _ hkn]
  rfl⟩
 have mixed:Tryz.prog.follows .mixedOrders=true:=by kernel_rfl
 have hwr:IntKind.i64.wrap ((i:Int)+1)=(i:Int)+1:=by rw[IntKind.wrap_i64];omega
 have hb1:(0:Int)≤(i:Int)+1:=by omega
 have hb5:(i:Int)+1≤(n:Int)+1:=by omega
 have htn:((i:Int)+1).toNat=i+1:=by omega
 have hb2:¬ (c=i+1):=by omega
 have hb3:(i:Int)≤(n:Int)+1:=by omega
 have hb4:¬ (c=i):=by omega
 have hiI:¬ ((i:Int)=(n:Int)):=by omega
 have HK:=ah k3;clear hcp1 hcp2 hw1 Zj hc1 hc2 hdl k3 hx hown hrl;go_enter Tryz.func84,Tryz.ntmps84;go_wp2_with (simp only[hov])
 go_region_law_o (refine step_copy_runI rfl _ _ 163 163 rfl _ _ (by simp[Act.eval,Act.put]) (by simp[Act.eval,Act.put]) (hcpA _ _ _) ?_)
 go_wp2_with (at_builtin;refine wpList_copy_runI _ rfl _ _ 163 163 rfl _ _ rfl rfl (hcpB _ _) ?_);go_ret;exact⟨g,c,rfl,⟨by rw[← HK.out,List.length_take,k2,hcl];omega,.inr ⟨g,c,c2.toArray,rfl,hg,hw2,hroom,by unfold maxLen;exact hm,by rw[List.size_toArray,k2,hcl],by rw[List.toList_toArray];exact HK.out⟩⟩,hgr,.inl rfl⟩
theorem AZ (B sb g c:Nat)(l:ML)(x:List UInt8)(vs:List Value)(w:World)(hw:Ab 4 l)(hB:B≤w.heap.size)(hn:l.length≤1000000)(hp:bE l x<l.length)(hvl:vs.length=4)(h1:∀ u∈vs,u.oneCell'=true)(hroom:c<l.length+1)
  (hown:w.ownsRow B 170 5 (.slice (some ⟨g,0,none⟩) l.length c) l.length (jo l)) (hsb:w.heap[sb]?=some (.cells (bY (x,vs)).toArray 170 (0,0))) :
  Calls Tryz.prog 84 #[.slice (some ⟨g,0,none⟩) l.length c,.int .i64 (bE l x:Nat),.slice (some ⟨sb,0,none⟩) 1 1] w (N7 B (.slice (some ⟨g,0,none⟩) l.length c) l x vs w):=by
 obtain⟨i0,hi0,hz0,hzs,hzb⟩:=info_parts Tryz.zm
 have hsz:(Tryz.prog.info? 170).map (·.size)=some 5:=by rw[hi0];simp[hzs]
 have hnl:(bY (x,vs)).length=5:=by rw[bY,dI,hvl]
 have hn1:∀ u∈bY (x,vs),u.oneCell'=true:=fun u hu=>by
  rcases List.mem_cons.1 hu with q|q
  ·rw[q];rfl
  ·exact h1 u q
 have hr1:=JI hw;have hrl:=oI hw.wid;have hnews:=World.news_of_block hsb;have hrow:=BA l x vs hw.wid
 rcases hown.2 with ⟨hv,_⟩|⟨g',cap',cur,hv,hg,hh,hnc,hm,hs,hx⟩
 ·cases hv
 simp only[Value.slice.injEq,Option.some.injEq,Addr.mk.injEq,and_true] at hv;obtain⟨rfl,-,rfl⟩:=hv;have hbs:=(bQ hsb).1;have hbg:=(bQ hh).1;unfold N7;generalize jo (qp l x vs)=mr' at *;generalize hmr:jo l=mr at *;generalize hmc:bY (x,vs)=mc at *;generalize hii:bE l x=i at *;generalize hnn:l.length=n at *;clear hmr hmc hw hsb hnn hii h1 hvl hown
 obtain rfl:c=n:=by omega
 have hdl:(mr.drop (i * 5)).length=(c - i) * 5:=by rw[List.length_drop,hrl];omega
 have hcg:∀ j v,mr[j]?=some v→w.cell? ⟨g,j,none⟩=some v:=fun j v hj=>by
  rw[← hx,List.getElem?_take] at hj
  split at hj
  ·exact xR hh hj
  ·cases hj
 have hold:(Builtin.firstCells i0.size i (.slice (some ⟨g,0,none⟩) i c)).run Tryz.prog w.drew=.ok (mr.take (i * 5)).toArray w.drew:=by
  rw[hzs]
  exact run_firstCells_some w.drew 5 i ⟨g,0,none⟩ i c (mr.take (i * 5)) (by rw[List.length_take];omega) (fun j v hj=>by
   rw[Addr.add_lit,Nat.zero_add];rw[List.getElem?_take] at hj
   split at hj
   ·exact hcg j v hj
   ·cases hj)
 have hik:i+(c+1 - i)=c+1:=by omega
 have hkk:(c:Int)+1 - (i:Int)=((c+1 - i:Nat):Int):=by omega
 obtain⟨z,hz⟩:∃ z:Value,z=.agg #[.string ⟨#[]⟩,.string ⟨#[]⟩,.slice none 0 0,.int .i64 0,.slice none 0 0]:=⟨_,rfl⟩
 rw[← hz] at hz0
 have hrz:∀ ty,(Builtin.append_ #[163,3] ty #[.slice (some ⟨g,0,none⟩) i c,.int .i64 ((c:Int)+1 - (i:Int))]).run Tryz.prog w =
   .ok (.slice (some ⟨w.heap.size,0,none⟩) (c+1) (grownCap w (c+1) c 170)) (w.drew.alloc (.cells ((mr.take (i * 5)).toArray++Builtin.zeroCells z.cells (c+1 - i)++Builtin.zeroCells z.cells (grownCap w (c+1) c 170 - (c+1))) 170)):=fun ty=>by
  have h:=Lib.run_append_grow_zeros w 163 3 ty 170 i0 z .i64 .i64 Tryz.underlying163 Tryz.underlying3 hi0 hz0 (some ⟨g,0,none⟩) i c (mr.take (i * 5)) hold (c+1 - i) (by omega) (by omega) (by omega) (by omega) (by rw[hzb];omega) (by rw[hzb,hik];exact growslice_fits hroom (by omega));rw[hik] at h;rw[hkk];exact h
 have hGn:c+1≤grownCap w (c+1) c 170:=grownCap_ge w _ _ _
 have hG63:grownCap w (c+1) c 170≤9223372036854775807:=by
  have:=grownCap_le_maxLen w (c+1) c 170 (by unfold maxLen;omega);unfold maxLen at this;omega
 generalize grownCap w (c+1) c 170=G at *
 have hzc:∀ k,(Builtin.zeroCells z.cells k).size=k * 5:=fun k=>by rw[hz];simp[Builtin.zeroCells,Value.cells]
 obtain⟨ROW,hROW⟩:∃ ROW:Array Value,ROW=(mr.take (i * 5)).toArray++Builtin.zeroCells z.cells (c+1 - i)++Builtin.zeroCells z.cells (G - (c+1)):=⟨_,rfl⟩
 have hRl:ROW.toList.length=G * 5:=by
  rw[hROW,Array.length_toList,Array.size_append,Array.size_append,hzc,hzc,List.size_toArray,List.length_take,hrl];omega
 have hRt:ROW.toList.take (i * 5)=mr.take (i * 5):=by
  rw[hROW,Array.toList_append,Array.toList_append,List.append_assoc,List.take_append_of_le_length (by rw[List.toList_toArray,List.length_take];omega),List.toList_toArray,List.take_take,Nat.min_self]
 rw[← hROW] at hrz
 obtain⟨W1,hW1⟩:∃ W1,W1=w.drew.alloc (.cells ROW 170):=⟨_,rfl⟩
 rw[← hW1] at hrz
 have a1:W1.heap[w.heap.size]?=some (.cells ROW 170 (0,0)):=by rw[hW1];exact heap_alloc_new w.drew _
 have a2:∀ k,k<w.heap.size→W1.heap[k]?=w.heap[k]?:=fun k hk=>by rw[hW1];exact Lib.alloc_old w.drew _ k hk
 have a3:W1.heap.size=w.heap.size+1:=by rw[hW1];simp
 have a4:W1.os=w.os∧W1.tape=w.tape∧W1.output=w.output:=by rw[hW1];exact⟨rfl,rfl,rfl⟩
 have hins:=KC ROW.toList c i 5 (Nat.le_of_lt hp) (by rw[hRl];omega) mc mr hRt hrl hnl;simp only at hins;obtain⟨k1,k2,k3⟩:=hins;rw[← hrow] at k3
 obtain⟨c1,hc1⟩:∃ c1,c1=ROW.toList.take (i * 5)++mc++ROW.toList.drop (i * 5+mc.length):=⟨_,rfl⟩
 rw[← hc1] at k1 k2 k3
 obtain⟨c2,hc2⟩:∃ c2,c2=c1.take ((i+1) * 5)++mr.drop (i * 5)++c1.drop ((i+1) * 5+(mr.drop (i * 5)).length):=⟨_,rfl⟩
 rw[← hc2] at k2 k3
 have hcpA:∀ ty dc,(Builtin.copy_ #[163,163] ty #[.slice (some ⟨w.heap.size,i * 5,none⟩) (c+1 - i) dc,.slice (some ⟨sb,0,none⟩) 1 1]).run Tryz.prog W1=.ok (goInt 1) (W1.setRow w.heap.size c1.toArray):=fun ty dc=>by
  have hmin:Nat.min 1 (c+1 - i)=1:=by simp only[Nat.min_def];split<;>omega
  have:=mZ (P:=Tryz.prog) W1 163 163 ty 170 5 w.heap.size (i * 5) (c+1 - i) dc ⟨sb,0,none⟩ 1 1 ROW _ mc Tryz.underlying163 hsz a1 (by rw[hmin,hnl]) (fun j u hj=>by
   rw[Addr.add_lit,show W1.cell? ⟨sb,0+j,none⟩=w.cell? ⟨sb,0+j,none⟩ from World.cell?_of_block (a:=⟨sb,0+j,none⟩) (a2 sb hbs)];have:=hnews j u (by simpa using hj)
   rwa [Addr.add_lit] at this) (by rw[← Array.length_toList,hRl,hnl];omega) hn1
  rw[hmin,← hc1] at this;exact this
 have b1:(W1.setRow w.heap.size c1.toArray).heap[w.heap.size]?=some (.cells c1.toArray 170 (0,0)):=setRow_heap W1 _ ROW _ _ _ a1
 have hcpB:∀ ty dc sc,(Builtin.copy_ #[163,163] ty #[.slice (some ⟨w.heap.size,(i+1) * 5,none⟩) (c - i) dc,.slice (some ⟨g,i * 5,none⟩) (c - i) sc]).run Tryz.prog (W1.setRow w.heap.size c1.toArray).drew=.ok (goInt (c - i:Nat)) ((W1.setRow w.heap.size c1.toArray).drew.setRow w.heap.size c2.toArray):=fun ty dc sc=>by
  have hmin:Nat.min (c - i) (c - i)=c - i:=Nat.min_self _
  have:=mZ (P:=Tryz.prog) (W1.setRow w.heap.size c1.toArray).drew 163 163 ty 170 5 w.heap.size ((i+1) * 5) (c - i) dc ⟨g,i * 5,none⟩ (c - i) sc c1.toArray _ (mr.drop (i * 5)) Tryz.underlying163 hsz b1 (by rw[hmin,hdl])
   (fun j v hj=>by
    rw[List.getElem?_drop] at hj;rw[Addr.add_lit,show (W1.setRow w.heap.size c1.toArray).drew.cell? ⟨g,i * 5+j,none⟩=w.cell? ⟨g,i * 5+j,none⟩ from World.cell?_of_block (a:=⟨g,i * 5+j,none⟩) ((setRow_other W1 w.heap.size g _ (by omega)).trans (a2 g hbg))]
    exact hcg _ v hj) (by rw[List.size_toArray,k1,hRl,hdl];omega) (fun v hv=>hr1 v (List.mem_of_mem_drop hv))
  rw[hmin,List.toList_toArray,← hc2] at this;exact this
 have b2:((W1.setRow w.heap.size c1.toArray).drew.setRow w.heap.size c2.toArray).heap[w.heap.size]?=some (.cells c2.toArray 170 (0,0)):=setRow_heap _ _ _ _ _ _ b1
 have hgr:w.grownBy ((W1.setRow w.heap.size c1.toArray).drew.setRow w.heap.size c2.toArray) (some g):=⟨a4.1,a4.2.1,a4.2.2,by rw[setRow_size];show w.heap.size≤(W1.setRow w.heap.size c1.toArray).heap.size;rw[setRow_size,a3];omega,fun k hk _=>by
  rw[setRow_other _ _ k _ (by omega)]
  exact(setRow_other W1 _ k _ (by omega)).trans (a2 k hk)⟩
 have HK:=ah k3
 have mixed:Tryz.prog.follows .mixedOrders=true:=by kernel_rfl
 have hwr:IntKind.i64.wrap ((i:Int)+1)=(i:Int)+1:=by rw[IntKind.wrap_i64];omega
 have hb1:(0:Int)≤(i:Int)+1:=by omega
 have htn:((i:Int)+1).toNat=i+1:=by omega
 have hb2:¬ (G=i+1):=by omega
 have hb6:¬ (G=i):=by omega
 have hb4:¬ (c=i):=by omega
 have hb5:(i:Int)+1≤(c:Int)+1:=by omega
 have hb3:(i:Int)≤(c:Int)+1:=by omega
 have sI:(i:Int)≤(c:Int):=by omega
 have hiI:¬ ((i:Int)=(c:Int)):=by omega
 have acv:=hRl;clear hkk hik hold hROW hRl hRt hc1 hc2 hdl k3 hx hrl hrow hz hz0 hzc hcg hW1 a1 a2 a3 a4 b1 hnews hr1;go_enter Tryz.func84,Tryz.ntmps84
 go_wp2_with (first
  | (at_builtin;refine Lib.wpList_append_run _ rfl _ _ _ _ rfl _ _ rfl rfl _ _ (hrz _) ?_)
  | (at_builtin;refine wpList_copy_runI _ rfl _ _ 163 163 rfl _ _ rfl rfl (hcpA _ _) ?_))
 go_region_law_o (refine step_copy_runI rfl _ _ 163 163 rfl _ _ (by simp[Act.eval,Act.put]) (by simp[Act.eval,Act.put]) (hcpB _ _ _) ?_)
 go_wp2;go_ret;exact⟨w.heap.size,G,rfl,⟨by rw[← HK.out,List.length_take,k2,acv];omega,.inr ⟨w.heap.size,G,c2.toArray,rfl,hB,b2,hGn,by unfold maxLen;exact hG63,by rw[List.size_toArray,k2,acv],by rw[List.toList_toArray];exact HK.out⟩⟩,hgr,.inr (Nat.le_refl _)⟩
theorem KD (B sb:Nat)(v:Value)(l:ML)(x:List UInt8)(vs:List Value)(w:World)(hw:Ab 4 l)(hB:B≤w.heap.size)(hn:l.length≤1000000)(hvl:vs.length=4)(h1:∀ u∈vs,u.oneCell'=true)
  (hown:w.ownsRow B 170 5 v l.length (jo l)) (hsb:w.heap[sb]?=some (.cells (bY (x,vs)).toArray 170 (0,0))) (hne:some sb≠v.ownBlock) :
  Calls Tryz.prog 84 #[v,.int .i64 (bE l x:Nat),.slice (some ⟨sb,0,none⟩) 1 1] w (N7 B v l x vs w):=by
 have hpl:=qF l x
 by_cases hp:bE l x=l.length
 ·have:=AY B sb v l x vs w hw hB hn hp hvl h1 hown hsb
  rw[← hp] at this;exact this
 ·rcases hown.2 with ⟨_,q⟩|⟨g,cap,cur,rfl,hg,hh,hnc,_⟩
  ·omega
  ·by_cases hr:l.length+1≤cap
   ·exact Ci B sb g cap l x vs w hw hn (by omega) hvl h1 hr hown hsb (fun q=>hne (by rw[q];rfl))
   ·exact AZ B sb g cap l x vs w hw hB hn (by omega) hvl h1 (by omega) hown hsb
def aeb (B mb:Nat)(v:Value)(l:ML)(x:List UInt8)(vs:List Value)(w:World)(e:Ending)(w':World):Prop :=
 e=.returned (.bool true)∧(∃ v',wH B mb v' (qp l x vs) w')∧Below B w w'∧aT (fun b=>b≠mb∧some b≠v.ownBlock) w w'
theorem Vx (B mb:Nat)(v:Value)(l:ML)(x:List UInt8)(v1 v2 v3 v4:Value)(w:World)(h:wH B mb v l w)(hB:B≤w.heap.size)(hBm:B≤mb)(hn:l.length≤1000000)(hx:pK l x=false)(h1:∀ u∈[v1,v2,v3,v4],u.oneCell'=true) :
  Calls Tryz.prog 57 #[.pointer (some ⟨mb,0,none⟩),.string ⟨x.toArray⟩,.agg #[v1,v2,v3,v4]] w (aeb B mb v l x [v1,v2,v3,v4] w):=by
 have hal:=aj w (.cells #[v1,v2,v3,v4] 31);have hN:=heap_alloc_new w (.cells #[v1,v2,v3,v4] 31);have hM:=h.below hal;have HF:=ah (FP B mb v l x (w.alloc (.cells #[v1,v2,v3,v4] 31)) hM hn);rw[hx] at HF;have afF:=(bQ h.box).1
 have aec:∀ b,v.ownBlock=some b→b<w.heap.size:=fun b q=>(h.own.lt b q).2
 have hne:some mb≠v.ownBlock:=own_ne h.own h.box (by decide);clear h;go_enter Tryz.func57,Tryz.ntmps57
 go_upto_region 1 with fail
 change Code.wp _ _ _ _ (w.alloc (.cells #[v1,v2,v3,v4] 31))
 have hz:w.heap.size<(w.alloc (.cells #[v1,v2,v3,v4] 31)).heap.size:=by simp
 generalize w.alloc _=w1 at *
 go_upto_region 2 with (go_at_call 83;refine HF.out.mono ?_;rintro e w2 ⟨rfl,hb2⟩)
 have Jw:=(hb2.block _ hz).trans hN;have hM2:=hM.below hb2;have hbw:=hal.trans (hb2.mono hal.size);have hz2:=hb2.size;clear HF hN hM hal;obtain⟨⟨a0,a1,a2,a3⟩,-⟩:=oO Jw;obtain⟨m0,-⟩:=qc hM2.box;have hpl:=qF l x;have HI:=ah (fun (W:World) (hW:Below w2.heap.size w2 W) (hs:W.heap[w2.heap.size]?=some (.cells #[.string ⟨x.toArray⟩,v1,v2,v3,v4] 170 (0,0)))=>KD B w2.heap.size v l x [v1,v2,v3,v4] W hM2.wf (by have:=hW.size;omega) hn rfl h1 (own_below hM2.own hW) hs (fun q=>by have:=aec _ q.symm;omega))
 have s1:=fun a m W=>run_store Tryz.prog W a v1 m (h1 v1 (by simp))
 have s2:=fun a m W=>run_store Tryz.prog W a v2 m (h1 v2 (by simp))
 have s3:=fun a m W=>run_store Tryz.prog W a v3 m (h1 v3 (by simp))
 have s4:=fun a m W=>run_store Tryz.prog W a v4 m (h1 v4 (by simp))
 have aed:mb<w2.heap.size:=by omega
 have hmx:=ah hM2;have HX:=ah hx;have HO1:=ah h1;clear hM2 hx h1 Jw
 go_upto_region 5 with fail
 have hA:(w2.alloc (.cells #[.string ⟨x.toArray⟩,v1,v2,v3,v4] 170)).drew.heap[w2.heap.size]?=some (.cells #[.string ⟨x.toArray⟩,v1,v2,v3,v4] 170 (0,0)):=heap_alloc_new w2 _;have hAb:Below w2.heap.size w2 (w2.alloc (.cells #[.string ⟨x.toArray⟩,v1,v2,v3,v4] 170)).drew:=((Below.refl _ _).alloc (Nat.le_refl _) _).drew;have HIx:=ah (HI.out _ hAb hA);have hmA:(w2.alloc (.cells #[.string ⟨x.toArray⟩,v1,v2,v3,v4] 170)).drew.heap[mb]?=some (.cells #[v] 165 (0,0)):=(Lib.alloc_old w2 _ mb aed).trans hmx.out.box;have HMA:=ah hmA;clear hA HI hmA
 go_region_with (go_at_call 84;refine HIx.out.mono ?_;rintro e w3 ⟨g',cap',rfl,hown3,hgrow,hor⟩;have Vy:=(hgrow.block mb (bQ HMA.out).1 hne).trans HMA.out;obtain⟨t0,f0⟩:=qc Vy;have Zk:=ah hown3;have HG3:=ah hgrow;have HR3:=ah hor;have HB3:=ah Vy;clear hown3 hgrow hor Vy)
 all_goals
  go_wp2;go_ret;refine⟨rfl,⟨_,hmx.out.wf.ins HX.out rfl HO1.out,heap_setCell_same w3 mb 0 _ _ _ HB3.out,?_⟩,?_,?_⟩
  ·rw[JH]
   exact iD Zk.out (fun q=>own_ne Zk.out HB3.out (by decide) q) _
  ·exact(((((hbw.mono hB).trans (hAb.mono (Nat.le_trans hB hbw.size))).grown HG3.out (Nat.le_trans (Nat.le_trans hB hbw.size) hAb.size) (fun b q=>(hmx.out.own.lt b q).1))).setCell hBm _)
  ·exact(aT.of hbw).trans ((aT.of hAb).trans ((aT.grown HG3.out fun b hb=>hb.2).trans (aT.set _ fun b hb=>hb.1)))
end Go.Proofs.YtknicmmigbhpcaaGreatDoor

namespace Go.Proofs.YtknicmmigbhpcaaGreatDoor
open Go.RowKit
theorem sizeBuilder:(Tryz.prog.info? 153).map (·.size)=some 2:=by kernel_rfl
class Sc (T:TypeId):Prop where
 lies:liesAt Tryz.prog Tryz.prog.depth T (2 / Tryz.prog.cellsOf T) 0 153 1=true
 ne:T≠5
instance:Sc 153:=⟨by kernel_rfl,by decide⟩
instance:Sc 155:=⟨by kernel_rfl,by decide⟩
theorem Tryz.infoByte:(Tryz.prog.info? 5).map (fun i=>(i.zero,i.size,i.bytes))=some (some (.int .u8 0),1,1):=by kernel_rfl
theorem Cj (b:Nat)(w:World)(h0:w.cell? ⟨b,0,none⟩=some (.pointer (some ⟨b,0,none⟩))) :
  Calls Tryz.prog 130 #[.pointer (some ⟨b,0,none⟩)] w fun e w'=>e=.returned (.tuple #[])∧w'=w:=by
 obtain⟨j,hj,_⟩:=Option.map_eq_some_iff.1 sizeBuilder;go_enter Tryz.func130,Tryz.ntmps130;go_wp2;rw[Lib.run_neq_ptr_same w _ Tryz.underlying150 hj];go_wp2
 go_end0
 exact⟨rfl,rfl⟩
theorem A8 {T:TypeId}[hT:Sc T](b:Nat)(w:World)(h0:w.cell? ⟨b,0,none⟩=some (.pointer none))(hsh:w.shape? b=some (T,2))(hfz:w.frozen? ⟨b,0,none⟩=false) :
  Calls Tryz.prog 130 #[.pointer (some ⟨b,0,none⟩)] w fun e w'=>e=.returned (.tuple #[])∧w'=w.setCell ⟨b,0,none⟩ (.pointer (some ⟨b,0,none⟩)):=by
 obtain⟨j,hj,hjs⟩:=Option.map_eq_some_iff.1 sizeBuilder;go_enter Tryz.func130,Tryz.ntmps130;go_wp2;rw[Lib.run_to_unsafe w ⟨b,0,none⟩ Tryz.underlying150 Tryz.underlying277 hj (by rw[hjs];decide) hsh (Nat.zero_lt_succ 1)];simp only[Result.andThen];rw[Oper.upon_value];go_wp2;rw[run_callFunc_extern Tryz.func210 (by kernel_rfl) (by kernel_rfl) (by kernel_rfl) (e:=Extern.AbiNoEscape.same) (by kernel_rfl)];rw[Lib.run_noEscape];simp only[Result.andThen];rw[Oper.upon_value];go_wp2;rw[Lib.run_from_unsafe w ⟨b,0,none⟩ Tryz.underlying277 Tryz.underlying150 hj hsh hT.lies];simp only[Result.andThen];rw[Oper.upon_value];go_wp2
 go_end0
 exact⟨rfl,rfl⟩
theorem KE {T:TypeId}[hT:Sc T](B b:Nat)(bs:List Value)(w:World)(h:Lib.IsBuilderF T 5 B b bs w) :
  Calls Tryz.prog 130 #[.pointer (some ⟨b,0,none⟩)] w fun e w'=>e=.returned (.tuple #[])∧(Lib.BuilderAtF T 5 B b (.pointer (some ⟨b,0,none⟩)) bs w'∧Below B w w'∧Lib.OthersKept 5 (some b) w w'):=by
 rcases h with h|h
 ·refine(A8 b w h.cell0 h.shape h.frozen0).mono ?_
  rintro e w' ⟨rfl,rfl⟩;exact⟨rfl,h.used _,(Below.refl B w).setCell (p:=⟨b,0,none⟩) h.1 _,(Lib.OthersKept.refl _ _ w).setCell ⟨b,0,none⟩ rfl _⟩
 ·refine(Cj b w h.cell0).mono ?_
  rintro e w' ⟨rfl,rfl⟩;exact⟨rfl,h,Below.refl B _,Lib.OthersKept.refl _ _ _⟩
theorem writeString {T:TypeId}[hT:Sc T](B b:Nat)(bs:List Value)(s:ByteArray)(w:World)(h:Lib.IsBuilderF T 5 B b bs w)(hlen:bs.length+s.size≤140737488355328)(hBw:B≤w.heap.size) :
  Calls Tryz.prog 79 #[.pointer (some ⟨b,0,none⟩),.string s] w fun e w'=>e=.returned (.tuple #[.int .i64 s.size,.nilIface])∧(Lib.IsBuilderF T 5 B b (bs++Lib.strCells s) w'∧Below B w w'∧Lib.OthersKept 5 (some b) w w'):=by
 obtain⟨i0,hi,hz0,hz1,hz2⟩:=info_parts Tryz.infoByte;go_enter Tryz.func79,Tryz.ntmps79;go_wp2_with (go_at_call 130;refine(KE B b bs _ h).mono ?_);rintro e w1 ⟨rfl,h1,hb1,hk1⟩;obtain⟨hB,v,hbk,hown,hne⟩:=h1
 have c0:w1.cell? ⟨b,0,none⟩=some (.pointer (some ⟨b,0,none⟩)):=by rw[Lib.cell_of_heap hbk];rfl
 have c1:w1.cell? ⟨b,1,none⟩=some v:=by rw[Lib.cell_of_heap hbk];rfl
 go_wp2_with (at_builtin;refine Lib.wpList_append_own_stringF _ rfl _ _ 151 9 rfl B 5 i0 Tryz.underlying151 Tryz.underlying9 hi hz0 hz1 hz2 _ _ _ rfl hown s rfl ?c3 ?c4 ?c5 ?_)
 case c3=>unfold maxLen;omega
 case c4=>omega
 case c5=>have:=hb1.size;omega
 intro v' w2 hown' hgrow _
 have hlt:b<w1.heap.size:=by
  rcases Nat.lt_or_ge b w1.heap.size with h'|h'
  ·exact h'
  ·simp[Array.getElem?_eq_none h'] at hbk
 have hb2:w2.heap[b]?=some (.cells #[.pointer (some ⟨b,0,none⟩),v] T (0,0)):=by
  rw[hgrow.block b hlt (fun e=>hne e.symm)];exact hbk
 have d0:w2.cell? ⟨b,0,none⟩=some (.pointer (some ⟨b,0,none⟩)):=by rw[Lib.cell_of_heap hb2];rfl
 have d1:w2.cell? ⟨b,1,none⟩=some v:=by rw[Lib.cell_of_heap hb2];rfl
 have f1:w2.frozen? ⟨b,1,none⟩=false:=Lib.frozen_of_heap hb2 1
 obtain⟨ao,n',cap,rfl⟩:∃ ao n' cap,v'=.slice ao n' cap:=by
  rcases hown'.2 with ⟨hv,_⟩|⟨g,cap,cur,fz,hv,_⟩
  ·exact⟨_,_,_,hv⟩
  ·exact⟨_,_,_,hv⟩
 go_wp2;go_ret2;refine⟨rfl,?_,?_,(hk1.grown hgrow (Lib.ownsRowF_kind hown)).setCell ⟨b,1,none⟩ rfl _⟩
 ·exact Or.inr (Lib.BuilderAtF.put (T:=T) (e:=5) hB hb2 (bs':=bs++Lib.strCells s) (by simpa [Lib.strCells_length] using hown') hT.ne)
 ·exact(hb1.grown hgrow (by have:=hb1.size;omega) (fun k hk=>(hown.lt k hk).1)).setCell (p:=⟨b,1,none⟩) hB _
def jE (B b:Nat)(acc:List UInt8)(w:World)(T:TypeId:=153):Prop:=Lib.IsBuilderF T 5 B b (Lib.byteCells acc) w
theorem jE.at {T:TypeId}{B b:Nat}{acc:List UInt8}{w:World}(h:jE B b acc w T):∃ p,Lib.BuilderAtF T 5 B b p (Lib.byteCells acc) w:=by
 rcases h with h|h
 ·exact⟨_,h⟩
 ·exact⟨_,h⟩
theorem jE.le {T:TypeId}{B b:Nat}{acc:List UInt8}{w:World}(h:jE B b acc w T):B≤b:=by obtain⟨p,h⟩:=h.at;exact h.1
theorem jE.lt {T:TypeId}{B b:Nat}{acc:List UInt8}{w:World}(h:jE B b acc w T):b<w.heap.size:=by obtain⟨p,h⟩:=h.at;exact h.lt
theorem jE.alloc {T:TypeId}{B b:Nat}{acc:List UInt8}{w:World}(h:jE B b acc w T)(o:Obj):jE B b acc (w.alloc o) T:=by
 rcases h with h|h
 ·exact Or.inl (h.alloc o)
 ·exact Or.inr (h.alloc o)
theorem jE.drew {T:TypeId}{B b:Nat}{acc:List UInt8}{w:World}(h:jE B b acc w T):jE B b acc w.drew T:=by
 rcases h with h|h
 ·exact Or.inl h.drew
 ·exact Or.inr h.drew
theorem jE.fresh {T:TypeId}(w:World):jE w.heap.size w.heap.size [] (w.alloc (.cells #[.pointer none,.slice none 0 0] T)) T :=
 Lib.IsBuilderF.of (Lib.fresh_isBuilder T 5 w)
theorem jE.mono {T:TypeId}{B B' b:Nat}{acc:List UInt8}{w:World}(h:jE B b acc w T)(hb:B'≤B):jE B' b acc w T:=by
 have key:∀ p,Lib.BuilderAtF T 5 B b p (Lib.byteCells acc) w→Lib.BuilderAtF T 5 B' b p (Lib.byteCells acc) w:=by
  rintro p ⟨h1,v,h2,⟨h3,h4⟩,h5⟩;refine⟨by omega,v,h2,⟨h3,?_⟩,h5⟩
  rcases h4 with h4|⟨g,cap,cur,fz,q1,q2,q3⟩
  ·exact Or.inl h4
  ·exact Or.inr ⟨g,cap,cur,fz,q1,by omega,q3⟩
 rcases h with h|h
 ·exact Or.inl (key _ h)
 ·exact Or.inr (key _ h)
theorem jE.ne {T:TypeId}{B b k:Nat}{acc:List UInt8}{w:World}(h:jE B b acc w T){cs:Array Value}{T':TypeId}{fr:Nat × Nat}(hk:w.heap[k]?=some (.cells cs T' fr))(hT:T'≠T):k≠b:=by
 obtain⟨p,_,v,hb,_⟩:=h.at;rintro rfl;rw[hk] at hb;simp only[Option.some.injEq,Obj.cells.injEq] at hb;exact hT hb.2.1
theorem jE.block {T:TypeId}{B b k:Nat}{acc:List UInt8}{w w':World}(h:jE B b acc w T)(ho:Lib.OthersKept 5 (some b) w w'){cs:Array Value}{T':TypeId}{fr:Nat × Nat}(hk:w.heap[k]?=some (.cells cs T' fr))
  (hT:T'≠T) (he:T'≠5):w'.heap[k]?=some (.cells cs T' fr) :=
 ho k _ hk (fun e=>h.ne hk hT (Option.some.inj e)) (fun c fz e=>he (by injection e))
theorem jE.row {T:TypeId}{B b base e sz n:Nat}{v:Value}{xs:List Value}{acc:List UInt8}{w w':World}(h:jE B b acc w T)(ho:Lib.OthersKept 5 (some b) w w')(hr:w.ownsRow base e sz v n xs)
  (hT:e≠T) (he:e≠5):w'.ownsRow base e sz v n xs:=by
 obtain⟨h1,h2⟩:=hr;refine⟨h1,?_⟩
 rcases h2 with h2|⟨g,cap,cur,q1,q2,q3,q4⟩
 ·exact Or.inl h2
 ·exact Or.inr ⟨g,cap,cur,q1,q2,h.block ho q3 hT he,q4⟩
theorem jE.grown {T:TypeId}{B b base e sz n:Nat}{v:Value}{xs:List Value}{acc:List UInt8}{w w':World}(h:jE B b acc w T)(hr:w.ownsRow base e sz v n xs)(hg:w.grownBy w' v.ownBlock)
  (hT:e≠T) (he:e≠5):jE B b acc w' T:=by
 have hrow:∀ k,v.ownBlock=some k→∃ cs,w.heap[k]?=some (.cells cs e (0,0)):=by
  intro k hk
  rcases hr.2 with ⟨rfl,_⟩|⟨g,cap,cur,rfl,_,hgg,_⟩
  ·simp[Value.ownBlock] at hk
  ·simp[Value.ownBlock] at hk;subst hk;exact⟨_,hgg⟩
 have key:∀ p,Lib.BuilderAtF T 5 B b p (Lib.byteCells acc) w→Lib.BuilderAtF T 5 B b p (Lib.byteCells acc) w':=by
  rintro p ⟨h1,u,h2,h3,h5⟩;have hlt:b<w.heap.size:=h.lt;refine⟨h1,u,?_,h3.kept hg ?_,h5⟩
  ·rw[hg.block b hlt (fun q=>?_)]
   ·exact h2
   ·obtain⟨cs,hcs⟩:=hrow b q.symm
    exact h.ne hcs hT rfl
  ·rcases h3.2 with ⟨rfl,_⟩|⟨g,cap,cur,fz,rfl,_,hgg,_⟩
   ·exact Or.inl rfl
   ·refine Or.inr (fun q=>?_)
    obtain⟨cs,hcs⟩:=hrow g (by rw[← q];rfl);rw[hcs] at hgg;simp only[Option.some.injEq,Obj.cells.injEq] at hgg;exact he hgg.2.1
 rcases h with h|h
 ·exact Or.inl (key _ h)
 ·exact Or.inr (key _ h)
theorem kV {T:TypeId}[Sc T](B b:Nat)(acc:List UInt8)(s:ByteArray)(w:World)(h:jE B b acc w T)(hlen:acc.length+s.size≤140737488355328)(hBw:B≤w.heap.size) :
  Calls Tryz.prog 79 #[.pointer (some ⟨b,0,none⟩),.string s] w fun e w'=>e=.returned (.tuple #[.int .i64 s.size,.nilIface])∧jE B b (acc++s.data.toList) w' T∧Below B w w'∧Lib.OthersKept 5 (some b) w w':=by
 have:=writeString B b (Lib.byteCells acc) s w h (by rw[Lib.byteCells_length];exact hlen) hBw;rw[Lib.strCells_eq,← Lib.byteCells_append] at this;exact this
theorem Aj (B b:Nat)(acc:List UInt8)(w:World)(h:jE B b acc w)(hBw:B≤w.heap.size) :
  Calls Tryz.prog 77 #[.pointer (some ⟨b,0,none⟩)] w fun e w'=>e=.returned (.string ⟨acc.toArray⟩)∧jE B b acc w'∧Below B w w'∧Lib.OthersKept 5 (some b) w w' :=
 Tryz.Builder_String_any_k B b acc w h hBw
def gN:List Tok→List UInt8
 | []=>[]
 | t :: l=>t.lead++t.text++gN l
theorem Ck:∀ (l:List Tok),(gN l).length=gD l l.length
 | []=>rfl
 | t :: l=>by rw[gN,bC,bC,Ck l,dI,kD,mE]
theorem tX:∀ (l:List Tok) (t:Tok),gN (l++[t])=gN l++(t.lead++t.text)
 | [],t=>by simp[gN]
 | x :: l,t=>by simp only[List.cons_append,gN,tX l t,List.append_assoc]
theorem Laid.Cm {T:List UInt8}{p:Nat}{l:List Tok}(h:Laid T p l):∀ k,k≤l.length→gN (l.take k)=T.take (gD l k)
 | 0,_=>by simp[gN,wh]
 | k+1,hk=>by
  have hl:k<l.length:=hk;have hle:=h.inside (k+1) hk;rw[jK l k hl,mE] at hle;rw[List.take_succ_eq_append_getElem hl,tX,h.Cm k (by omega),jK l k hl,mE];have h1:=h.lead k hl;have h2:=h.text k hl;generalize gD l k=a at h1 h2 hle ⊢;rw[← Nat.add_assoc,List.take_add (i:=a+l[k].lead.length),List.take_add (i:=a),h1,h2,List.append_assoc]
theorem Laid.KF {T:List UInt8}{p:Nat}{l:List Tok}(h:Laid T p l):gN l=T:=by
 have:=h.Cm l.length (Nat.le_refl _);rw[List.take_length,h.whole,List.take_length] at this;exact this
theorem sJ:∀ (l:List Tok) (k:Nat),k≤l.length→(gN (l.take k)).length=gD l k
 | l,0,_=>by simp[gN,wh]
 | [],k+1,h=>absurd h (by simp)
 | t :: l,k+1,h=>by
  rw[List.take_succ_cons,gN,bC,bC,sJ l k (by simpa using h),kD,mE]
theorem N8 (l:List Tok):∀ (i j:Nat),i≤j→j≤l.length→gD l i≤gD l j:=by
 intro i j h hj
 induction j with
 | zero=>exact Nat.le_of_eq (by rw[Nat.le_zero.1 h])
 | succ j ih =>
  rcases Nat.lt_or_ge i (j+1) with h'|h'
  ·have:=ih (by omega) (by omega)
   rw[jK l j (by omega)];omega
  ·obtain rfl:i=j+1:=by omega
   exact Nat.le_refl _
theorem iR (y:List UInt8):∃ Y:ByteArray,Y.data.toList=y∧ByteArray.mk y.toArray=Y:=⟨⟨y.toArray⟩,rfl,rfl⟩
theorem Sd (v:Value)(l:List Tok)(w:World)(hl:l.length≤1099511627776)(hn:gD l l.length≤1099511627776)(hv:Rec w.heap.size w v 4 bK l) :
  Calls Tryz.prog 177 #[v] w fun e w'=>e=.returned (.string ⟨(gN l).toArray⟩)∧Below w.heap.size w w':=by
 obtain⟨ao,cap,rfl,hcap,hf⟩:=hv.form (fun _=>rfl);clear hv;go_enter Tryz.func177,Tryz.ntmps177;go_wp2
 go_loopw [8] (fun i wr=>∃ k:Nat,k≤l.length∧i=.int .i64 k∧jE w.heap.size w.heap.size (gN (l.take k)) wr∧Below w.heap.size w wr) (fun i _=>l.length - (intOf i).toNat)
 case atStart=>exact⟨0,Nat.zero_le _,rfl,jE.fresh w,(Below.refl _ _).alloc (Nat.le_refl _) _⟩
 case round =>
  obtain⟨k,hk,rfl,hbd,hbl⟩:=hrel;have hz:=hbl.size
  by_cases hlt:k<l.length
  ·obtain⟨b,off,rfl,hb,hcell⟩:=hf (by omega)
   have hx0:=(hbl.cell (p:=⟨b,off+k * 4,none⟩) hb).trans (hcell k 0 _ hlt rfl);have hx1:=(hbl.cell (p:=⟨b,off+k * 4+1,none⟩) hb).trans (hcell k 1 _ hlt rfl);have hx2:=(hbl.cell (p:=⟨b,off+k * 4+2,none⟩) hb).trans (hcell k 2 _ hlt rfl);have hx3:=(hbl.cell (p:=⟨b,off+k * 4+3,none⟩) hb).trans (hcell k 3 _ hlt rfl);have hmo:=N8 l (k+1) l.length hlt (Nat.le_refl _);rw[jK l k hlt,mE,← sJ l k hk] at hmo
   have hsn:gN (l.take (k+1))=gN (l.take k)++(l[k].lead++l[k].text):=by rw[List.take_succ_eq_append_getElem hlt,tX]
   generalize l[k]=t at hx0 hx1 hx2 hx3 hmo hsn;obtain⟨c,x,y,q⟩:=t;simp only at hx0 hx1 hx2 hx3 hmo hsn;obtain⟨X,rfl,eX⟩:=iR x;obtain⟨Y,rfl,eY⟩:=iR y;rw[eX] at hx1;rw[eY] at hx2;simp only[aK] at hmo;generalize gN (l.take k)=acc at hbd hmo hsn;have HS:=ah hsn;have aee:=hbd.alloc (.cells #[.int .i64 c,.string X,.string Y,.int .i64 q] 136);have aef:=hbl.alloc hz (.cells #[.int .i64 c,.string X,.string Y,.int .i64 q] 136);clear hcell hf hsn eX eY;go_wp2_with (go_at_call 79;refine(kV w.heap.size w.heap.size acc (X++Y) _ aee ?c1 ?c2).mono ?_)
   case c1=>simp only[ByteArray.size_append];omega
   case c2=>simp;omega
   rintro e w2 ⟨rfl,acw,hb2,ho2⟩;rw[Ad,← HS.out] at acw;clear ho2;go_wp2
   go_roundw
   case rel=>exact⟨k+1,by omega,by go_num,acw,aef.trans hb2⟩
   case measure=>simp[intOf];omega
  ·have hkl:k=l.length:=by omega
   subst hkl;rw[List.take_length] at hbd;clear hf;go_wp2_with (go_at_call 77;refine(Aj w.heap.size w.heap.size _ _ hbd hz).mono ?_;rintro e w4 ⟨rfl,afG,hb4,KG⟩);go_ret;exact⟨rfl,hbl.trans hb4⟩
end Go.Proofs.YtknicmmigbhpcaaGreatDoor
