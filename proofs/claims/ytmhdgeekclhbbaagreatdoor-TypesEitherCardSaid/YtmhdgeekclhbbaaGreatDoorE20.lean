/- Walks and plain laws, without a condition. -/
import Derived.Test.YtmhdgeekclhbbaaGreatDoorE19
set_option maxHeartbeats 16000000
set_option maxRecDepth 100000
set_option linter.unusedVariables false
set_option linter.unusedSimpArgs false
namespace Go.Proofs.YtmhdgeekclhbbaaGreatDoor
open Go.RowKit Go Go.Lib
theorem Tryz.DC:(Tryz.prog.info? 226).map (λi=>(i.zero,i.size,i.bytes))=some (some (.agg #[.string ⟨#[]⟩,.int .i64 0]),2,24):=by kernel_rfl
def UF (B:Nat)(v:Value)(l:ML)(x:aH)(vs:List Value)(w:World)(e:Ending)(w':World):Prop :=
 ∃ g cap,e=.returned (.slice (some ⟨g,0,none⟩) (l.length+1) cap)/\w'.ownsRow B 226 2 (.slice (some ⟨g,0,none⟩) (l.length+1) cap) (l.length+1) (eF (qh l x vs))/\w.grownBy w' v.ownBlock/\(v.ownBlock=some g\/w.heap.size<=g)
theorem EY (B sb:Nat)(v:Value)(l:ML)(x:aH)(vs:List Value)(w:World)(hw:yV 1 l)(hB:B<=w.heap.size)(hn:l.length<=1000000)(hp:aU l x=l.length)(hvl:vs.length=1)(h1:∀ u∈vs,u.oneCell'=true)
  (hown:w.ownsRow B 226 2 v l.length (eF l)) (hsb:w.heap[sb]?=some (.cells (bB (x,vs)).toArray 226 (0,0))) :
  Calls Tryz.prog 139 #[v,.int .i64 l.length,.slice (some ⟨sb,0,none⟩) 1 1] w (UF B v l x vs w):=by
 obtain⟨i0,hi,hz0,hz1,hz2⟩:=info_parts Tryz.DC
 have hrow:eF (qh l x vs)=eF l++bB (x,vs):=by
  rw[vH l x vs hw.wid,hp,DL (by rw[kM hw.wid];omega),List.drop_of_length_le (by rw[kM hw.wid];omega),List.append_nil]
 have hnl:(bB (x,vs)).length=1 * 2:=by rw[bB,dN,hvl]
 have hn1:∀ u∈bB (x,vs),u.oneCell'=true:=λu hu=>by
  rcases oo.1 hu with q|q
  ·rw[q];rfl
  ·exact h1 u q
 have HW:=ay hown;have HR:=ay hrow;have hnews:=wS hsb;unfold UF;generalize hmr:eF l=mr at *;generalize eF (qh l x vs)=mr' at *;generalize hmc:bB (x,vs)=mc at *;generalize hnn:l.length=n at *;clear hrow hp hmr hmc hw hsb hnn
 rcases hown.2 with ⟨rfl,rfl⟩|⟨g,cap,cur,rfl,hg,hh,hnc,hm,hs,hx⟩
 ·clear hown
  go_enter Tryz.func139,Tryz.ntmps139;go_wp2_with (at_builtin;refine wpList_append_lies _ rfl _ _ 222 rfl B 226 i0 _ 2 24 Tryz.underlying222 hi hz0 hz1 hz2 rfl (by decide) _ 0 _ rfl HW.out ⟨sb,0,none⟩ 1 1 _ rfl hnl hnews hn1 (by decide) (by unfold maxLen;omega) (by omega) hB _ rfl ?_;intro g cap w' hown' hgrow hor hlt);go_ret;exact⟨g,cap,rfl,by rw[HR.out];exact hown',hgrow,hor.imp id (λq=>by omega)⟩
 ·clear hown hh hs hx hg
  unfold maxLen at hm;go_enter Tryz.func139,Tryz.ntmps139;go_wp2_with (at_builtin;refine wpList_append_lies _ rfl _ _ 222 rfl B 226 i0 _ 2 24 Tryz.underlying222 hi hz0 hz1 hz2 rfl (by decide) _ n _ rfl HW.out ⟨sb,0,none⟩ 1 1 _ rfl hnl hnews hn1 (by decide) (by unfold maxLen;omega) (by omega) hB _ rfl ?_;intro g cap w' hown' hgrow hor hlt)
  all_goals
   go_ret;exact⟨g,cap,rfl,by rw[HR.out];exact hown',hgrow,hor.imp id (λq=>by omega)⟩
theorem Jm (B sb g c:Nat)(l:ML)(x:aH)(vs:List Value)(w:World)(hw:yV 1 l)(hn:l.length<=1000000)(hp:aU l x<l.length)(hvl:vs.length=1)(h1:∀ u∈vs,u.oneCell'=true)(hroom:l.length+1<=c)
  (hown:w.ownsRow B 226 2 (.slice (some ⟨g,0,none⟩) l.length c) l.length (eF l)) (hsb:w.heap[sb]?=some (.cells (bB (x,vs)).toArray 226 (0,0))) (hne:sb≠g) :
  Calls Tryz.prog 139 #[.slice (some ⟨g,0,none⟩) l.length c,.int .i64 (aU l x:Nat),.slice (some ⟨sb,0,none⟩) 1 1] w (UF B (.slice (some ⟨g,0,none⟩) l.length c) l x vs w):=by
 obtain⟨i0,hi0,hz0,hzs,hzb⟩:=info_parts Tryz.DC
 have hsz:(Tryz.prog.info? 226).map (·.size)=some 2:=by rw[hi0];simp[hzs]
 have hnl:(bB (x,vs)).length=2:=by rw[bB,dN,hvl]
 have hn1:∀ u∈bB (x,vs),u.oneCell'=true:=λu hu=>by
  rcases oo.1 hu with q|q
  ·rw[q];rfl
  ·exact h1 u q
 have Nw:w.heap[sb]?=some (.cells (bB (x,vs)).toArray 226 (0,0)):=hsb
 have afQ:(bB (x,vs)).toArray.size=2:=by rw[List.size_toArray,hnl]
 have hr1:=yA hw;have hrl:=kM hw.wid;have hnews:=wS hsb;have hrow:=vH l x vs hw.wid
 rcases hown.2 with ⟨hv,_⟩|⟨g',jc,cur,hv,hg,hh,hnc,hm,hs,hx⟩
 ·cases hv
 simp only[Value.slice.injEq,Option.some.injEq,Addr.mk.injEq,and_true] at hv;obtain⟨rfl,-,rfl⟩:=hv;unfold maxLen at hm
 have hcl:cur.toList.length=c * 2:=by rw[Array.length_toList,hs]
 have hins:=I8 cur.toList l.length (aU l x) 2 (Nat.le_of_lt hp) (by omega) (bB (x,vs)) (eF l) hx hnl;simp only at hins;obtain⟨k1,k2,k3⟩:=hins;rw[<- hrow] at k3;unfold UF;generalize eF (qh l x vs)=mr' at *;generalize hmr:eF l=mr at *;generalize hmc:bB (x,vs)=mc at *;generalize hii:aU l x=i at *;generalize hnn:l.length=n at *;clear hrow hmr hmc hw hsb hnn hii h1 hvl
 have hdl:(mr.drop (i * 2)).length=(n - i) * 2:=by rw[zh,hrl];omega
 -- the two copies
 obtain⟨c1,hc1⟩:∃ c1,c1=cur.toList.take ((i+1) * 2)++mr.drop (i * 2)++cur.toList.drop ((i+1) * 2+(mr.drop (i * 2)).length):=⟨_,rfl⟩
 rw[<- hc1] at k1 k2 k3
 have hcp1:∀ (W:World),W.heap[g]?=some (.cells cur 226 (0,0))->∀ ty dc sc,(Builtin.copy_ #[222,222] ty #[.slice (some ⟨g,(i+1) * 2,none⟩) (n - i) dc,.slice (some ⟨g,i * 2,none⟩) (n+1 - i) sc]).run Tryz.prog W=.ok (goInt (n - i:Nat)) (W.setRow g c1.toArray):=λW hW ty dc sc=>by
  have hmin:Nat.min (n+1 - i) (n - i)=n - i:=by simp only[Nat.min_def];split<;>omega
  have:=iE (P:=Tryz.prog) W 222 222 ty 226 2 g ((i+1) * 2) (n - i) dc ⟨g,i * 2,none⟩ (n+1 - i) sc cur _ (mr.drop (i * 2)) Tryz.underlying222 hsz hW (by rw[hmin,hdl])
   (λj v hj=>by
    rw[List.getElem?_drop,<- hx] at hj;rw[List.getElem?_take] at hj
    split at hj
    ·rw[Addr.add_lit]
     exact rG hW hj
    ·cases hj) (by rw[hdl,hs];omega) (λv hv=>hr1 v (List.mem_of_mem_drop hv))
  rw[hmin,<- hc1] at this;exact this
 obtain⟨c2,hc2⟩:∃ c2,c2=c1.take (i * 2)++mc++c1.drop (i * 2+mc.length):=⟨_,rfl⟩
 rw[<- hc2] at k2 k3
 have hcp2:∀ (W:World),W.heap[g]?=some (.cells c1.toArray 226 (0,0))->(∀ j u,mc[j]?=some u->W.cell? ((⟨sb,0,none⟩:Addr).add j)=some u)->∀ ty dc,(Builtin.copy_ #[222,222] ty #[.slice (some ⟨g,i * 2,none⟩) (n+1 - i) dc,.slice (some ⟨sb,0,none⟩) 1 1]).run Tryz.prog W=.ok (goInt 1) (W.setRow g c2.toArray):=λW hW hsrc ty dc=>by
  have hmin:Nat.min 1 (n+1 - i)=1:=by simp only[Nat.min_def];split<;>omega
  have:=iE (P:=Tryz.prog) W 222 222 ty 226 2 g (i * 2) (n+1 - i) dc ⟨sb,0,none⟩ 1 1 c1.toArray _ mc Tryz.underlying222 hsz hW (by rw[hmin,hnl]) hsrc (by rw[List.size_toArray,k1,hnl,hcl];omega) hn1;rw[hmin,List.toList_toArray,<- hc2] at this;exact this
 have hbg:g<w.heap.size:=(bU hh).1
 have hov:∀ lb cb,(callFunc 217 #[.slice (some ⟨sb,0,none⟩) 1 1,.slice (some ⟨g,(i+1) * 2,none⟩) lb cb]).run Tryz.prog w=.ok (.value (.bool false)) w:=λlb cb=>by
  rw[run_callFunc_extern Tryz.func217 (by kernel_rfl) (by kernel_rfl) (by kernel_rfl) (e:=Extern.SlicesOverlaps.overlaps #[222,222] #[4]) (by kernel_rfl),
   Lib.run_overlaps_apart w 222 4 226 Tryz.underlying222 2 Tryz.sizeOf226 ⟨sb,0,none⟩ ⟨g,(i+1) * 2,none⟩ 1 1 lb cb hne 226 226 2 (c * 2) (Ce Nw afQ) (Ce hh hs) (by omega) (by simp[World.frozen?,Nw]) (by simp[World.frozen?,Nw])]
  rfl
 have hcpA:=hcp1 w.drew hh;have hw1:(w.drew.setRow g c1.toArray).heap[g]?=some (.cells c1.toArray 226 (0,0)):=setRow_heap w.drew g cur _ _ _ hh
 have hcpB:=hcp2 (w.drew.setRow g c1.toArray) hw1 (λj u hj=>by
  rw[show (w.drew.setRow g c1.toArray).cell? ((⟨sb,0,none⟩:Addr).add j)=w.cell? ((⟨sb,0,none⟩:Addr).add j) from by
   rw[Addr.add_lit]
   exact AJ (a:=⟨sb,0+j,none⟩) (setRow_other w.drew g sb _ hne)]
  exact hnews j u (by simpa using hj))
 have hw2:((w.drew.setRow g c1.toArray).setRow g c2.toArray).heap[g]?=some (.cells c2.toArray 226 (0,0)):=setRow_heap _ g _ _ _ _ hw1
 have hgr:w.grownBy ((w.drew.setRow g c1.toArray).setRow g c2.toArray) (some g):=⟨rfl,rfl,rfl,by rw[setRow_size,setRow_size];exact bI _,λk hk hkg=>by
  have hkn:k≠g:=λq=>hkg (by rw[q])
  rw[setRow_other _ g k _ hkn,setRow_other _ g k _ hkn]
  rfl⟩
 have mixed:Tryz.prog.follows .mixedOrders=true:=by kernel_rfl
 have hwr:IntKind.i64.wrap ((i:Int)+1)=(i:Int)+1:=by rw[IntKind.wrap_i64];omega
 have hb1:(0:Int)<=(i:Int)+1:=by omega
 have hb5:(i:Int)+1<=(n:Int)+1:=by omega
 have htn:((i:Int)+1).toNat=i+1:=by omega
 have hb2:¬ (c=i+1):=by omega
 have hb3:(i:Int)<=(n:Int)+1:=by omega
 have hb4:¬ (c=i):=by omega
 have hiI:¬ ((i:Int)=(n:Int)):=by omega
 have HK:=ay k3;clear hcp1 hcp2 hw1 Nw hc1 hc2 hdl k3 hx hown hrl;go_enter Tryz.func139,Tryz.ntmps139;go_wp2_with (simp only[hov])
 go_region_law_o (refine step_copy_runI rfl _ _ 222 222 rfl _ _ (by simp[Act.eval,Act.put]) (by simp[Act.eval,Act.put]) (hcpA _ _ _) ?_)
 go_wp2_with (at_builtin;refine wpList_copy_runI _ rfl _ _ 222 222 rfl _ _ rfl rfl (hcpB _ _) ?_);go_ret;exact⟨g,c,rfl,⟨by rw[<- HK.out,qX,k2,hcl];omega,.inr ⟨g,c,c2.toArray,rfl,hg,hw2,hroom,by unfold maxLen;exact hm,by rw[List.size_toArray,k2,hcl],by rw[List.toList_toArray];exact HK.out⟩⟩,hgr,.inl rfl⟩
theorem EZ (B sb g c:Nat)(l:ML)(x:aH)(vs:List Value)(w:World)(hw:yV 1 l)(hB:B<=w.heap.size)(hn:l.length<=1000000)(hp:aU l x<l.length)(hvl:vs.length=1)(h1:∀ u∈vs,u.oneCell'=true)(hroom:c<l.length+1)
  (hown:w.ownsRow B 226 2 (.slice (some ⟨g,0,none⟩) l.length c) l.length (eF l)) (hsb:w.heap[sb]?=some (.cells (bB (x,vs)).toArray 226 (0,0))) :
  Calls Tryz.prog 139 #[.slice (some ⟨g,0,none⟩) l.length c,.int .i64 (aU l x:Nat),.slice (some ⟨sb,0,none⟩) 1 1] w (UF B (.slice (some ⟨g,0,none⟩) l.length c) l x vs w):=by
 obtain⟨i0,hi0,hz0,hzs,hzb⟩:=info_parts Tryz.DC
 have hsz:(Tryz.prog.info? 226).map (·.size)=some 2:=by rw[hi0];simp[hzs]
 have hnl:(bB (x,vs)).length=2:=by rw[bB,dN,hvl]
 have hn1:∀ u∈bB (x,vs),u.oneCell'=true:=λu hu=>by
  rcases oo.1 hu with q|q
  ·rw[q];rfl
  ·exact h1 u q
 have hr1:=yA hw;have hrl:=kM hw.wid;have hnews:=wS hsb;have hrow:=vH l x vs hw.wid
 rcases hown.2 with ⟨hv,_⟩|⟨g',jc,cur,hv,hg,hh,hnc,hm,hs,hx⟩
 ·cases hv
 simp only[Value.slice.injEq,Option.some.injEq,Addr.mk.injEq,and_true] at hv;obtain⟨rfl,-,rfl⟩:=hv;have hbs:=(bU hsb).1;have hbg:=(bU hh).1;unfold UF;generalize eF (qh l x vs)=mr' at *;generalize hmr:eF l=mr at *;generalize hmc:bB (x,vs)=mc at *;generalize hii:aU l x=i at *;generalize hnn:l.length=n at *;clear hmr hmc hw hsb hnn hii h1 hvl hown
 obtain rfl:c=n:=by omega
 have hdl:(mr.drop (i * 2)).length=(c - i) * 2:=by rw[zh,hrl];omega
 have hcg:∀ j v,mr[j]?=some v->w.cell? ⟨g,j,none⟩=some v:=λj v hj=>by
  rw[<- hx,List.getElem?_take] at hj
  split at hj
  ·exact rG hh hj
  ·cases hj
 have hold:(Builtin.firstCells i0.size i (.slice (some ⟨g,0,none⟩) i c)).run Tryz.prog w.drew=.ok (mr.take (i * 2)).toArray w.drew:=by
  rw[hzs]
  exact run_firstCells_some w.drew 2 i ⟨g,0,none⟩ i c (mr.take (i * 2)) (by rw[qX];omega) (λj v hj=>by
   rw[Addr.add_lit,Nat.zero_add];rw[List.getElem?_take] at hj
   split at hj
   ·exact hcg j v hj
   ·cases hj)
 have hik:i+(c+1 - i)=c+1:=by omega
 have hkk:(c:Int)+1 - (i:Int)=((c+1 - i:Nat):Int):=by omega
 obtain⟨z,hz⟩:∃ z:Value,z=.agg #[.string ⟨#[]⟩,.int .i64 0]:=⟨_,rfl⟩
 rw[<- hz] at hz0
 have hrz:∀ ty,(Builtin.append_ #[222,3] ty #[.slice (some ⟨g,0,none⟩) i c,.int .i64 ((c:Int)+1 - (i:Int))]).run Tryz.prog w =
   .ok (.slice (some ⟨w.heap.size,0,none⟩) (c+1) (grownCap w (c+1) c 226)) (w.drew.alloc (.cells ((mr.take (i * 2)).toArray++Builtin.zeroCells z.cells (c+1 - i)++Builtin.zeroCells z.cells (grownCap w (c+1) c 226 - (c+1))) 226)):=λty=>by
  have h:=Lib.run_append_grow_zeros w 222 3 ty 226 i0 z .i64 .i64 Tryz.underlying222 Tryz.underlying3 hi0 hz0 (some ⟨g,0,none⟩) i c (mr.take (i * 2)) hold (c+1 - i) (by omega) (by omega) (by omega) (by omega) (by rw[hzb];omega) (by rw[hzb,hik];exact growslice_fits hroom (by omega));rw[hik] at h;rw[hkk];exact h
 have hGn:c+1<=grownCap w (c+1) c 226:=grownCap_ge w _ _ _
 have hG63:grownCap w (c+1) c 226<=9223372036854775807:=by
  have:=grownCap_le_maxLen w (c+1) c 226 (by unfold maxLen;omega);unfold maxLen at this;omega
 generalize grownCap w (c+1) c 226=G at *
 have hzc:∀ k,(Builtin.zeroCells z.cells k).size=k * 2:=λk=>by rw[hz];simp[Builtin.zeroCells,Value.cells]
 obtain⟨ROW,hROW⟩:∃ ROW:Array Value,ROW=(mr.take (i * 2)).toArray++Builtin.zeroCells z.cells (c+1 - i)++Builtin.zeroCells z.cells (G - (c+1)):=⟨_,rfl⟩
 have hRl:ROW.toList.length=G * 2:=by
  rw[hROW,Array.length_toList,Array.size_append,Array.size_append,hzc,hzc,List.size_toArray,qX,hrl];omega
 have hRt:ROW.toList.take (i * 2)=mr.take (i * 2):=by
  rw[hROW,Array.toList_append,Array.toList_append,om,abk (by rw[List.toList_toArray,qX];omega),List.toList_toArray,List.take_take,Nat.min_self]
 rw[<- hROW] at hrz
 obtain⟨W1,hW1⟩:∃ W1,W1=w.drew.alloc (.cells ROW 226):=⟨_,rfl⟩
 rw[<- hW1] at hrz
 have a1:W1.heap[w.heap.size]?=some (.cells ROW 226 (0,0)):=by rw[hW1];exact aZ w.drew _
 have a2:∀ k,k<w.heap.size->W1.heap[k]?=w.heap[k]?:=λk hk=>by rw[hW1];exact iB w.drew _ k hk
 have a3:W1.heap.size=w.heap.size+1:=by rw[hW1];simp
 have a4:W1.os=w.os/\W1.tape=w.tape/\W1.output=w.output:=by rw[hW1];exact⟨rfl,rfl,rfl⟩
 have hins:=Ez ROW.toList c i 2 (Nat.le_of_lt hp) (by rw[hRl];omega) mc mr hRt hrl hnl;simp only at hins;obtain⟨k1,k2,k3⟩:=hins;rw[<- hrow] at k3
 obtain⟨c1,hc1⟩:∃ c1,c1=ROW.toList.take (i * 2)++mc++ROW.toList.drop (i * 2+mc.length):=⟨_,rfl⟩
 rw[<- hc1] at k1 k2 k3
 obtain⟨c2,hc2⟩:∃ c2,c2=c1.take ((i+1) * 2)++mr.drop (i * 2)++c1.drop ((i+1) * 2+(mr.drop (i * 2)).length):=⟨_,rfl⟩
 rw[<- hc2] at k2 k3
 have hcpA:∀ ty dc,(Builtin.copy_ #[222,222] ty #[.slice (some ⟨w.heap.size,i * 2,none⟩) (c+1 - i) dc,.slice (some ⟨sb,0,none⟩) 1 1]).run Tryz.prog W1=.ok (goInt 1) (W1.setRow w.heap.size c1.toArray):=λty dc=>by
  have hmin:Nat.min 1 (c+1 - i)=1:=by simp only[Nat.min_def];split<;>omega
  have:=iE (P:=Tryz.prog) W1 222 222 ty 226 2 w.heap.size (i * 2) (c+1 - i) dc ⟨sb,0,none⟩ 1 1 ROW _ mc Tryz.underlying222 hsz a1 (by rw[hmin,hnl]) (λj u hj=>by
   rw[Addr.add_lit,show W1.cell? ⟨sb,0+j,none⟩=w.cell? ⟨sb,0+j,none⟩ from AJ (a:=⟨sb,0+j,none⟩) (a2 sb hbs)];have:=hnews j u (by simpa using hj)
   rwa [Addr.add_lit] at this) (by rw[<- Array.length_toList,hRl,hnl];omega) hn1
  rw[hmin,<- hc1] at this;exact this
 have b1:(W1.setRow w.heap.size c1.toArray).heap[w.heap.size]?=some (.cells c1.toArray 226 (0,0)):=setRow_heap W1 _ ROW _ _ _ a1
 have hcpB:∀ ty dc sc,(Builtin.copy_ #[222,222] ty #[.slice (some ⟨w.heap.size,(i+1) * 2,none⟩) (c - i) dc,.slice (some ⟨g,i * 2,none⟩) (c - i) sc]).run Tryz.prog (W1.setRow w.heap.size c1.toArray).drew=.ok (goInt (c - i:Nat)) ((W1.setRow w.heap.size c1.toArray).drew.setRow w.heap.size c2.toArray):=λty dc sc=>by
  have hmin:Nat.min (c - i) (c - i)=c - i:=Nat.min_self _
  have:=iE (P:=Tryz.prog) (W1.setRow w.heap.size c1.toArray).drew 222 222 ty 226 2 w.heap.size ((i+1) * 2) (c - i) dc ⟨g,i * 2,none⟩ (c - i) sc c1.toArray _ (mr.drop (i * 2)) Tryz.underlying222 hsz b1 (by rw[hmin,hdl])
   (λj v hj=>by
    rw[List.getElem?_drop] at hj;rw[Addr.add_lit,show (W1.setRow w.heap.size c1.toArray).drew.cell? ⟨g,i * 2+j,none⟩=w.cell? ⟨g,i * 2+j,none⟩ from AJ (a:=⟨g,i * 2+j,none⟩) ((setRow_other W1 w.heap.size g _ (by omega)).trans (a2 g hbg))]
    exact hcg _ v hj) (by rw[List.size_toArray,k1,hRl,hdl];omega) (λv hv=>hr1 v (List.mem_of_mem_drop hv))
  rw[hmin,List.toList_toArray,<- hc2] at this;exact this
 have b2:((W1.setRow w.heap.size c1.toArray).drew.setRow w.heap.size c2.toArray).heap[w.heap.size]?=some (.cells c2.toArray 226 (0,0)):=setRow_heap _ _ _ _ _ _ b1
 have hgr:w.grownBy ((W1.setRow w.heap.size c1.toArray).drew.setRow w.heap.size c2.toArray) (some g):=⟨a4.1,a4.2.1,a4.2.2,by rw[setRow_size];show w.heap.size<=(W1.setRow w.heap.size c1.toArray).heap.size;rw[setRow_size,a3];omega,λk hk _=>by
  rw[setRow_other _ _ k _ (by omega)]
  exact(setRow_other W1 _ k _ (by omega)).trans (a2 k hk)⟩
 have HK:=ay k3
 have mixed:Tryz.prog.follows .mixedOrders=true:=by kernel_rfl
 have hwr:IntKind.i64.wrap ((i:Int)+1)=(i:Int)+1:=by rw[IntKind.wrap_i64];omega
 have hb1:(0:Int)<=(i:Int)+1:=by omega
 have htn:((i:Int)+1).toNat=i+1:=by omega
 have hb2:¬ (G=i+1):=by omega
 have hb6:¬ (G=i):=by omega
 have hb4:¬ (c=i):=by omega
 have hb5:(i:Int)+1<=(c:Int)+1:=by omega
 have hb3:(i:Int)<=(c:Int)+1:=by omega
 have BI:(i:Int)<=(c:Int):=by omega
 have hiI:¬ ((i:Int)=(c:Int)):=by omega
 have acz:=hRl;clear hkk hik hold hROW hRl hRt hc1 hc2 hdl k3 hx hrl hrow hz hz0 hzc hcg hW1 a1 a2 a3 a4 b1 hnews hr1;go_enter Tryz.func139,Tryz.ntmps139
 go_wp2_with (first
  | (at_builtin;refine Lib.wpList_append_run _ rfl _ _ _ _ rfl _ _ rfl rfl _ _ (hrz _) ?_)
  | (at_builtin;refine wpList_copy_runI _ rfl _ _ 222 222 rfl _ _ rfl rfl (hcpA _ _) ?_))
 go_region_law_o (refine step_copy_runI rfl _ _ 222 222 rfl _ _ (by simp[Act.eval,Act.put]) (by simp[Act.eval,Act.put]) (hcpB _ _ _) ?_)
 go_wp2;go_ret;exact⟨w.heap.size,G,rfl,⟨by rw[<- HK.out,qX,k2,acz];omega,.inr ⟨w.heap.size,G,c2.toArray,rfl,hB,b2,hGn,by unfold maxLen;exact hG63,by rw[List.size_toArray,k2,acz],by rw[List.toList_toArray];exact HK.out⟩⟩,hgr,.inr (bI _)⟩
theorem Rh (B sb:Nat)(v:Value)(l:ML)(x:aH)(vs:List Value)(w:World)(hw:yV 1 l)(hB:B<=w.heap.size)(hn:l.length<=1000000)(hvl:vs.length=1)(h1:∀ u∈vs,u.oneCell'=true)
  (hown:w.ownsRow B 226 2 v l.length (eF l)) (hsb:w.heap[sb]?=some (.cells (bB (x,vs)).toArray 226 (0,0))) (hne:some sb≠v.ownBlock) :
  Calls Tryz.prog 139 #[v,.int .i64 (aU l x:Nat),.slice (some ⟨sb,0,none⟩) 1 1] w (UF B v l x vs w):=by
 have hpl:=mh l x
 by_cases hp:aU l x=l.length
 ·have:=EY B sb v l x vs w hw hB hn hp hvl h1 hown hsb
  rw[<- hp] at this;exact this
 ·rcases hown.2 with ⟨_,q⟩|⟨g,cap,cur,rfl,hg,hh,hnc,_⟩
  ·omega
  ·by_cases hr:l.length+1<=cap
   ·exact Jm B sb g cap l x vs w hw hn (by omega) hvl h1 hr hown hsb (λq=>hne (by rw[q];rfl))
   ·exact EZ B sb g cap l x vs w hw hB hn (by omega) hvl h1 (by omega) hown hsb
variable{w w':World}{g:gX}{B mb n cb i:Nat}{f:Fl}{l:List (Int × rF)}
def kY (B mb:Nat)(g:gX)(n:Nat)(w:World):Prop:=∃ v ml,Rf B mb v ml w/\ml.length<=n/\∀ y,oW ml y=(g y).map λb=>[Value.int .i64 b]
theorem kY.below {B mb n:Nat}{g:gX}{w w':World}(h:kY B mb g n w)(hb:Below w.heap.size w w'):kY B mb g n w':=by
 obtain⟨v,ml,h1,h2,h3⟩:=h;exact⟨v,ml,h1.below hb,h2,h3⟩
theorem kY.lt (h:kY B mb g n w):mb<w.heap.size:=by
 obtain⟨v,ml,h1,-,-⟩:=h;exact(bU h1.box).1
theorem kY.alk {cs:Array Value}{T:TypeId}{fr:Nat × Nat}(h:kY B mb g n w)(hc:w.heap[cb]?=some (.cells cs T fr))(hT:T≠226)(Rv:T≠224)(ha:bA (λb=>b≠cb) w w'):kY B mb g n w':=by
 obtain⟨v,ml,h1,h2,h3⟩:=h
 have hm:mb≠cb:=λq=>by
  have h0:=h1.box;rw[q,hc] at h0;simp only[Option.some.injEq,Obj.cells.injEq] at h0;exact Rv h0.2.1
 refine⟨v,ml,⟨h1.wf,(ha.2 mb hm (bU h1.box).1).trans h1.box,?_⟩,h2,h3⟩;obtain⟨hl,h⟩:=h1.own;refine⟨hl,?_⟩
 rcases h with h|⟨g,cap,cur,rfl,hg,hh,hn⟩
 ·exact .inl h
 ·refine .inr ⟨g,cap,cur,rfl,hg,(ha.2 g (λq=>?_) (bU hh).1).trans hh,hn⟩
  subst q;rw[hc] at hh;simp only[Option.some.injEq,Obj.cells.injEq] at hh;exact hT hh.2.1
theorem aei {ml:ML}(h:∀ y,oW ml y=(g y).map λb=>[Value.int .i64 b])(x:aH):l8 ml x=(g x).isSome:=by
 rw[<- yx,h,Option.isSome_map]
theorem acQ (B mb n:Nat)(g:gX)(x:aH)(w:World)(h:kY B mb g n w)(hn:n<=1000000) :
  Calls Tryz.prog 219 #[.pointer (some ⟨mb,0,none⟩),.string ⟨x.toArray⟩] w λe w'=>e=.returned (.tuple #[.int .i64 ((g x).getD 0),.bool (g x).isSome])/\Below w.heap.size w w':=by
 obtain⟨v,ml,h1,h2,h3⟩:=h;have HF:=ay (LH B mb v ml x w h1 (by omega));have hh:=aei h3 x;have hpl:=mh ml x;have HH:=ay (sQ h1.wf x);have hgx:=h3 x;have HG:=ay (λi (hi:i<ml.length) e=>VG h1.wf (x:=x) (i:=i) hi e);rw[hh] at HF HH;have HM:=ay h1
 cases hq:g x with
 | none =>
  rw[hq] at HF;simp only[Option.isSome_none] at HF;clear HH HG hgx hh h1 h3 hpl;generalize aU ml x=p at *;go_enter Tryz.func219,Tryz.ntmps219;go_wp2_with (go_at_call 138;refine HF.out.mono ?_;rintro e w2 ⟨rfl,hb2⟩);go_ret2;exact⟨rfl,hb2⟩
 | some b =>
  rw[hq] at HF HH hgx;simp only[Option.isSome_some,Option.map_some] at HF HH hgx;obtain⟨hpn,hpx⟩:=V7 HH.out.symm;have hg:=(HG.out _ hpn hpx).symm.trans hgx;simp only[Option.some.injEq] at hg;obtain⟨ao,cap,rfl,hr⟩:=h1.slice;obtain⟨b',off,rfl,hrw⟩:=hr (by omega)
  have hcx:∀ (W:World),Below w.heap.size w W->W.cell? ⟨b',off+aU ml x * 2+1,none⟩=some (.int .i64 b)/\W.cell? ⟨mb,0,none⟩=some (.slice (some ⟨b',off,none⟩) ml.length cap):=λW hW=>⟨(hrw.below hW) _ hpn 1 (.int .i64 b) (by rw[bB,hg];rfl),(mo (HM.out.below hW).box).1⟩
  have HC:=ay hcx;clear HH HG hgx hh h1 h3 hg hpx HM hrw hcx;generalize aU ml x=p at *;generalize ml.length=L at *;go_enter Tryz.func219,Tryz.ntmps219;go_wp2_with (go_at_call 138;refine HF.out.mono ?_;rintro e w2 ⟨rfl,hb2⟩;obtain⟨x1,m0⟩:=HC.out w2 hb2);go_ret2;exact⟨rfl,hb2⟩
theorem aej {k:Nat}{l:ML}(h:yV k l){x:aH}(v:List Value)(hi:i<l.length)(e:l[i].1=x):Ca l x v=l.set i (x,v):=by
 apply List.ext_getElem
 ·rw[Ca,vL,List.length_set]
 ·intro j hj _
  rw[List.getElem_set];simp only[Ca,List.getElem_map]
  have hjl:j<l.length:=by rw[Ca,vL] at hj;exact hj
  by_cases q:i=j
  ·subst q
   rw[bq rfl,bq e]
  ·rw[aP q,aP]
   intro c
   rcases Nat.lt_or_gt_of_ne q with r|r
   ·have:=h.mono r hjl
    rw[e,c] at this;exact List.lt_irrefl _ this
   ·have:=h.mono r hi
    rw[e,c] at this;exact List.lt_irrefl _ this
theorem LJ (x:aH)(v:Value):∀ {l:ML} {i:Nat} (_:∀ q∈l,q.2.length=1) (hi:i<l.length),l[i].1=x->eF (l.set i (x,[v]))=(eF l).set (i * 2+1) v
 | [],i,_,hi,_=>absurd hi (by simp)
 | ⟨a,r⟩ :: l,0,hw,_,e=>by
  obtain⟨u,rfl⟩:=VZ (hw (a,r) xq);simp only[List.getElem_cons_zero] at e;subst e
  rfl
 | ⟨a,r⟩ :: l,i+1,hw,hi,e=>by
  obtain⟨u,rfl⟩:=VZ (hw (a,r) xq);have:=LJ x v (l:=l) (i:=i) (λq hq=>hw q (xu _ hq)) (by simpa using hi) (by simpa using e);show _ :: _ :: eF (l.set i (x,[v]))=List.set (_ :: _ :: eF l) _ v;rw[this,show (i+1) * 2+1=(i * 2+1)+1+1 by omega]
  rfl
theorem aek {e g cap:Nat}{xs:List Value}(h:w.ownsRow B e 2 (.slice (some ⟨g,0,none⟩) n cap) n xs)(hi:i<n * 2)(u:Value):(w.setCell ⟨g,i,none⟩ u).ownsRow B e 2 (.slice (some ⟨g,0,none⟩) n cap) n (xs.set i u):=by
 obtain⟨hl,h⟩:=h;refine⟨by rw[List.length_set];exact hl,?_⟩
 rcases h with ⟨q,_⟩|⟨g',jc,cur,hv,hg,hh,hnc,hm,hs,hx⟩
 ·cases q
 ·simp only[Value.slice.injEq,Option.some.injEq,Addr.mk.injEq,and_true] at hv
  obtain⟨rfl,-,rfl⟩:=hv;refine .inr ⟨g,cap,cur.setIfInBounds i u,rfl,hg,kG w g i cur _ u hh,hnc,hm,by rw[Array.size_setIfInBounds];exact hs,?_⟩;rw[Array.toList_setIfInBounds,List.take_set,hx]
def ajh (B mb:Nat)(g:gX)(n:Nat)(x:aH)(b:Int)(w:World)(e:Ending)(w':World):Prop:=(∃ r,e=.returned (.bool r))/\kY B mb (Ak g x b) (n+1) w'/\Below B w w'/\∀ k cs T fr,k≠mb->T≠226->w.heap[k]?=some (.cells cs T fr)->w'.heap[k]?=w.heap[k]?
theorem Ri (B mb n:Nat)(g:gX)(x:aH)(b:Int)(w:World)(h:kY B mb g n w)(hB:B<=w.heap.size)(hBm:B<=mb)(hn:n<=1000000) :
  Calls Tryz.prog 83 #[.pointer (some ⟨mb,0,none⟩),.string ⟨x.toArray⟩,.int .i64 b] w (ajh B mb g n x b w):=by
 obtain⟨v,ml,h1,h2,h3⟩:=h;have HF:=ay (LH B mb v ml x w h1 (by omega));have aiR:=(bU h1.box).1
 have afR:∀ b,v.ownBlock=some b->b<w.heap.size:=λb q=>(h1.own.lt b q).2
 have hne:some mb≠v.ownBlock:=own_ne h1.own h1.box (by decide);have HM:=ay h1;have HNE:=ay (λ(k:Nat) (cs:Array Value) (T:TypeId) (fr:Nat × Nat) (hT:T≠226) (hk:w.heap[k]?=some (.cells cs T fr))=>(iq (bU hk).1 (own_ne h1.own hk hT)));have hpl:=mh ml x;have HH:=ay (sQ h1.wf x)
 have hput:∀ y,oW (Cb ml x [.int .i64 b]) y=(Ak g x b y).map λb=>[Value.int .i64 b]:=λy=>by
  rw[acr,Ak]
  split
  ·rfl
  ·exact h3 y
 have HP:=ay hput;have hlen:=acs ml x [.int .i64 b];have hwf:=h1.wf.put x (v:=[.int .i64 b]) rfl (by simp[Value.oneCell']);have HW:=ay hwf;clear h1 h3 hput hwf
 cases hq:l8 ml x with
 | true =>
  rw[hq] at HF HH;obtain⟨hpn,hpx⟩:=V7 HH.out.symm;have hset:=aej HM.out.wf [.int .i64 b] hpn hpx
  have hmp:Cb ml x [.int .i64 b]=ml.set (aU ml x) (x,[.int .i64 b]):=by rw[Cb,bq hq,hset]
  have hrow:eF (Cb ml x [.int .i64 b])=(eF ml).set (aU ml x * 2+1) (.int .i64 b):=by rw[hmp,LJ x _ HM.out.wf.wid hpn hpx]
  have hll:(Cb ml x [.int .i64 b]).length=ml.length:=by rw[hmp,List.length_set]
  rcases HM.out.own.2 with ⟨_,q⟩|⟨gb,cap,cur,rfl,hg,hh,hnc,hm,hs,hx⟩
  ·omega
  have HR:=ay (iq hrow (iq hll hg))
  have HC:=ay (λ(W:World) (hW:Below w.heap.size w W)=>(⟨by
   have:=(hW.block gb (bU hh).1).trans hh;have h8:gb<W.heap.size:=(bU this).1;refine⟨?_,by simp[World.frozen?,this]⟩
   have h9:aU ml x * 2+1<cur.size:=by rw[hs];omega
   exact⟨cur[aU ml x * 2+1],by rw[bg this];simp[h9]⟩,(mo (HM.out.below hW).box).1,(HM.out.below hW).own,(HM.out.below hW).box⟩:((∃ u,W.cell? ⟨gb,aU ml x * 2+1,none⟩=some u)/\W.frozen? ⟨gb,aU ml x * 2+1,none⟩=false)/\W.cell? ⟨mb,0,none⟩=some (.slice (some ⟨gb,0,none⟩) ml.length cap)/\W.ownsRow B 226 2 (.slice (some ⟨gb,0,none⟩) ml.length cap) ml.length (eF ml)/\W.heap[mb]?=some (.cells #[.slice (some ⟨gb,0,none⟩) ml.length cap] 224 (0,0))))
  clear HH hset hmp hrow hll hh hnc hm hs hx hg hpx HM
  have hpI:aU ml x * 2+1<ml.length * 2:=by omega
  generalize aU ml x=p at *;generalize Cb ml x [.int .i64 b]=mp at *;generalize eF ml=mr at *;generalize ml.length=L at *;clear hq;go_enter Tryz.func83,Tryz.ntmps83;go_wp2_with (go_at_call 138;refine HF.out.mono ?_;rintro e w2 ⟨rfl,hb2⟩;obtain⟨⟨⟨u,x1⟩,x1z⟩,m0,hown,EM⟩:=HC.out w2 hb2);go_ret;refine⟨⟨_,rfl⟩,⟨.slice (some ⟨gb,0,none⟩) L cap,mp,⟨HW.out,?_,?_⟩,by omega,HP.out⟩,(hb2.mono hB).setCell HR.out.2.2 _,λk cs T fr hk hT hq=>(qo _ _ _ _ λq=>(HNE.out k cs T fr hT hq).2 (by rw[q];rfl)).trans (hb2.block k (HNE.out k cs T fr hT hq).1)⟩
  ·rw[qo]
   ·exact EM
   ·exact λq=>hne (by rw[q];rfl)
  ·have:=aek hown hpI (.int .i64 b)
   rw[HR.out.2.1,HR.out.1];exact this
 | false =>
  rw[hq] at HF
  have hmp:Cb ml x [.int .i64 b]=qh ml x [.int .i64 b]:=by rw[Cb,aP (by rw[hq];simp)]
  rw[hmp] at HW HP hlen;have HL:=ay (Cc ml x [.int .i64 b]);clear HH hmp;go_enter Tryz.func83,Tryz.ntmps83
  go_upto_region 2 with (go_at_call 138;refine HF.out.mono ?_;rintro e w2 ⟨rfl,hb2⟩)
  have hM2:=HM.out.below hb2;have hz2:=hb2.size;obtain⟨m0,-⟩:=mo hM2.box;have HI:=ay (λ(W:World) (hW:Below w2.heap.size w2 W) (hs:W.heap[w2.heap.size]?=some (.cells #[.string ⟨x.toArray⟩,.int .i64 b] 226 (0,0)))=>Rh B w2.heap.size v ml x [.int .i64 b] W hM2.wf (by have:=hW.size;omega) (by omega) rfl (by simp[Value.oneCell']) (own_below hM2.own hW) hs (λq=>by have:=afR _ q.symm;omega))
  have afS:mb<w2.heap.size:=by omega
  have hmx:=ay hM2;clear hM2 HF HM;have hA:(w2.alloc (.cells #[.string ⟨x.toArray⟩,.int .i64 b] 226)).heap[w2.heap.size]?=some (.cells #[.string ⟨x.toArray⟩,.int .i64 b] 226 (0,0)):=aZ w2 _;have hAb:Below w2.heap.size w2 (w2.alloc (.cells #[.string ⟨x.toArray⟩,.int .i64 b] 226)):=aB w2 _;have HIx:=ay (HI.out _ hAb hA);have hmA:(w2.alloc (.cells #[.string ⟨x.toArray⟩,.int .i64 b] 226)).heap[mb]?=some (.cells #[v] 224 (0,0)):=(iB w2 _ mb afS).trans hmx.out.box;have HMA:=ay hmA;clear hA HI hmA;go_wp2_with (go_at_call 139;refine HIx.out.mono ?_;rintro e w3 ⟨g',jc,rfl,lM,hgrow,hor⟩;have Ja:=(hgrow.block mb (bU HMA.out).1 hne).trans HMA.out;obtain⟨t0,f0⟩:=mo Ja;have YV:=ay lM;have Us:=ay hgrow;have HR3:=ay hor;have HB3:=ay Ja;clear lM hgrow hor Ja);go_ret;refine⟨⟨_,rfl⟩,⟨_,_,⟨HW.out,kG w3 mb 0 _ _ _ HB3.out,?_⟩,by omega,HP.out⟩,?_,λk cs T fr hk hT hq=>?_⟩
  ·rw[HL.out]
   exact iQ YV.out (λq=>own_ne YV.out HB3.out (by decide) q) _
  ·exact((((hb2.mono hB).trans (hAb.mono (iY hB hz2))).grown Us.out (iY (iY hB hz2) hAb.size) (λb q=>(hmx.out.own.lt b q).1))).setCell hBm _
  ·obtain⟨q1,q2⟩:=HNE.out k cs T fr hT hq
   exact(qo _ _ _ _ hk).trans ((Us.out.block k (by have:=hAb.size;omega) q2).trans ((iB w2 _ k (by omega)).trans (hb2.block k q1)))
theorem Tryz.YC:(Tryz.prog.info? 226).map (λi=>(i.zero,i.size,i.bytes))=some (some (.agg #[.string ⟨#[]⟩,.int .i64 0]),2,24):=by kernel_rfl
def yZ (l:ML)(w:World)(e:Ending)(w':World):Prop:=∃ a c,e=.returned (.slice a l.length c)/\w'.ownsRow w.heap.size 226 2 (.slice a l.length c) l.length (eF l)/\Below w.heap.size w w'
theorem UG (B mb:Nat)(v:Value)(l:ML)(w:World)(h:Rf B mb v l w)(hn:l.length<=1000000) :
  Calls Tryz.prog 260 #[v] w (yZ l w):=by
 obtain⟨i0,hi,hz0,hz1,hz2⟩:=info_parts Tryz.YC;have hu:=yA h.wf;have hrl:=kM h.wf.wid;obtain⟨ao,cap,rfl,hcap,_,hf⟩:=Sl.fZ h.own
 have q22:∀ (w:World) (a:Option Addr) (n c n' c':Nat),(binOp .eql 222 (.slice a n c) (.slice none n' c')).run Tryz.prog w=.ok (.bool a.isNone) w:=λw a n c n' c'=>Lib.run_eql_slice_nil w _ _ a n c n' c' Tryz.underlying222
 have u22:∀ w,Sem.run Tryz.prog (underlying 222) w=.ok (TypeDesc.slice 226) w:=run_underlying Tryz.underlying222;unfold yZ;generalize eF l=mr at *
 cases ao with
 | none =>
  have hn0:l.length=0:=by
   rcases Nat.eq_zero_or_pos l.length with q|q
   ·exact q
   ·obtain⟨b,off,q1,_⟩:=hf q;cases q1
  obtain rfl:mr=[]:=List.eq_nil_of_length_eq_zero (by omega);rw[hn0];clear hf hrl hu h;go_enter Tryz.func260,Tryz.ntmps260;go_wp2;go_ret;exact⟨_,_,rfl,World.ownsRow_nil _ _ _ _,bY _ _⟩
 | some ad =>
  have hnews:∀ j u,mr[j]?=some u->w.cell? (ad.add j)=some u/\(ad.add j).block<w.heap.size:=λj u hj=>by
   obtain⟨h2,h3⟩:=qm hj;obtain⟨b,off,q1,q3,q2⟩:=hf (by omega)
   injection q1 with q1
   rw[q1,Addr.add_lit,q2 j h2,h3];exact⟨rfl,q3⟩
  have A:=ay hnews;have HLEN:=ay hrl;have HU:=ay hu;clear hf hrl hu hnews h;generalize l.length=n at *;go_enter Tryz.func260,Tryz.ntmps260;go_wp2_with (at_builtin;refine wpList_append_own _ rfl _ _ 222 rfl w.heap.size 226 i0 (.agg #[.string ⟨#[]⟩,.int .i64 0]) 2 24 Tryz.underlying222 hi hz0 hz1 hz2 rfl (by decide) _ _ _ rfl (World.ownsRow_made w #[] 0 (bI _) (mD _) rfl) ad n cap mr rfl ?qc1 ?qc2 ?qc3 ?qc4 ?qc5 ?qc6 ?_)
  case qc1=>exact HLEN.out
  case qc2 =>
   intro j u hj;have:=A.out j u hj;rw[AJ (iB w _ _ this.2)];exact this.1
  case qc3=>exact HU.out
  case qc4=>unfold maxLen;omega
  case qc5=>omega
  case qc6=>simp
  intro v' w1 hown hgrow hnil
  have hvf:∃ a c,v'=.slice a n c:=by
   rcases hown.2 with ⟨q,q2⟩|⟨g,jc,cur,q,_⟩
   ·exact⟨none,0,by rw[q,show n=0 by omega]⟩
   ·exact⟨_,_,q⟩
  obtain⟨a',c',rfl⟩:=hvf;go_wp2;go_ret;exact⟨a',c',rfl,by simpa using hown,((bY _ w).alloc (bI _) _).grown hgrow (by simp) (by intro k hk;simp[Value.ownBlock] at hk;omega)⟩
theorem YD (B mb n:Nat)(g:gX)(w:World)(h:kY B mb g n w)(hn:n<=1000000) :
  Calls Tryz.prog 145 #[.pointer (some ⟨mb,0,none⟩)] w λe w'=>∃ b,e=.returned (.pointer (some ⟨b,0,none⟩))/\kY w.heap.size b g n w'/\w.heap.size<=b/\Below w.heap.size w w':=by
 obtain⟨v,ml,h1,h2,h3⟩:=h;have HC:=ay (UG B mb v ml w h1 (by omega));have m0:=(mo h1.box).1
 have HP:Hid (Calls Tryz.prog 222 #[.pointer (some ⟨mb,0,none⟩)] w (yZ ml w)):=ay (by
  clear h1 h3 h2;unfold yZ at HC |-;generalize eF ml=mr at *;generalize ml.length=L at *;go_enter Tryz.func222,Tryz.ntmps222;go_wp2_with (go_at_call 260;refine HC.out.mono ?_;rintro e w2 ⟨a',c',rfl,hown,hb2⟩);go_ret
  exact⟨a',c',rfl,hown,hb2⟩)
 have HW:=ay h1.wf;have H3:=ay h3;clear h1 HC h3;go_enter Tryz.func145,Tryz.ntmps145;go_wp2_with (go_at_call 222;refine HP.out.mono ?_;rintro e w2 ⟨a',c',rfl,hown,hb2⟩);go_ret;exact⟨w2.heap.size,rfl,⟨_,ml,⟨HW.out,aZ _ _,own_below hown (aB w2 _)⟩,h2,H3.out⟩,hb2.size,hb2.alloc hb2.size _⟩
theorem acR (w:World):Calls Tryz.prog 82 #[] w λe w'=>e=.returned (.pointer (some ⟨w.heap.size,0,none⟩))/\kY w.heap.size w.heap.size (λ_=>none) 0 w'/\Below w.heap.size w w':=by
 go_enter Tryz.func82,Tryz.ntmps82;go_wp2;go_ret;exact⟨rfl,⟨_,[],⟨yV.nil 1,aZ _ _,World.ownsRow_nil _ _ _ _⟩,bI _,λ_=>rfl⟩,aB _ _⟩
structure Rj where
 pi:Value
 pd:Value
 fs:Value
def jv (C:Rj)(cb:Nat)(f:Fl)(w:World):Prop:=w.heap[cb]?=some (.cells #[C.pi,C.pd,C.fs,.int .i64 (EA f),.int .i64 (JA f)] 118 (0,0))
theorem jv.lt {C:Rj}(h:jv C cb f w):cb<w.heap.size:=(bU h).1
theorem jv.below {C:Rj}(h:jv C cb f w)(hb:Below w.heap.size w w'):jv C cb f w':=(hb.block cb h.lt).trans h
theorem jv.cells {C:Rj}(h:jv C cb f w):(w.cell? ⟨cb,3,none⟩=some (.int .i64 (EA f))/\w.cell? ⟨cb,4,none⟩=some (.int .i64 (JA f)))/\w.frozen? ⟨cb,3,none⟩=false/\w.frozen? ⟨cb,4,none⟩=false:=by
 refine⟨⟨?_,?_⟩,by rw[jv] at h;simp[World.frozen?,h],by rw[jv] at h;simp[World.frozen?,h]⟩
 all_goals (rw[bg h];rfl)
theorem jv.put {C:Rj}(h:jv C cb f w)(e a:Int):jv C cb (some (e,a)) ((w.setCell ⟨cb,3,none⟩ (.int .i64 e)).setCell ⟨cb,4,none⟩ (.int .i64 a)):=kG _ cb 4 _ _ _ (kG w cb 3 _ _ _ h)
def CkU (C:Rj)(cb:Nat)(f:Fl)(w:World)(r:Ending)(w':World):Prop:=r=.returned (.tuple #[])/\jv C cb f w'/\aR cb w w'
def UH (C:Rj)(cb:Nat)(v:Int × Fl)(w:World)(r:Ending)(w':World):Prop:=r=.returned (.int .i64 v.1)/\jv C cb v.2 w'/\aR cb w w'
theorem acS (C:Rj)(cb:Nat)(f:Fl)(w:World)(h:jv C cb f w)(hf:bT f):Calls Tryz.prog 140 #[.pointer (some ⟨cb,0,none⟩)] w λe w'=>e=.returned (.bool f.isNone)/\w'=w:=by
 obtain⟨⟨c3,c4⟩,-,-⟩:=h.cells
 have hq:((EA f) == 0)=f.isNone:=by
  cases f with
  | none=>rfl
  | some x=>exact Fa.2 (hf x rfl)
 clear h hf c4;generalize f.isNone=b at *;generalize EA f=e at *;go_enter Tryz.func140,Tryz.ntmps140;go_wp2;go_ret;exact⟨rfl,rfl⟩
theorem ael (C:Rj)(cb:Nat)(f:Fl)(w:World)(h:jv C cb f w)(hf:bT f):Calls Tryz.prog 220 #[.pointer (some ⟨cb,0,none⟩)] w (CkU C cb (nG f (some (10,0))) w):=by
 obtain⟨⟨c3,c4⟩,z3,z4⟩:=h.cells;have HK:=ay (acS C cb f w h hf);have HP:=ay (h.put 10 0);have H:=ay h;clear h hf
 cases f with
 | none =>
  go_enter Tryz.func220,Tryz.ntmps220;go_wp2_with (go_at_call 140;refine HK.out.mono ?_;rintro e w1 ⟨rfl,rfl⟩)
  go_end0
  exact⟨rfl,HP.out,(aR.set _ 3 _).trans (aR.set _ 4 _)⟩
 | some x =>
  clear c3 c4;go_enter Tryz.func220,Tryz.ntmps220;go_wp2_with (go_at_call 140;refine HK.out.mono ?_;rintro e w1 ⟨rfl,rfl⟩)
  go_end0
  exact⟨rfl,H.out,aR.refl _ _⟩
theorem Cm (C:Rj)(cb:Nat)(f:Fl)(op:Int)(NM MD:ByteArray)(ng ys:Bool)(mv kv:Value)(a_ b want:Int)(w:World)(h:jv C cb f w)(hf:bT f) :
  Calls Tryz.prog 85 #[.pointer (some ⟨cb,0,none⟩),.agg (aT op NM MD ng mv ys kv a_),.int .i64 b,.int .i64 want] w (CkU C cb (mO f a_ b want) w):=by
 have hal:=aB w (.cells (aT op NM MD ng mv ys kv a_) 64);have g0:=aZ w (.cells (aT op NM MD ng mv ys kv a_) 64);have h1:=h.below hal;have hk:=aR.of hal h.lt;clear h;go_enter Tryz.func85,Tryz.ntmps85
 go_upto_region 1 with fail
 change Code.wp _ _ _ _ (w.alloc _);generalize w.alloc _=w1 at *;have HK:=ay (acS C cb f w1 h1 hf);have HP:=ay (h1.put 34 a_);have H:=ay h1;obtain⟨⟨c3,c4⟩,z3,z4⟩:=h1.cells;obtain⟨-,-,-,-,-,-,-,y7⟩:=aL g0;clear g0 h1 hal
 cases f with
 | none =>
  by_cases hb:b=want
  ·have hbI:(b != want)=false:=by simp[hb]
   have HE:Hid (mO none a_ b want=none):=ay (by rw[mO,bq hb];rfl);clear hb;go_wp2_with (go_at_call 140;refine HK.out.mono ?_;rintro e w2 ⟨rfl,rfl⟩)
   go_end0
   exact⟨rfl,by rw[HE.out];exact H.out,hk⟩
  ·have hbI:(b != want)=true:=bne_iff_ne.2 hb
   have HE:Hid (mO none a_ b want=some (34,a_)):=ay (by rw[mO,aP hb];rfl);clear hb;go_wp2_with (go_at_call 140;refine HK.out.mono ?_;rintro e w2 ⟨rfl,rfl⟩)
   go_end0
   exact⟨rfl,by rw[HE.out];exact HP.out,hk.trans ((aR.set _ 3 _).trans (aR.set _ 4 _))⟩
 | some x =>
  clear c3 c4;go_wp2_with (go_at_call 140;refine HK.out.mono ?_;rintro e w2 ⟨rfl,rfl⟩)
  go_end0
  exact⟨rfl,H.out,hk⟩
theorem aem (C:Rj)(cb B mb n:Nat)(g:gX)(op:Int)(nm MD:aH)(ng ys:Bool)(mv kv:Value)(a_:Int)(w:World)(h:jv C cb none w)(hg:kY B mb g n w)(hn:n<=1000000) :
  Calls Tryz.prog 141 #[.pointer (some ⟨cb,0,none⟩),.agg (aT op ⟨nm.toArray⟩ ⟨MD.toArray⟩ ng mv ys kv a_),.pointer (some ⟨mb,0,none⟩)] w (UH C cb (BP g nm) w):=by
 have hal:=aB w (.cells (aT op ⟨nm.toArray⟩ ⟨MD.toArray⟩ ng mv ys kv a_) 64);have g0:=aZ w (.cells (aT op ⟨nm.toArray⟩ ⟨MD.toArray⟩ ng mv ys kv a_) 64);have h1:=h.below hal;have hg1:=hg.below hal;have hk:=aR.of hal h.lt;clear h hg;go_enter Tryz.func141,Tryz.ntmps141
 go_upto_region 1 with fail
 change Code.wp _ _ _ _ (w.alloc _);generalize w.alloc _=w1 at *;have HG:=ay (acQ B mb n g nm w1 hg1 hn);have H:=ay h1;obtain⟨-,y1,-⟩:=aL g0;clear g0 h1 hal hg1
 cases hq:g nm with
 | some b =>
  rw[hq] at HG;simp only[Option.getD_some,Option.isSome_some] at HG;have HN:Hid (BP g nm=(b,none)):=ay (by rw[BP,hq]);clear hq;go_wp2_with (go_at_call 219;refine HG.out.mono ?_;rintro e w2 ⟨rfl,hb2⟩);go_ret;exact⟨by rw[HN.out];rfl,by rw[HN.out];exact H.out.below hb2,hk.trans (aR.of hb2 H.out.lt)⟩
 | none =>
  rw[hq] at HG;simp only[Option.getD_none,Option.isSome_none] at HG;have HN:Hid (BP g nm=(0,some (10,0))):=ay (by rw[BP,hq]);clear hq;go_wp2_with (first|(go_at_call 219;refine HG.out.mono ?_;rintro e w2 ⟨rfl,hb2⟩)|(go_at_call 220;refine(ael C cb none _ (H.out.below hb2) bT.none).mono ?_;rintro e w3 ⟨rfl,h3,fM⟩));go_ret;exact⟨by rw[HN.out];rfl,by rw[HN.out];exact h3,(hk.trans (aR.of hb2 H.out.lt)).trans fM⟩
def Av (x:PZ):Prop:=∀ (C:Rj) (cb B mb n:Nat) (g:gX) (res:Int) (f:Fl) (am:Option Addr) (wn cm:Nat) (ae:Option Addr) (ce:Nat) (w:World),jv C cb f w->bT f->kY B mb g n w->n+x.size<=500000->nD YA (λb=>b≠cb) w (.slice am wn cm) (.slice ae x.aA.length ce) x ->
 Calls Tryz.prog 86 #[.pointer (some ⟨cb,0,none⟩),.agg (aT x.op ⟨x.name.toArray⟩ ⟨x.module.toArray⟩ (decide (x.num<0)) (.slice am wn cm) x.yes (.slice ae x.aA.length ce) x.at_),.pointer (some ⟨mb,0,none⟩),.int .i64 res] w (UH C cb (x.ty g res f) w)
theorem kY.ck {C:Rj}(h:kY B mb g n w)(hc:jv C cb f w)(ha:bA (λb=>b≠cb) w w'):kY B mb g n w':=h.alk hc (by decide) (by decide) ha
theorem aR.drew (lb:Nat)(w:World):aR lb w w.drew:=⟨λB _=>(bY B w).drew,⟨bI _,λb _ _=>rfl⟩⟩
theorem sV (a b want:Int)(h:bT f):bT (mO f a b want):=h.or (by split;exact bT.none;exact bT.some (by decide))
def NQ (k:rF):Prop:=∀ g res f,bT f->bT (k g res f).2
theorem yE (g:gX)(res want:Int):∀ {l:List (Int × rF)} {f:Fl},(∀ k∈l,NQ k.2)->bT f->bT (kL g res want f l)
 | [],_,_,h=>h
 | k :: l,f,hl,h=>by rw[kL];exact yE g res want (λx hx=>hl x (xu _ hx)) (sV _ _ _ (hl k xq g res f h))
theorem wG (h:∀ k∈l,NQ k.2)(i:Nat):NQ (wX l i).2:=by
 unfold wX;rw[Fb]
 cases q:l[i]? with
 | none=>exact λg res f hf=>hf
 | some k=>exact h k (List.mem_of_getElem? q)
theorem LK (g:gX)(res:Int){k m:Int × rF}(h1:NQ k.2)(h2:NQ m.2)(hf:bT f):bT (oN g res f k m).2:=sV _ _ _ (h2 g res _ (h1 g res f hf))
theorem aen (op:Int)(nm:aH)(h:∀ k∈l,NQ k.2):NQ (Qp op nm l):=by
 intro g res f hf
 cases f with
 | some x=>exact hf
 | none =>
  have k0:=wG h 0 g res none hf;show bT (wz op nm l g res).2;unfold wz
  split
  ·exact hf
  split
  ·exact hf
  split
  ·unfold BP;split;exact bT.none;exact bT.some (by decide)
  split
  ·exact hf
  split
  ·exact yE g res 1 h hf
  split
  ·exact yE g res 1 h hf
  split
  ·exact LK g res (wG h 0) (wG h 1) hf
  split
  ·exact yE g res 2 h hf
  split
  ·exact wG h 1 _ res _ k0
  ·unfold afy
   split
   ·exact LK g res (wG h 1) (wG h 2) (sV _ _ _ k0)
   ·exact wG h 1 g res _ (sV _ _ _ k0)
mutual
theorem PZ.Cn:∀ e:PZ,NQ e.ty
 | .mk op nm md num yes aA a=>by rw[PZ.ty];exact aen op nm (UJ aA)
theorem UJ:∀ (l:List PZ),∀ k∈TW l,NQ k.2
 | [],k,h=>by cases h
 | e :: l,k,h=>by
  rcases oo.1 h with q|q
  ·rw[q];exact PZ.Cn e
  ·exact UJ l k q
end
theorem agd (x:PZ)(IHx:∀ k∈x.aA,Av k)(C:Rj)(cb B mb n:Nat)(g:gX)(res want:Int)(f:Fl)(am:Option Addr)(wn cm:Nat)(ae:Option Addr)(ce:Nat)(w:World)(h:jv C cb f w)(hf:bT f)(hg:kY B mb g n w)(hn:n+x.size<=500000)(hZ:nD YA (λb=>b≠cb) w (.slice am wn cm) (.slice ae x.aA.length ce) x) :
  Calls Tryz.prog 142 #[.pointer (some ⟨cb,0,none⟩),.agg (aT x.op ⟨x.name.toArray⟩ ⟨x.module.toArray⟩ (decide (x.num<0)) (.slice am wn cm) x.yes (.slice ae x.aA.length ce) x.at_),.pointer (some ⟨mb,0,none⟩),.int .i64 res,.int .i64 want] w (CkU C cb (kL g res want f (x.aA.map λe=>(e.at_,e.ty))) w):=by
 have hal:=aB w (.cells (aT x.op ⟨x.name.toArray⟩ ⟨x.module.toArray⟩ (decide (x.num<0)) (.slice am wn cm) x.yes (.slice ae x.aA.length ce) x.at_) 64);have g0:=aZ w (.cells (aT x.op ⟨x.name.toArray⟩ ⟨x.module.toArray⟩ (decide (x.num<0)) (.slice am wn cm) x.yes (.slice ae x.aA.length ce) x.at_) 64);obtain⟨_,ae',ce',hv,_,hform⟩:=hZ.form;simp only[Value.slice.injEq] at hv;obtain⟨rfl,-,rfl⟩:=hv;have h1:=h.below hal;have hk1:=aR.of hal h.lt;have hks:=x.xY
 have hcap:=λi (hi:i<x.aA.length)=>Cg hi
 have hkl:=Ar x.aA;have HF:=ay hform;have HSZ:=ay hcap;have IH:=ay IHx;have H0:=ay (iq h hg);have JB:=ay hf;rw[hks] at hn;clear hform hcap IHx h hg hZ hf hks;generalize x.aA=ks at *;generalize x.op=op at *;generalize x.name=nm at *;generalize x.module=md at *;generalize decide (x.num<0)=ng at *;generalize x.yes=ys at *;generalize x.at_=a_ at *;go_enter Tryz.func142,Tryz.ntmps142
 go_upto_region 1 with fail
 change Code.wp _ _ _ _ (w.alloc _);generalize w.alloc _=w1 at *;obtain⟨-,-,-,-,-,-,y6,-⟩:=aL g0;have H1:=ay h1;clear g0 h1;go_wp2
 go_loopw [15] (λq wr=>∃ k:Nat,k<=ks.length/\q=.int .i64 k/\jv C cb (kL g res want f ((ks.take k).map λe=>(e.at_,e.ty))) wr/\aR cb w1 wr) (λq _=>ks.length - (intOf q).toNat)
 case atStart=>exact⟨0,mD _,rfl,H1.out,aR.refl _ _⟩
 case round =>
  obtain⟨k,hk,rfl,hr,hkr⟩:=hrel;have hkw:=hk1.trans hkr;have HR:=ay hr;clear hr
  by_cases hlt:k<ks.length
  ·obtain⟨b,off,rfl,hPb,hbw,kK⟩:=HF.out (by omega)
   obtain⟨m,kv,hE,hc⟩:=kK k hlt;obtain⟨oK,oL,oM,oZ,o8,rfl,rfl⟩:=hE.Xt
   have iU:∀ (j:Nat) (u:Value),w.cell? ⟨b,off+k * 8+j,none⟩=some u->wr.cell? ⟨b,off+k * 8+j,none⟩=some u:=λj u q=>(AJ (a:=⟨b,off+k * 8+j,none⟩) (hkw.2.2 b hPb hbw)).trans q
   have x0:=iU 0 _ (hc 0 _ rfl);have x1:=iU 1 _ (hc 1 _ rfl);have x2:=iU 2 _ (hc 2 _ rfl);have x3:=iU 3 _ (hc 3 _ rfl);have x4:=iU 4 _ (hc 4 _ rfl);have x5:=iU 5 _ (hc 5 _ rfl);have x6:=iU 6 _ (hc 6 _ rfl);have x7:=iU 7 _ (hc 7 _ rfl);rw[qp] at x0;simp only[dX] at x1 x2;have hsz:=HSZ.out k hlt;have Ry:=ay (TY g res want f hlt);have HIH:=ay (IH.out _ (oQ hlt));have HEE:=ay (hE.frame hkw.2);have JV:bT (kL g res want f ((ks.take k).map λe=>(e.at_,e.ty))):=yE g res want (by rw[<- H9];exact UJ _) JB.out;clear kK hE hc iU;generalize ks[k]=x at *;generalize kL g res want f ((ks.take k).map λe=>(e.at_,e.ty))=fk at *
   have qF:(k:Int)<(ks.length:Int):=by omega
   go_upto_region 4 with fail
   change Code.wp _ _ _ _ (wr.alloc (.cells (aT x.op ⟨x.name.toArray⟩ ⟨x.module.toArray⟩ (decide (x.num<0)) (.slice oK oL oM) x.yes (.slice oZ x.aA.length o8) x.at_) 64));have fU:=aB wr (.cells (aT x.op ⟨x.name.toArray⟩ ⟨x.module.toArray⟩ (decide (x.num<0)) (.slice oK oL oM) x.yes (.slice oZ x.aA.length o8) x.at_) 64);have gk:=aZ wr (.cells (aT x.op ⟨x.name.toArray⟩ ⟨x.module.toArray⟩ (decide (x.num<0)) (.slice oK oL oM) x.yes (.slice oZ x.aA.length o8) x.at_) 64);clear x0 x1 x2 x3 x4 x5 x6 x7 y6;generalize wr.alloc _=wy at *;have hcl:cb<wr.heap.size:=HR.out.lt;have hky:=aR.of fU hcl;have hlk:=(bU gk).1
   have hne:wr.heap.size≠cb:=by omega
   have HX:Hid (∀ W,bA (λb=>b≠cb) wy W->jv C cb fk W->Calls Tryz.prog 86 #[.pointer (some ⟨cb,0,none⟩),.agg #[.int .i64 x.op,.string ⟨x.name.toArray⟩,.string ⟨x.module.toArray⟩,.bool (decide (x.num<0)),.slice oK oL oM,.bool x.yes,.slice oZ x.aA.length o8,.int .i64 x.at_],.pointer (some ⟨mb,0,none⟩),.int .i64 res] W (UH C cb (x.ty g res fk) W)) :=
    ay λW hW hc=>HIH.out C cb B mb n g res fk oK oL oM oZ o8 W hc JV (H0.out.2.ck H0.out.1 (hkw.2.trans (hky.2.trans hW))) (by omega) (HEE.out.frame (hky.2.trans hW))
   have Jo:=PZ.Cn x g res fk JV
   obtain⟨v,hv⟩:∃ v,v=x.ty g res fk:=⟨_,rfl⟩
   rw[<- hv] at HX Jo
   have HMU:Hid (∀ W,jv C cb v.2 W->Calls Tryz.prog 85 #[.pointer (some ⟨cb,0,none⟩),.agg #[.int .i64 x.op,.string ⟨x.name.toArray⟩,.string ⟨x.module.toArray⟩,.bool (decide (x.num<0)),.slice oK oL oM,.bool x.yes,.slice oZ x.aA.length o8,.int .i64 x.at_],.int .i64 v.1,.int .i64 want] W (CkU C cb (mO v.2 x.at_ v.1 want) W)):=ay λW hc=>Cm C cb v.2 _ _ _ _ _ _ _ _ _ _ W hc Jo
   rw[<- hv] at Ry
   have HS:Hid (∀ W,bA (λb=>b≠cb) wy W->(W.cell? ⟨wr.heap.size,0,none⟩=some (.int .i64 x.op)/\W.cell? ⟨wr.heap.size,1,none⟩=some (.string ⟨x.name.toArray⟩)/\W.cell? ⟨wr.heap.size,2,none⟩=some (.string ⟨x.module.toArray⟩)/\W.cell? ⟨wr.heap.size,3,none⟩=some (.bool (decide (x.num<0)))/\W.cell? ⟨wr.heap.size,4,none⟩=some (.slice oK oL oM)/\W.cell? ⟨wr.heap.size,5,none⟩=some (.bool x.yes)/\W.cell? ⟨wr.heap.size,6,none⟩=some (.slice oZ x.aA.length o8)/\W.cell? ⟨wr.heap.size,7,none⟩=some (.int .i64 x.at_))):=ay λW hW=>aL ((hW.2 wr.heap.size hne hlk).trans gk)
   have p3:=HS.out wy (bA.refl _ _);have hcy:=HR.out.below fU;have HCY:=ay hcy;have HVV:Hid ((x.ty g res fk)=v):=ay hv.symm;have HRK:Hid (aR cb w1 wy):=ay (hkr.trans hky);clear hv gk hcy Jo fU hkr hky hkw
   go_region_held3 (λW=>W.cell? ⟨wr.heap.size,0,none⟩=some (.int .i64 x.op)/\W.cell? ⟨wr.heap.size,1,none⟩=some (.string ⟨x.name.toArray⟩)/\W.cell? ⟨wr.heap.size,2,none⟩=some (.string ⟨x.module.toArray⟩)/\W.cell? ⟨wr.heap.size,3,none⟩=some (.bool (decide (x.num<0)))/\W.cell? ⟨wr.heap.size,4,none⟩=some (.slice oK oL oM)/\W.cell? ⟨wr.heap.size,5,none⟩=some (.bool x.yes)/\W.cell? ⟨wr.heap.size,6,none⟩=some (.slice oZ x.aA.length o8)/\W.cell? ⟨wr.heap.size,7,none⟩=some (.int .i64 x.at_))
    (first|(with_reducible exact p3)|(with_reducible exact p4)|(with_reducible exact p5)|(go_keep;done))
    (first
     | (go_at_call 85;refine(HMU.out _ h6).mono ?_;rintro r w7 ⟨rfl,h7,zk⟩;have p5:=HS.out w7 (qY.2.trans zk.2))
     | (go_at_call 86;refine(HX.out wy.drew (bA.refl _ _) HCY.out).mono ?_;rintro r w6 ⟨rfl,h6,qY⟩;have p4:=HS.out w6 qY.2))
   all_goals
    go_wp2_with fail
    go_roundw
    case rel=>exact⟨k+1,by omega,by go_num,by rw[Ry.out];exact h7,HRK.out.trans (((aR.drew cb wy).trans qY).trans zk)⟩
    case measure=>simp[intOf];omega
  ·obtain rfl:k=ks.length:=by omega
   have qF:decide ((ks.length:Int)<(ks.length:Int))=false:=fu (by omega);go_wp2
   go_end0
   refine⟨rfl,?_,hkw⟩;have:=HR.out;rw[Fe] at this;exact this
theorem Rk (x y:PZ)(IX:Av x)(IY:Av y)(C:Rj)(cb B mb n:Nat)(g:gX)(res:Int)(f:Fl)(rC:Option Addr)(rD rE:Nat)(Az:Option Addr)(AA:Nat)(oK:Option Addr)(oL oM:Nat)(oZ:Option Addr)(o8:Nat)(w:World)(h:jv C cb f w)(hf:bT f)(hg:kY B mb g n w)(hx:n+x.size<=500000)(hy:n+y.size<=500000)(hX:nD YA (λb=>b≠cb) w (.slice rC rD rE) (.slice Az x.aA.length AA) x)(hY:nD YA (λb=>b≠cb) w (.slice oK oL oM) (.slice oZ y.aA.length o8) y) :
  Calls Tryz.prog 143 #[.pointer (some ⟨cb,0,none⟩),.agg (aT x.op ⟨x.name.toArray⟩ ⟨x.module.toArray⟩ (decide (x.num<0)) (.slice rC rD rE) x.yes (.slice Az x.aA.length AA) x.at_),.agg (aT y.op ⟨y.name.toArray⟩ ⟨y.module.toArray⟩ (decide (y.num<0)) (.slice oK oL oM) y.yes (.slice oZ y.aA.length o8) y.at_),.pointer (some ⟨mb,0,none⟩),.int .i64 res] w (UH C cb (oN g res f (x.at_,x.ty) (y.at_,y.ty)) w):=by
 have hal:=(aB w (.cells (aT x.op ⟨x.name.toArray⟩ ⟨x.module.toArray⟩ (decide (x.num<0)) (.slice rC rD rE) x.yes (.slice Az x.aA.length AA) x.at_) 64)).alloc (by simp) (.cells (aT y.op ⟨y.name.toArray⟩ ⟨y.module.toArray⟩ (decide (y.num<0)) (.slice oK oL oM) y.yes (.slice oZ y.aA.length o8) y.at_) 64);have g1:=(iB (w.alloc (.cells (aT x.op ⟨x.name.toArray⟩ ⟨x.module.toArray⟩ (decide (x.num<0)) (.slice rC rD rE) x.yes (.slice Az x.aA.length AA) x.at_) 64)) (.cells (aT y.op ⟨y.name.toArray⟩ ⟨y.module.toArray⟩ (decide (y.num<0)) (.slice oK oL oM) y.yes (.slice oZ y.aA.length o8) y.at_) 64) w.heap.size (by simp)).trans (aZ w (.cells (aT x.op ⟨x.name.toArray⟩ ⟨x.module.toArray⟩ (decide (x.num<0)) (.slice rC rD rE) x.yes (.slice Az x.aA.length AA) x.at_) 64));have g2:=aZ (w.alloc (.cells (aT x.op ⟨x.name.toArray⟩ ⟨x.module.toArray⟩ (decide (x.num<0)) (.slice rC rD rE) x.yes (.slice Az x.aA.length AA) x.at_) 64)) (.cells (aT y.op ⟨y.name.toArray⟩ ⟨y.module.toArray⟩ (decide (y.num<0)) (.slice oK oL oM) y.yes (.slice oZ y.aA.length o8) y.at_) 64);rw[oU] at g2;have hcl:=h.lt;have hk1:=aR.of hal hcl;have h1:=h.below hal
 have HX:Hid (∀ W,bA (λb=>b≠cb) w W->jv C cb f W->Calls Tryz.prog 86 #[.pointer (some ⟨cb,0,none⟩),.agg #[.int .i64 x.op,.string ⟨x.name.toArray⟩,.string ⟨x.module.toArray⟩,.bool (decide (x.num<0)),.slice rC rD rE,.bool x.yes,.slice Az x.aA.length AA,.int .i64 x.at_],.pointer (some ⟨mb,0,none⟩),.int .i64 res] W (UH C cb (x.ty g res f) W)) :=
  ay λW hW hc=>IX C cb B mb n g res f rC rD rE Az AA W hc hf (hg.ck h hW) hx (hX.frame hW)
 have agf:=PZ.Cn x g res f hf;unfold oN;simp only
 obtain⟨u,hu⟩:∃ u,u=x.ty g res f:=⟨_,rfl⟩
 rw[<- hu] at HX agf |-
 have HY:Hid (∀ W,bA (λb=>b≠cb) w W->jv C cb u.2 W->Calls Tryz.prog 86 #[.pointer (some ⟨cb,0,none⟩),.agg #[.int .i64 y.op,.string ⟨y.name.toArray⟩,.string ⟨y.module.toArray⟩,.bool (decide (y.num<0)),.slice oK oL oM,.bool y.yes,.slice oZ y.aA.length o8,.int .i64 y.at_],.pointer (some ⟨mb,0,none⟩),.int .i64 res] W (UH C cb (y.ty g res u.2) W)) :=
  ay λW hW hc=>IY C cb B mb n g res u.2 oK oL oM oZ o8 W hc agf (hg.ck h hW) hy (hY.frame hW)
 have ahO:=PZ.Cn y g res u.2 agf
 obtain⟨v,hv⟩:∃ v,v=y.ty g res u.2:=⟨_,rfl⟩
 rw[<- hv] at HY ahO |-
 have HMU:Hid (∀ W,jv C cb v.2 W->Calls Tryz.prog 85 #[.pointer (some ⟨cb,0,none⟩),.agg #[.int .i64 y.op,.string ⟨y.name.toArray⟩,.string ⟨y.module.toArray⟩,.bool (decide (y.num<0)),.slice oK oL oM,.bool y.yes,.slice oZ y.aA.length o8,.int .i64 y.at_],.int .i64 v.1,.int .i64 u.1] W (CkU C cb (mO v.2 y.at_ v.1 u.1) W)):=ay λW hc=>Cm C cb v.2 _ _ _ _ _ _ _ _ _ _ W hc ahO
 clear hv hu IX IY h hg hX hY;go_enter Tryz.func143,Tryz.ntmps143
 go_upto_region 1 with fail
 change Code.wp _ _ _ _ ((w.alloc _).alloc (.cells (aT y.op ⟨y.name.toArray⟩ ⟨y.module.toArray⟩ (decide (y.num<0)) (.slice oK oL oM) y.yes (.slice oZ y.aA.length o8) y.at_) 64));generalize (w.alloc _).alloc (.cells (aT y.op ⟨y.name.toArray⟩ ⟨y.module.toArray⟩ (decide (y.num<0)) (.slice oK oL oM) y.yes (.slice oZ y.aA.length o8) y.at_) 64)=w1 at *;have hl2:=(bU g2).1
 have hne:w.heap.size+1≠cb:=by omega
 obtain⟨y0,y1,y2,y3,y4,y5,y6,y7⟩:=aL g1
 have HS:Hid (∀ W,bA (λb=>b≠cb) w1 W->(W.cell? ⟨w.heap.size+1,0,none⟩=some (.int .i64 y.op)/\W.cell? ⟨w.heap.size+1,1,none⟩=some (.string ⟨y.name.toArray⟩)/\W.cell? ⟨w.heap.size+1,2,none⟩=some (.string ⟨y.module.toArray⟩)/\W.cell? ⟨w.heap.size+1,3,none⟩=some (.bool (decide (y.num<0)))/\W.cell? ⟨w.heap.size+1,4,none⟩=some (.slice oK oL oM)/\W.cell? ⟨w.heap.size+1,5,none⟩=some (.bool y.yes)/\W.cell? ⟨w.heap.size+1,6,none⟩=some (.slice oZ y.aA.length o8)/\W.cell? ⟨w.heap.size+1,7,none⟩=some (.int .i64 y.at_))):=ay λW hW=>aL ((hW.2 (w.heap.size+1) hne hl2).trans g2)
 have H1:=ay h1;clear g1 g2 h1
 go_upto_region 2 with (go_at_call 86;refine(HX.out w1 hk1.2 H1.out).mono ?_;rintro r w2 ⟨rfl,h2,hk2⟩)
 clear y0 y1 y2 y3 y4 y5 y6 y7;have p3:=HS.out w2 hk2.2;have H2:=ay h2;clear h2
 go_region_held3 (λW=>W.cell? ⟨w.heap.size+1,0,none⟩=some (.int .i64 y.op)/\W.cell? ⟨w.heap.size+1,1,none⟩=some (.string ⟨y.name.toArray⟩)/\W.cell? ⟨w.heap.size+1,2,none⟩=some (.string ⟨y.module.toArray⟩)/\W.cell? ⟨w.heap.size+1,3,none⟩=some (.bool (decide (y.num<0)))/\W.cell? ⟨w.heap.size+1,4,none⟩=some (.slice oK oL oM)/\W.cell? ⟨w.heap.size+1,5,none⟩=some (.bool y.yes)/\W.cell? ⟨w.heap.size+1,6,none⟩=some (.slice oZ y.aA.length o8)/\W.cell? ⟨w.heap.size+1,7,none⟩=some (.int .i64 y.at_))
  (first|(with_reducible exact p3)|(with_reducible exact p4)|(with_reducible exact p5)|(go_keep;done))
  (first
   | (go_at_call 85;refine(HMU.out _ h6).mono ?_;rintro r w7 ⟨rfl,h7,zk⟩;have p5:=HS.out w7 (hk2.2.trans (qY.2.trans zk.2)))
   | (go_at_call 86;refine(HY.out w2.drew (hk1.2.trans hk2.2) H2.out).mono ?_;rintro r w6 ⟨rfl,h6,qY⟩;have p4:=HS.out w6 (hk2.2.trans qY.2)))
 all_goals
  go_wp2_with fail;go_ret;exact⟨rfl,h7,((hk1.trans hk2).trans ((aR.drew cb w2).trans qY)).trans zk⟩
