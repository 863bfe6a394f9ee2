/- Walks and plain laws: FOfW. -/
import Derived.Test.YtemkhbmkaalgdaaGreatDoorQ23
import Derived.Test.YtemkhbmkaalgdaaGreatDoorQ28
import Derived.Test.YtemkhbmkaalgdaaGreatDoorQ34
set_option maxHeartbeats 16000000
set_option maxRecDepth 100000
set_option linter.unusedVariables false
set_option linter.unusedSimpArgs false
namespace Go.Proofs.YtemkhbmkaalgdaaGreatDoor
open Go.RowKit Go
theorem Tryz.infoStrF:(Tryz.prog.info? 9).map (fun i=>(i.zero,i.size,i.bytes))=some (some (.string ⟨#[]⟩),1,16):=by kernel_rfl
theorem Tryz.infoDF:(Tryz.prog.info? 80).map (fun i=>(i.zero,i.size,i.bytes))=some (some (.agg #[.bool false,.slice none 0 0,.string ⟨#[]⟩,.int .i64 0,.slice none 0 0,.int .i64 0,.int .i64 0,.int .i64 0,.string ⟨#[]⟩,.string ⟨#[]⟩,.string ⟨#[]⟩,.bool false,.slice none 0 0,.int .i64 0]),14,192):=by kernel_rfl
theorem Tryz.entersFD:∀ args w,(callFunc 39 args).run Tryz.prog w=.ok (.enter 39 args) w:=Go.Proofs.enters_of Tryz.func39 (by kernel_rfl) rfl
theorem fde_ok {S:List UInt8}{toks:List Tok}{nodes:List Nd}{p:PgS}(F:PGood S toks nodes p)(B:Nat)(tv nv:Value):FdE B tv nv toks nodes:=by
 have hL:=lexAll_laid F.lexed
 have hs:=F.small
 refine ⟨fun v=>Nat.le_trans (place_len hL v) (by omega),F.good.kids,fun cl e u ho hl k W hr hT hW=>?_⟩
 refine fexpr_reads ⟨B,tv,nv,toks,nodes,cl⟩ ⟨F.good.fewt,fun u hu hk W=>?_⟩ (SizeOf.sizeOf e+1) e u (by omega) ho hl k W hr ⟨hT,hW⟩
 have h:=lexAll_nums F.lexed _ (peek_mem hL.some u) hk
 obtain ⟨X,hX,eX⟩:=bytes_of (textAt toks u)
 simp only
 rw [eX,← hX]
 have h':numTok X.data.toList:=by rw [hX];exact h
 refine zparse_any X W ?_ ?_ h'.1 (fun q=>by rw [← size_list];exact h'.2.2.2 q)
 ·rw [← size_list];exact List.length_pos_iff.2 h'.2.1
 ·rw [← size_list];exact h'.2.2.1
theorem imp_kidF {nodes:List Nd}{m u:Nat}(h:Rep nodes m u impPT):∃ (k0 k1 k2:Nat),nodes[m]?=some ⟨(2:Nat),-1,[(k0:Int),k1,k2]⟩∧nodes[k1]?=some ⟨19,((u+1:Nat):Int),[]⟩:=by
 obtain ⟨ks,h1,h2⟩:=rep_node h
 obtain ⟨k0,ks0,rfl,_,h3⟩:=repL_leaf h2
 obtain ⟨k1,ks1,rfl,h4,h5⟩:=repL_leaf h3
 obtain ⟨k2,ks2,rfl,_,h6⟩:=repL_leaf h5
 rw [RepL] at h6
 subst h6
 exact ⟨k0,k1,k2,h1,h4⟩
theorem OfSt.below {IK:RK (List UInt8 × Nat) Unit}{DK:RK DD DV}{p:PP}{wl:World}{pb e1 e2 j:Nat}{W W':World}{iv dv:Value}(h:OfSt IK DK p wl pb e1 e2 j W iv dv)(hb:Below W.heap.size W W'):OfSt IK DK p wl pb e1 e2 j W' iv dv:=by
 rcases h with ⟨h1,h2,h3⟩|⟨h1,h2,w2,h3,h4,h5,h6,h7⟩
 ·exact .inl ⟨h1,h2.below hb,h3⟩
 ·exact .inr ⟨h1,h2,w2,h3,h4,h5,h6.trans (Alk.of hb),h7.below hb⟩
def FOfPost (p:PP)(w:World)(e:Ending)(w':World):Prop :=
 ∃ ai ci ad cd,e=.returned (.agg #[.slice ai p.imports.length ci,.slice ad p.defs.length cd])∧PAtR (fun b=>w.heap.size≤b) w' (.slice ai p.imports.length ci) (.slice ad p.defs.length cd) p∧Below w.heap.size w w'
theorem fof_yes (B:Nat)(at_:Option Addr)(ct:Nat)(an:Option Addr)(cn:Nat)(S:ByteArray)(toks:List Tok)(nodes:List Nd)(p:PgS)(w:World)(h:TreeAt B w (.agg #[.slice at_ toks.length ct,.slice an nodes.length cn]) toks nodes)(hB:B≤w.heap.size)(F:PGood S.data.toList toks nodes p) :
  Calls Tryz.prog 16 #[.agg #[.slice at_ toks.length ct,.slice an nodes.length cn]] w (FOfPost (p.pp toks) w):=by
 obtain ⟨ii,hii1,hii2,hii3,hii4⟩:=info_parts Tryz.infoStrF
 obtain ⟨id,hid1,hid2,hid3,hid4⟩:=info_parts Tryz.infoDF
 have entD:=Tryz.entersFD
 have entL:=Tryz.entersFL
 have hft:=F.good.fewt
 have hfn:=F.good.few
 obtain ⟨r,ks,hr1,hn,hk⟩:=root_prog F
 obtain ⟨hlen,hat⟩:=repL_at _ _ _ hk
 have HAT:=Lib.hid hat
 have hkl:=p.kids_len
 rw [← hlen] at hkl
 have HKN:=Lib.hid hkl
 have hkpos:0<ks.length:=by omega
 have hkmax:ks.length≤81:=by have:=F.okk.1;have:=F.okk.2.1;omega
 clear hkl
 have HKL:=Lib.hid hlen
 have HLV:Hid (lvL p.kids=toks.length):=Lib.hid F.lv
 have E:=fde_ok F B (.slice at_ toks.length ct) (.slice an nodes.length cn)
 have HDEF:Hid (∀ (d:DfS) (u:Nat),d.ok toks u→u+d.pt.lv≤toks.length→∀ (m:Nat) (W:World),Rep nodes m u d.pt→TreeAt B W (.agg #[.slice at_ toks.length ct,.slice an nodes.length cn]) toks nodes→B≤W.heap.size→Calls Tryz.prog 39 #[.agg #[.slice at_ toks.length ct,.slice an nodes.length cn],.int .i64 m] W (FdPost (d.dd toks u) W)):=Lib.hid (fun d u ho hl m W hr hT hW=>fdef_any E d u ho hl m W hr hT hW)
 have HTK:Hid (∀ (k u:Nat) (W:World),nodes[k]?=some ⟨19,(u:Nat),[]⟩→u<toks.length→TreeAt B W (.agg #[.slice at_ toks.length ct,.slice an nodes.length cn]) toks nodes→B≤W.heap.size→Calls Tryz.prog 38 #[.agg #[.slice at_ toks.length ct,.slice an nodes.length cn],.int .i64 k] W fun e w'=>e=.returned (tokVal (peekF toks u))∧Below W.heap.size W w'):=Lib.hid (fun k u W hl hu hT hW=>by
  have:=fleaf_yes B _ _ toks nodes k u W hT hW hl hu
  have e:=tok_peek hu
  rw [List.getElem?_eq_getElem hu] at e
  rw [Option.some.inj e] at this
  exact this)
 have HOK:=Lib.hid F.okk
 have HPI:Hid ((p.pp toks).imports.length=p.imps):=Lib.hid (impsPP_len _ _ _)
 have HPD:Hid ((p.pp toks).defs.length=p.defs.length):=Lib.hid (defsDD_len _ _ _)
 have HIG:Hid (∀ (j:Nat) (hj:j<(p.pp toks).imports.length),(p.pp toks).imports[j]=(textAt toks (3 * j+1),placeAt toks (3 * j+1))):=Lib.hid (fun j hj=>by
  have:=impsPP_get toks p.imps 0 j hj
  rw [Nat.zero_add] at this
  exact this)
 have HDG:Hid (∀ (j:Nat) (h1:j<p.defs.length) (h2:j<(p.pp toks).defs.length),(p.pp toks).defs[j]=p.defs[j].dd toks (3 * p.imps+lvL ((p.defs.take j).map DfS.pt))):=Lib.hid (fun j h1 h2=>defsDD_get toks p.defs (3 * p.imps) j h1 h2)
 have hi16:=F.okk.1
 have hd64:=F.okk.2.1
 generalize p.pp toks=pp at HPI HPD HIG HDG ⊢
 have HT:=Lib.hid h
 obtain ⟨hi,hni⟩:=List.getElem?_eq_some_iff.1 hn
 obtain ⟨b,off,cap,kv,hnv,hbB,x0,x1,x2,hkv⟩:=h.node hi
 simp only [Value.slice.injEq] at hnv
 obtain ⟨rfl,-,rfl⟩:=hnv
 rw [hni] at hkv
 obtain ⟨ak,ck,rfl,_,hkf⟩:=hkv.form
 simp only at x2 hkf
 obtain ⟨bk,ok,rfl,hbk,hkc⟩:=hkf (by omega)
 have HKC:=Lib.hid hkc
 have hal:=((below_new w (.cells #[.slice at_ toks.length ct,.slice (some ⟨b,off,none⟩) nodes.length cn] 67)).alloc (by simp) (.cells #[.slice none 0 0,.slice none 0 0] 62)).alloc (by simp <;> omega) (.cells #[.slice none 0 0,.slice none 0 0] 62)
 have e1:=(Lib.alloc_old ((w.alloc (.cells #[.slice at_ toks.length ct,.slice (some ⟨b,off,none⟩) nodes.length cn] 67)).alloc (.cells #[.slice none 0 0,.slice none 0 0] 62)) (.cells #[.slice none 0 0,.slice none 0 0] 62) w.heap.size (by simp <;> omega)).trans ((Lib.alloc_old (w.alloc (.cells #[.slice at_ toks.length ct,.slice (some ⟨b,off,none⟩) nodes.length cn] 67)) (.cells #[.slice none 0 0,.slice none 0 0] 62) w.heap.size (by simp)).trans (heap_alloc_new w (.cells #[.slice at_ toks.length ct,.slice (some ⟨b,off,none⟩) nodes.length cn] 67)))
 have e2':=heap_alloc_new (w.alloc (.cells #[.slice at_ toks.length ct,.slice (some ⟨b,off,none⟩) nodes.length cn] 67)) (.cells #[.slice none 0 0,.slice none 0 0] 62)
 rw [World.size_alloc] at e2'
 have e2:=(Lib.alloc_old ((w.alloc (.cells #[.slice at_ toks.length ct,.slice (some ⟨b,off,none⟩) nodes.length cn] 67)).alloc (.cells #[.slice none 0 0,.slice none 0 0] 62)) (.cells #[.slice none 0 0,.slice none 0 0] 62) (w.heap.size+1) (by simp)).trans e2'
 have e3:=heap_alloc_new ((w.alloc (.cells #[.slice at_ toks.length ct,.slice (some ⟨b,off,none⟩) nodes.length cn] 67)).alloc (.cells #[.slice none 0 0,.slice none 0 0] 62)) (.cells #[.slice none 0 0,.slice none 0 0] 62)
 rw [World.size_alloc,World.size_alloc] at e3
 have hwr1:IntKind.i64.wrap ((nodes.length:Int) - 1)=(r:Int):=by
  rw [show ((nodes.length:Int) - 1)=(r:Int) by omega]
  exact IntWalk.i64_in _ (by omega)
 have hrI:(r:Int)<(nodes.length:Int):=by omega
 have x2:=cell_later hal x2
 clear h F hn hr1 hk hat hlen E hni hkv hkf hkc x0 x1
 go_enter Tryz.func16,Tryz.ntmps16
 go_upto_region 2 with fail
 generalize hwl:((w.alloc _).alloc _).alloc _=wl at hal e1 e2 e3 x2 ⊢
 have hls:wl.heap.size=w.heap.size+1+1+1:=by rw [← hwl];simp
 clear hwl
 have hbl0:=hal
 obtain ⟨c0,c1,_⟩:=cells2T e1
 have H1:=Lib.hid e1
 have H2:=Lib.hid e2
 obtain ⟨X,hX⟩:∃ X,X=w.heap.size+1+1:=⟨_,rfl⟩
 rw [← hX] at e3 ⊢
 have hXa:w.heap.size+1<X:=by omega
 have hXl:X<wl.heap.size:=by omega
 clear e1 e2 e2' hal hX hls
 go_wp2
 clear c0 c1 x2
 go_loopw [5] (fun q wr=>∃ (j:Nat) (ai:Option Addr) (ni ci:Nat) (ad:Option Addr) (nd cd:Nat),j≤ks.length∧q=.int .i64 j∧Alk (fun b=>b<wl.heap.size∧b≠X) wl wr∧wr.heap[X]?=some (.cells #[.slice ai ni ci,.slice ad nd cd] 62 (0,0))∧OfSt IR DR pp wl X 9 80 j wr (.slice ai ni ci) (.slice ad nd cd)∧Below w.heap.size w wr) (fun q _=>ks.length - (intOf q).toNat)
 case atStart=>exact ⟨0,none,0,0,none,0,0,Nat.zero_le _,rfl,Alk.refl _ _,e3,.inl ⟨Nat.zero_le _,by rw [List.take_zero];exact OwnK.nil _ _ _ _,rfl⟩,hbl0⟩
 case round =>
  obtain ⟨j,ai,ni,ci,ad,nd,cd,hj,rfl,halk,hpb,hst,hbl⟩:=hrel
  have hszr:=halk.1
  have R1:=(halk.2 w.heap.size ⟨by omega,by omega⟩ (by omega)).trans H1.out
  by_cases hjl:j<ks.length
  ·
   have hjp:j<p.kids.length:=by have:=HKL.out;omega
   have hrep:=HAT.out j hjl hjp
   have hlv:=lvL_take p.kids j hjp
   rw [HLV.out] at hlv
   rw [Nat.zero_add] at hrep
   obtain ⟨qk,hqk⟩:∃ qk,ks[j]=qk:=⟨_,rfl⟩
   rw [hqk] at hrep
   obtain ⟨m,xn,rfl,hnx,hkx⟩:=rep_kind hrep
   obtain ⟨hm,hnx'⟩:=List.getElem?_eq_some_iff.1 hnx
   obtain ⟨b',off',cap',kv',e',_,y0,_,y2,hky⟩:=HT.out.node hm
   obtain ⟨⟨rfl,rfl⟩,rfl⟩:(b=b'∧off=off')∧cn=cap':=by simpa using e'
   rw [hnx'] at y0 hky
   have hx0:=HKC.out j hjl
   have hmI:(m:Int)<(nodes.length:Int):=by omega
   have hjI:(j:Int)<(ks.length:Int):=by omega
   have hpwr:=(Array.getElem?_eq_some_iff.1 hpb).1
   have HRD:Hid (∀ W,Below w.heap.size w W→Alk (fun b=>b<wl.heap.size∧b≠X) wl W→W.cell? ⟨w.heap.size,0,none⟩=some (.slice at_ toks.length ct)∧W.cell? ⟨w.heap.size,1,none⟩=some (.slice (some ⟨b,off,none⟩) nodes.length cn)∧W.cell? ⟨bk,ok+j,none⟩=some (.int .i64 m)∧W.cell? ⟨b,off+m * 3,none⟩=some (.int .i64 xn.kind)):=Lib.hid (fun W hW hA=>by
    have hR:=(hA.2 w.heap.size ⟨by omega,by omega⟩ (by omega)).trans H1.out
    exact ⟨(cells2T hR).1,(cells2T hR).2.1,(hW.cell (p:=⟨bk,ok+j,none⟩) (by show bk<_;omega)).trans (by rw [hx0,hqk]),(hW.cell (p:=⟨b,off+m * 3,none⟩) (by show b<_;omega)).trans y0⟩)
   obtain ⟨c0,c1,hx,y0'⟩:=HRD.out wr hbl halk
   generalize ht2:(xn.kind == 2)=t2
   have HT2:=Lib.hid ht2
   clear e' hnx' y0 hx0 hqk
   go_upto_region 6 with fail
   go_cut [30] (fun v wc=>v=.bool t2∧Below wr.heap.size wr wc)
   case first =>
    clear HRD HT2
    generalize xn.kind=kx at y0' ht2
    have HT3:=Lib.hid ht2
    clear hky hrep hnx hkx hlv halk hpb hst hbl y2 ht2
    go_quiet (fail)
    go_wp2
    go_meet
    exact ⟨by rw [HT3.out],below_drewN (Below.refl _ _) _⟩
   case rest =>
    clear c0 c1 hx y0'
    obtain ⟨rfl,hbc⟩:=hcut
    obtain ⟨wd,rfl⟩:∃ wd:World,wd=wc:=⟨_,rfl⟩
    replace halk:=halk.trans (Alk.of hbc)
    replace hpb:=(hbc.block X hpwr).trans hpb
    replace hpwr:=Nat.lt_of_lt_of_le hpwr hbc.size
    replace hst:=hst.below hbc
    replace hbl:=hbl.trans (hbc.mono hbl.size)
    replace hszr:=halk.1
    clear hbc ht2
    obtain ⟨wr,hwd⟩:∃ wr:World,wr=wd:=⟨_,rfl⟩
    rw [← hwd] at halk hpb hpwr hst hbl hszr ⊢
    clear hwd wd
    obtain ⟨c0,c1,hx,y0'⟩:=HRD.out wr hbl halk
    obtain ⟨d0,d1,dz⟩:=cells2T hpb
    rcases Nat.lt_or_ge j p.imps with hji|hji
    ·
     obtain ⟨hjp2,hkj,hlj⟩:=p.kid_imp j hji
     rw [hkj] at hrep hlv hkx
     rw [hlj] at hrep hlv
     have hkx2:xn.kind=2:=hkx
     obtain rfl:t2=true:=by rw [← HT2.out,hkx2];rfl
     obtain ⟨k0,k1,k2,hnm,hl1⟩:=imp_kidF hrep
     rw [hnx] at hnm
     obtain rfl:=Option.some.inj hnm
     simp only at y0' hky
     obtain ⟨ak2,ck2,rfl,_,hkf2⟩:=hky.form
     obtain ⟨b2,o2,rfl,hb2,hkc2⟩:=hkf2 (by simp)
     have y2':=(hbl.cell (p:=⟨b,off+m * 3+2,none⟩) (by show b<_;omega)).trans y2
     have z1:=(hbl.cell (p:=⟨b2,o2+1,none⟩) (by show b2<_;omega)).trans (hkc2 1 (by simp))
     simp only [List.getElem_cons_succ,List.getElem_cons_zero,List.length_cons,List.length_nil,Nat.zero_add] at z1 y2'
     have hut:3 * j+1<toks.length:=by simp only [impPT,PT.lv,lvL] at hlv;omega
     have hK:=HTK.out k1 (3 * j+1) wr.drew hl1 hut (HT.out.below (hbl.mono hB).drew) (Nat.le_trans hB hbl.size)
     have hji2:j<pp.imports.length:=by have:=HPI.out;omega
     have hg:=HIG.out j hji2
     have hsn:pp.imports.take (j+1)=pp.imports.take j++[pp.imports[j]]:=List.take_succ_eq_append_getElem hji2
     rw [hg] at hsn
     unfold textAt placeAt at hsn
     unfold tokVal strV at hK
     generalize peekF toks (3 * j+1)=t at hK hsn
     obtain ⟨tk,tl,tt,tp⟩:=t
     simp only at hK hsn
     have hfl:=fun W=>Tryz.rtokField2 (.int .i64 tk) (.string ⟨tl.toArray⟩) (.string ⟨tt.toArray⟩) (.int .i64 tp) W
     have HC:=Lib.hid hK
     have HSN:=Lib.hid hsn
     obtain ⟨_,hown0,hdn⟩:j≤pp.imports.length∧OwnK IR wl.heap.size 9 wr (.slice ai ni ci) (pp.imports.take j)∧Value.slice ad nd cd=.slice none 0 0:=by
      rcases hst with hst|⟨hst,_⟩
      ·exact hst
      ·omega
     simp only [Value.slice.injEq] at hdn
     obtain ⟨rfl,rfl,rfl⟩:=hdn
     have hnj:(pp.imports.take j).length=j:=by rw [List.length_take];omega
     obtain ⟨_,_,hsl⟩:=hown0.slice
     rw [hnj] at hsl
     obtain ⟨-,rfl,-⟩:_∧ni=j∧_:=by simpa using hsl
     obtain ⟨lrow,h1,hown,hes⟩:=hown0
     rw [hnj] at hown
     have HNJ:=Lib.hid hnj
     have hlts:∀ b,some b=(Value.slice ai ni ci).ownBlock→wl.heap.size≤b∧b<wr.heap.size:=fun b q=>hown.lt b q.symm
     have hneX:some X≠(Value.slice ai ni ci).ownBlock:=fun q=>by have:=(hlts X q).1;omega
     have HL:=Lib.hid hlts
     have hHX:∀ W,Alk (fun b=>b<wl.heap.size∧b≠X) wr W→(W.cell? ⟨w.heap.size,0,none⟩=some (.slice at_ toks.length ct)∧W.cell? ⟨w.heap.size,1,none⟩=some (.slice (some ⟨b,off,none⟩) nodes.length cn)∧W.cell? ⟨bk,ok+ni,none⟩=some (.int .i64 m)∧W.cell? ⟨b,off+m * 3+2,none⟩=some (.slice (some ⟨b2,o2,none⟩) 3 ck2)∧W.cell? ⟨b2,o2+1,none⟩=some (.int .i64 k1)):=fun W hA =>
      ⟨(World.cell?_of_block (a:=⟨w.heap.size,0,none⟩) (hA.2 w.heap.size ⟨by omega,by omega⟩ (by omega))).trans c0,(World.cell?_of_block (a:=⟨w.heap.size,1,none⟩) (hA.2 w.heap.size ⟨by omega,by omega⟩ (by omega))).trans c1,(World.cell?_of_block (a:=⟨bk,ok+ni,none⟩) (hA.2 bk ⟨by omega,by omega⟩ (by omega))).trans hx,(World.cell?_of_block (a:=⟨b,off+m * 3+2,none⟩) (hA.2 b ⟨by omega,by omega⟩ (by omega))).trans y2',(World.cell?_of_block (a:=⟨b2,o2+1,none⟩) (hA.2 b2 ⟨by omega,by omega⟩ (by omega))).trans z1⟩
     have HSX:=Lib.hid hHX
     have p3:=hHX wr.drew (Alk.drew _ wr)
     clear hHX hK hsn hg hky hkf2 hkc2 hnm hl1 hst hlv hlj hkj hrep hkx hkx2 hnx HT2 hnj hsl hlts y2
     go_upto_region 7 with fail
     refine wp_region_held_drew (S:=(fun W=>W.cell? ⟨w.heap.size,0,none⟩=some (.slice at_ toks.length ct)∧W.cell? ⟨w.heap.size,1,none⟩=some (.slice (some ⟨b,off,none⟩) nodes.length cn)∧W.cell? ⟨bk,ok+ni,none⟩=some (.int .i64 m)∧W.cell? ⟨b,off+m * 3+2,none⟩=some (.slice (some ⟨b2,o2,none⟩) 3 ck2)∧W.cell? ⟨b2,o2+1,none⟩=some (.int .i64 k1))) (by kernel_rfl) p3 (fun hHeld=>?_)
     refine wpAnyH_take (i:=0) (oi:=⟨some 31,_,_,_,_,_⟩) (v:=?_) rfl (by kernel_rfl) (by kernel_rfl) (by kernel_rfl) (fun _ _ _ h=>h) (Or.inl ⟨by rfl,?_⟩) hHeld ?_
     rotate_left
     ·intro w hSw;(try dsimp only at hSw);go_simp;try (with_reducible rfl)
     simp only [Act.put,List.setIfInBounds_toArray,List.set_cons_zero,List.set_cons_succ]
     refine wpAnyH_take (i:=2) (oi:=⟨some 33,_,_,_,_,_⟩) (v:=?_) rfl (by kernel_rfl) (by kernel_rfl) (by kernel_rfl) (fun _ _ _ h=>h) (Or.inl ⟨by rfl,?_⟩) hHeld ?_
     rotate_left
     ·intro w hSw;(try dsimp only at hSw);go_simp;try (with_reducible rfl)
     simp only [Act.put,List.setIfInBounds_toArray,List.set_cons_zero,List.set_cons_succ]
     refine wpAnyH_take (i:=3) (oi:=⟨some 34,_,_,_,_,_⟩) (v:=?_) rfl (by kernel_rfl) (by kernel_rfl) (by kernel_rfl) (fun _ _ _ h=>h) (Or.inl ⟨by rfl,?_⟩) hHeld ?_
     rotate_left
     ·intro w hSw;(try dsimp only at hSw);go_simp;try (with_reducible rfl)
     simp only [Act.put,List.setIfInBounds_toArray,List.set_cons_zero,List.set_cons_succ]
     refine wpAnyH_take (i:=4) (oi:=⟨some 35,_,_,_,_,_⟩) (v:=?_) rfl (by kernel_rfl) (by kernel_rfl) (by kernel_rfl) (fun _ _ _ h=>h) (Or.inl ⟨by rfl,?_⟩) hHeld ?_
     rotate_left
     ·intro w hSw;(try dsimp only at hSw);go_simp;try (with_reducible rfl)
     simp only [Act.put,List.setIfInBounds_toArray,List.set_cons_zero,List.set_cons_succ]
     refine wpAnyH_take (i:=5) (oi:=⟨some 36,_,_,_,_,_⟩) (v:=?_) rfl (by kernel_rfl) (by kernel_rfl) (by kernel_rfl) (fun _ _ _ h=>h) (Or.inl ⟨by rfl,?_⟩) hHeld ?_
     rotate_left
     ·intro w hSw;(try dsimp only at hSw);go_simp;try (with_reducible rfl)
     simp only [Act.put,List.setIfInBounds_toArray,List.set_cons_zero,List.set_cons_succ]
     refine wpAnyH_take (i:=6) (oi:=⟨some 37,_,_,_,_,_⟩) (v:=?_) rfl (by kernel_rfl) (by kernel_rfl) (by kernel_rfl) (fun _ _ _ h=>h) (Or.inl ⟨by rfl,?_⟩) hHeld ?_
     rotate_left
     ·intro w hSw;(try dsimp only at hSw);go_simp;try (with_reducible rfl)
     simp only [Act.put,List.setIfInBounds_toArray,List.set_cons_zero,List.set_cons_succ]
     refine wpAnyH_take (i:=7) (oi:=⟨some 38,_,_,_,_,_⟩) (v:=?_) rfl (by kernel_rfl) (by kernel_rfl) (by kernel_rfl) (fun _ _ _ h=>h) (Or.inl ⟨by rfl,?_⟩) hHeld ?_
     rotate_left
     ·intro w hSw;(try dsimp only at hSw);go_simp;try (with_reducible rfl)
     simp only [Act.put,List.setIfInBounds_toArray,List.set_cons_zero,List.set_cons_succ]
     refine wpAnyH_take (i:=8) (oi:=⟨some 39,_,_,_,_,_⟩) (v:=?_) rfl (by kernel_rfl) (by kernel_rfl) (by kernel_rfl) (fun _ _ _ h=>h) (Or.inl ⟨by rfl,?_⟩) hHeld ?_
     rotate_left
     ·intro w hSw;(try dsimp only at hSw);go_simp;try (with_reducible rfl)
     simp only [Act.put,List.setIfInBounds_toArray,List.set_cons_zero,List.set_cons_succ]
     refine wpAnyH_take (i:=9) (oi:=⟨some 40,_,_,_,_,_⟩) (v:=?_) rfl (by kernel_rfl) (by kernel_rfl) (by kernel_rfl) (fun _ _ _ h=>h) (Or.inl ⟨by rfl,?_⟩) hHeld ?_
     rotate_left
     ·intro w hSw;(try dsimp only at hSw);go_simp;try (with_reducible rfl)
     simp only [Act.put,List.setIfInBounds_toArray,List.set_cons_zero,List.set_cons_succ]
     refine wpAnyH_take (i:=10) (oi:=⟨some 41,_,_,_,_,_⟩) (v:=?_) rfl (by kernel_rfl) (by kernel_rfl) (by kernel_rfl) (fun _ _ _ h=>h) (Or.inl ⟨by rfl,?_⟩) hHeld ?_
     rotate_left
     ·intro w hSw;(try dsimp only at hSw);go_simp;try (with_reducible rfl)
     simp only [Act.put,List.setIfInBounds_toArray,List.set_cons_zero,List.set_cons_succ]
     refine wpAnyH_take (i:=11) (oi:=⟨some 42,_,_,_,_,_⟩) (v:=?_) rfl (by kernel_rfl) (by kernel_rfl) (by kernel_rfl) (fun _ _ _ h=>h) (Or.inl ⟨by rfl,?_⟩) hHeld ?_
     rotate_left
     ·intro w hSw;(try dsimp only at hSw);go_simp;try (with_reducible rfl)
     simp only [Act.put,List.setIfInBounds_toArray,List.set_cons_zero,List.set_cons_succ]
     refine wpAnyH_take (i:=12) (oi:=⟨some 43,_,_,_,_,_⟩) (v:=?_) rfl (by kernel_rfl) (by kernel_rfl) (by kernel_rfl) (fun _ _ _ h=>h) (Or.inl ⟨by rfl,?_⟩) hHeld ?_
     rotate_left
     ·intro w hSw;(try dsimp only at hSw);go_simp;try (with_reducible rfl)
     simp only [Act.put,List.setIfInBounds_toArray,List.set_cons_zero,List.set_cons_succ]
     refine wpAnyH_take (i:=13) (oi:=⟨some 44,_,_,_,_,_⟩) (v:=?_) rfl (by kernel_rfl) (by kernel_rfl) (by kernel_rfl) (fun _ _ _ h=>h) (Or.inl ⟨by rfl,?_⟩) hHeld ?_
     rotate_left
     ·intro w hSw;(try dsimp only at hSw);go_simp;try (with_reducible rfl)
     simp only [Act.put,List.setIfInBounds_toArray,List.set_cons_zero,List.set_cons_succ]
     refine wpAnyH_ready (rs:=[1,14]) (by kernel_rfl) (by simp) (AllReadyH.cons (o:=⟨some 32,_,_,_,_,_⟩) rfl (fun K hK=>?_) (AllReadyH.cons (o:=⟨some 45,_,_,_,_,_⟩) rfl (fun K hK=>?_) AllReadyH.nil))
     go_simp;refine hK.out _ _ (hHeld) (fun hHeld=>?_);clear hK K;refine wpAnyH_ready (rs:=[14]) (by kernel_rfl) (by simp) (AllReadyH.cons (o:=⟨some 45,_,_,_,_,_⟩) rfl (fun K hK=>?_) AllReadyH.nil)
     all_goals
      refine step_call rfl 38 _ _ rfl HC.out (by rfl) (entL _ _) ?_;rintro e W2 ⟨rfl,hb3⟩;refine ⟨_,rfl,?_⟩;have hq2:Below wr.heap.size wr W2:=(Below.refl wr.heap.size wr).drew.trans hb3;have hbe2:=(hq2.block X hpwr).trans hpb;have r62:=(cells2T hbe2).1;have r63:=fun o=>Lib.cell?_alloc_some o r62;have al2:Alk (fun b=>b<wl.heap.size∧b≠X) wr W2:=Alk.of hq2;have p3:=HSX.out _ al2;have p3a:=fun o=>HSX.out (W2.alloc o) (al2.trans (Alk.ofB (below_new W2 o) fun b hb=>by have:=hq2.size;omega))
      refine hK.out _ _ (p3) (fun hHeld=>?_);clear hK K
     all_goals
      refine wpAnyH_take (i:=15) (oi:=⟨some 46,_,_,_,_,_⟩) (v:=?_) rfl (by kernel_rfl) (by kernel_rfl) (by kernel_rfl) (fun _ _ _ h=>h) (Or.inl ⟨by rfl,?_⟩) hHeld ?_;rotate_left
      ·intro w hSw;(try dsimp only at hSw);go_simp;try (with_reducible rfl)
      simp only [Act.put,List.setIfInBounds_toArray,List.set_cons_zero,List.set_cons_succ]
     rotate_left 1;refine wpAnyH_ready (rs:=[1,16]) (by kernel_rfl) (by simp) (AllReadyH.cons (o:=⟨some 32,_,_,_,_,_⟩) rfl (fun K hK=>?_) (AllReadyH.cons (o:=⟨some 47,_,_,_,_,_⟩) rfl (fun K hK=>?_) AllReadyH.nil));rotate_right 1
     rotate_left 1;go_simp;refine hK.out _ _ (hHeld) (fun hHeld=>?_);clear hK K;refine wpAnyH_ready (rs:=[16]) (by kernel_rfl) (by simp) (AllReadyH.cons (o:=⟨some 47,_,_,_,_,_⟩) rfl (fun K hK=>?_) AllReadyH.nil);rotate_right 1
     refine wpAnyH_ready (rs:=[16]) (by kernel_rfl) (by simp) (AllReadyH.cons (o:=⟨some 47,_,_,_,_,_⟩) rfl (fun K hK=>?_) AllReadyH.nil)
     all_goals
      go_simp
      refine hK.out _ _ (p3a _) (fun hHeld=>?_);clear hK K
     rotate_left 2;refine wpAnyH_ready (rs:=[1]) (by kernel_rfl) (by simp) (AllReadyH.cons (o:=⟨some 32,_,_,_,_,_⟩) rfl (fun K hK=>?_) AllReadyH.nil);go_simp;refine hK.out _ _ (hHeld) (fun hHeld=>?_);clear hK K;rotate_right 2
     all_goals refine wpAnyH_ready (rs:=[17]) (by kernel_rfl) (by simp) (AllReadyH.cons (o:=⟨some 48,_,_,_,_,_⟩) rfl (fun K hK=>?_) AllReadyH.nil)
     all_goals
      refine step_append_lies _ (by rfl) _ _ _ (by rfl) wl.heap.size 9 ii _ 1 16 Tryz.underlying59 hii1 hii2 hii3 hii4 rfl (by omega) (.slice ai ni ci) ni _ (by rfl) ((own_below (owns_drew hown) hb3).alloc _) ⟨W2.heap.size,0,none⟩ 1 1 [.string ⟨tt.toArray⟩] (by rfl) (by rfl) (World.news_of_block (cs:=#[.string ⟨tt.toArray⟩]) (t:=9) (fr:=(0,0)) (heap_alloc_new W2 _)) (by simp [Value.oneCell']) (by omega) (by unfold maxLen;omega) (by omega) (by have:=hb3.size;simp at this ⊢;omega) (W2.heap.size+1) (by simp) ?_;intro gg cap5 w5 hown5 hgrow5 hat5 hlt5;have hbe5:=(hgrow5.block X (by have:=hb3.size;simp at this ⊢;omega) hneX).trans ((Lib.alloc_old W2 _ X (by have:=hb3.size;simp at this;omega)).trans hbe2);have r65:=(cells2T hbe5).1;have z65:=(cells2T hbe5).2.2 0;have al5:=(al2.trans (Alk.ofB (below_new W2 _) fun b hb=>by have:=hq2.size;omega)).trans (Alk.grown hgrow5 fun b hb q=>by have:=(HL.out b q).1;omega);have p3:=HSX.out _ al5;have p3a:=fun v=>HSX.out (w5.setCell ⟨X,0,none⟩ v) (al5.trans (Alk.set v fun b hb=>hb.2))
      refine hK.out _ _ (p3) (fun hHeld=>?_);clear hK K
     all_goals
      refine wpAnyH_take (i:=18) (oi:=⟨some 49,_,_,_,_,_⟩) (v:=?_) rfl (by kernel_rfl) (by kernel_rfl) (by kernel_rfl) (fun _ _ _ h=>h) (Or.inl ⟨by rfl,?_⟩) hHeld ?_;rotate_left
      ·intro w hSw;(try dsimp only at hSw);go_simp;try (with_reducible rfl)
      simp only [Act.put,List.setIfInBounds_toArray,List.set_cons_zero,List.set_cons_succ]
     all_goals refine wpAnyH_ready (rs:=[19]) (by kernel_rfl) (by simp) (AllReadyH.cons (o:=⟨none,_,_,_,_,_⟩) rfl (fun K hK=>?_) AllReadyH.nil)
     all_goals
      go_simp
      refine hK.out _ _ (p3a _) (fun hHeld=>?_);clear hK K
     all_goals refine wpAnyH_done (by kernel_rfl) ?_ _
     all_goals
      obtain ⟨q1,q2,q3⟩:=OwnQ.round (K:=IR) (Q:=fun b=>wl.heap.size≤b) (wr:=wr.drew) (kv:=.slice ai ni ci) (kv5:=.slice (some ⟨gg,0,none⟩) (ni+1) cap5) (acc:=pp.imports.take ni) (a:=(tt,tp)) (x:=()) (l:=lrow) (show Alk _ wl wr.drew from halk) hXl (by omega) h1 (by rw [HNJ.out];exact hown) hes trivial hb3 (by rw [HNJ.out];exact hown5) hgrow5 rfl hat5 0 (.slice (some ⟨gg,0,none⟩) (ni+1) cap5)
      have hbe6:(w5.setCell ⟨X,0,none⟩ (.slice (some ⟨gg,0,none⟩) (ni+1) cap5)).heap[X]?=some (.cells #[.slice (some ⟨gg,0,none⟩) (ni+1) cap5,.slice none 0 0] 62 (0,0)):=heap_setCell_same w5 X 0 _ _ _ hbe5
      have hbl6:=q3 w.heap.size w (by omega) hbl.drew
      clear hgrow5 hown5 hat5 hbe5 r65 z65 hbe2 r62 r63 hb3 HC hes hown halk hpb d0 d1 dz hx y0' y2' z1 c0 c1 hbl h1 hfl p3 p3a al5 al2 hq2 HSX
      generalize w5.setCell _ _=w6' at q1 q2 hbe6 hbl6 ⊢
      obtain ⟨c0,c1,hx,y0'⟩:=HRD.out w6' hbl6 q2
      clear HRD
      go_upto_region 8 with fail
      go_quiet (fail)
      go_wp2
      go_roundw
      case rel =>
       refine ⟨ni+1,some ⟨gg,0,none⟩,ni+1,cap5,none,0,0,by omega,by go_num,⟨q2.1,q2.2⟩,hbe6,.inl ⟨by omega,?_,rfl⟩,below_drewN hbl6 _⟩
       rw [HSN.out]
       exact q1.below (below_drewN (Below.refl _ _) _)
      case measure=>simp [intOf];omega
    ·obtain ⟨jd,rfl⟩:∃ jd,j=p.imps+jd:=⟨j - p.imps,by omega⟩
     obtain ⟨hnil,w2,hw2,ha2,hri,hb2w,hdo⟩:=hst.two (by have:=HPI.out;omega) halk
     have hsub:p.imps+jd - pp.imports.length=jd:=by have:=HPI.out;omega
     rw [hsub] at hdo
     have HNIL:=Lib.hid hnil
     have HRI:=Lib.hid hri
     have HA2:=Lib.hid ha2
     rcases Nat.lt_or_ge jd p.defs.length with hjd|hjd
     ·
      obtain ⟨hjp2,hkj,hlj⟩:=p.kid_def jd hjd
      rw [hkj] at hrep hlv hkx
      rw [hlj] at hrep hlv
      have hkx2:xn.kind=3:=hkx
      obtain rfl:t2=false:=by rw [← HT2.out,hkx2];rfl
      have hok:=defsOk_get p.defs (3 * p.imps) jd hjd HOK.out.2.2.2
      have hjd2:jd<pp.defs.length:=by have:=HPD.out;omega
      have hg:=HDG.out jd hjd hjd2
      have hC:=fun W (hb:Below w.heap.size w W)=>HDEF.out p.defs[jd] _ hok hlv m W hrep (HT.out.below (hb.mono hB)) (Nat.le_trans hB hb.size)
      rw [← hg] at hC
      have hsn:pp.defs.take (jd+1)=pp.defs.take jd++[pp.defs[jd]]:=List.take_succ_eq_append_getElem hjd2
      generalize pp.defs[jd]=d at hC hsn
      have HCD:=Lib.hid hC
      have HSN:=Lib.hid hsn
      rw [hkx2] at y0'
      have hnj:(pp.defs.take jd).length=jd:=by rw [List.length_take];omega
      obtain ⟨_,_,hsl⟩:=hdo.slice
      rw [hnj] at hsl
      obtain ⟨-,rfl,-⟩:_∧nd=jd∧_:=by simpa using hsl
      have HNJ:=Lib.hid hnj
      have HDO:=Lib.hid hdo
      have HB2W:=Lib.hid hb2w
      clear hnil hri ha2 hst hC hsn hg hok hnj hsl hrep hkj hlj hlv hjp2 hsub hky hnx hkx hkx2 HT2 y2 hdo hb2w
      generalize hjE:p.imps+nd=j at HRD hjl hj hx ⊢
      have HJE:=Lib.hid hjE
      clear hjE
      go_upto_region 8 with fail
      go_cut [59] (fun v wc=>v=.bool true∧Below wr.heap.size wr wc)
      case first =>
       clear halk hpb hbl d0 d1 dz
       go_quiet (fail)
       go_wp2
       go_meet
       exact ⟨rfl,below_drewN (Below.refl _ _) _⟩
      case rest =>
       clear c0 c1 hx y0' d0 d1 dz
       obtain ⟨rfl,hbc⟩:=hcut
       obtain ⟨wx,rfl⟩:∃ wx:World,wx=wc:=⟨_,rfl⟩
       replace halk:=halk.trans (Alk.of hbc)
       replace hpb:=(hbc.block X hpwr).trans hpb
       replace hpwr:=Nat.lt_of_lt_of_le hpwr hbc.size
       replace hbl:=hbl.trans (hbc.mono hbl.size)
       have hdo:=HDO.out.below hbc
       have hb2w:=HB2W.out.trans (Alk.of hbc)
       replace hszr:=halk.1
       have HC:=Lib.hid (HCD.out wx.drew hbl.drew)
       obtain ⟨c0,c1,hx,_⟩:=HRD.out wx hbl halk
       obtain ⟨d0,d1,dz⟩:=cells2T hpb
       obtain ⟨lrow,h1,hown,hes⟩:=hdo
       rw [HNJ.out] at hown
       have hlts:∀ b,some b=(Value.slice ad nd cd).ownBlock→w2.heap.size≤b∧b<wx.heap.size:=fun b q=>hown.lt b q.symm
       have hneX:some X≠(Value.slice ad nd cd).ownBlock:=fun q=>by have:=(hlts _ q).1;omega
       have HL:=Lib.hid hlts
       have HES:=Lib.hid hes
       have hX2:X<w2.heap.size:=by omega
       have hsz2:=hb2w.1
       have hHX:∀ W,Alk (fun b=>b<wl.heap.size∧b≠X) wx W→(W.cell? ⟨w.heap.size,0,none⟩=some (.slice at_ toks.length ct)∧W.cell? ⟨w.heap.size,1,none⟩=some (.slice (some ⟨b,off,none⟩) nodes.length cn)∧W.cell? ⟨bk,ok+j,none⟩=some (.int .i64 m)):=fun W hA =>
        ⟨(World.cell?_of_block (a:=⟨w.heap.size,0,none⟩) (hA.2 w.heap.size ⟨by omega,by omega⟩ (by omega))).trans c0,(World.cell?_of_block (a:=⟨w.heap.size,1,none⟩) (hA.2 w.heap.size ⟨by omega,by omega⟩ (by omega))).trans c1,(World.cell?_of_block (a:=⟨bk,ok+j,none⟩) (hA.2 bk ⟨by omega,by omega⟩ (by omega))).trans hx⟩
       have HSX:=Lib.hid hHX
       have p3:=hHX wx.drew (Alk.drew _ wx)
       clear hHX hlts hbc HCD hes
       go_upto_region 9 with fail
       refine wp_region_held_drew (S:=(fun W=>W.cell? ⟨w.heap.size,0,none⟩=some (.slice at_ toks.length ct)∧W.cell? ⟨w.heap.size,1,none⟩=some (.slice (some ⟨b,off,none⟩) nodes.length cn)∧W.cell? ⟨bk,ok+j,none⟩=some (.int .i64 m))) (by kernel_rfl) p3 (fun hHeld=>?_)
       refine wpAnyH_take (i:=0) (oi:=⟨some 60,_,_,_,_,_⟩) (v:=?_) rfl (by kernel_rfl) (by kernel_rfl) (by kernel_rfl) (fun _ _ _ h=>h) (Or.inl ⟨by rfl,?_⟩) hHeld ?_
       rotate_left
       ·intro w hSw;(try dsimp only at hSw);go_simp;try (with_reducible rfl)
       simp only [Act.put,List.setIfInBounds_toArray,List.set_cons_zero,List.set_cons_succ]
       refine wpAnyH_take (i:=2) (oi:=⟨some 62,_,_,_,_,_⟩) (v:=?_) rfl (by kernel_rfl) (by kernel_rfl) (by kernel_rfl) (fun _ _ _ h=>h) (Or.inl ⟨by rfl,?_⟩) hHeld ?_
       rotate_left
       ·intro w hSw;(try dsimp only at hSw);go_simp;try (with_reducible rfl)
       simp only [Act.put,List.setIfInBounds_toArray,List.set_cons_zero,List.set_cons_succ]
       refine wpAnyH_take (i:=3) (oi:=⟨some 63,_,_,_,_,_⟩) (v:=?_) rfl (by kernel_rfl) (by kernel_rfl) (by kernel_rfl) (fun _ _ _ h=>h) (Or.inl ⟨by rfl,?_⟩) hHeld ?_
       rotate_left
       ·intro w hSw;(try dsimp only at hSw);go_simp;try (with_reducible rfl)
       simp only [Act.put,List.setIfInBounds_toArray,List.set_cons_zero,List.set_cons_succ]
       refine wpAnyH_take (i:=4) (oi:=⟨some 64,_,_,_,_,_⟩) (v:=?_) rfl (by kernel_rfl) (by kernel_rfl) (by kernel_rfl) (fun _ _ _ h=>h) (Or.inl ⟨by rfl,?_⟩) hHeld ?_
       rotate_left
       ·intro w hSw;(try dsimp only at hSw);go_simp;try (with_reducible rfl)
       simp only [Act.put,List.setIfInBounds_toArray,List.set_cons_zero,List.set_cons_succ]
       refine wpAnyH_take (i:=5) (oi:=⟨some 65,_,_,_,_,_⟩) (v:=?_) rfl (by kernel_rfl) (by kernel_rfl) (by kernel_rfl) (fun _ _ _ h=>h) (Or.inl ⟨by rfl,?_⟩) hHeld ?_
       rotate_left
       ·intro w hSw;(try dsimp only at hSw);go_simp;try (with_reducible rfl)
       simp only [Act.put,List.setIfInBounds_toArray,List.set_cons_zero,List.set_cons_succ]
       refine wpAnyH_take (i:=6) (oi:=⟨some 66,_,_,_,_,_⟩) (v:=?_) rfl (by kernel_rfl) (by kernel_rfl) (by kernel_rfl) (fun _ _ _ h=>h) (Or.inl ⟨by rfl,?_⟩) hHeld ?_
       rotate_left
       ·intro w hSw;(try dsimp only at hSw);go_simp;try (with_reducible rfl)
       simp only [Act.put,List.setIfInBounds_toArray,List.set_cons_zero,List.set_cons_succ]
       refine wpAnyH_ready (rs:=[1,7]) (by kernel_rfl) (by simp) (AllReadyH.cons (o:=⟨some 61,_,_,_,_,_⟩) rfl (fun K hK=>?_) (AllReadyH.cons (o:=⟨some 67,_,_,_,_,_⟩) rfl (fun K hK=>?_) AllReadyH.nil))
       go_simp;refine hK.out _ _ (hHeld) (fun hHeld=>?_);clear hK K;refine wpAnyH_ready (rs:=[7]) (by kernel_rfl) (by simp) (AllReadyH.cons (o:=⟨some 67,_,_,_,_,_⟩) rfl (fun K hK=>?_) AllReadyH.nil)
       all_goals
        refine step_call rfl 39 _ _ rfl HC.out (by rfl) (entD _ _) ?_;rintro e W2 ⟨ap,cp,ac,cc,ae,ce,rfl,hxe,hb3⟩;refine ⟨_,rfl,?_⟩;have hq2:Below wx.heap.size wx W2:=(Below.refl wx.heap.size wx).drew.trans hb3;have hbe2:=(hq2.block X hpwr).trans hpb;have r62:=(cells2T hbe2).2.1;have r63:=fun o=>Lib.cell?_alloc_some o r62;have al2:Alk (fun b=>b<wl.heap.size∧b≠X) wx W2:=Alk.of hq2;have p3:=HSX.out _ al2;have p3a:=fun o=>HSX.out (W2.alloc o) (al2.trans (Alk.ofB (below_new W2 o) fun b hb=>by have:=hq2.size;omega))
        refine hK.out _ _ (p3) (fun hHeld=>?_);clear hK K
       rotate_left 1;refine wpAnyH_ready (rs:=[1,8]) (by kernel_rfl) (by simp) (AllReadyH.cons (o:=⟨some 61,_,_,_,_,_⟩) rfl (fun K hK=>?_) (AllReadyH.cons (o:=⟨some 68,_,_,_,_,_⟩) rfl (fun K hK=>?_) AllReadyH.nil));rotate_right 1
       rotate_left 1;go_simp;refine hK.out _ _ (hHeld) (fun hHeld=>?_);clear hK K;refine wpAnyH_ready (rs:=[8]) (by kernel_rfl) (by simp) (AllReadyH.cons (o:=⟨some 68,_,_,_,_,_⟩) rfl (fun K hK=>?_) AllReadyH.nil);rotate_right 1
       refine wpAnyH_ready (rs:=[8]) (by kernel_rfl) (by simp) (AllReadyH.cons (o:=⟨some 68,_,_,_,_,_⟩) rfl (fun K hK=>?_) AllReadyH.nil)
       all_goals
        go_simp
        refine hK.out _ _ (p3a _) (fun hHeld=>?_);clear hK K
       rotate_left 2;refine wpAnyH_ready (rs:=[1]) (by kernel_rfl) (by simp) (AllReadyH.cons (o:=⟨some 61,_,_,_,_,_⟩) rfl (fun K hK=>?_) AllReadyH.nil);go_simp;refine hK.out _ _ (hHeld) (fun hHeld=>?_);clear hK K;rotate_right 2
       all_goals refine wpAnyH_ready (rs:=[9]) (by kernel_rfl) (by simp) (AllReadyH.cons (o:=⟨some 69,_,_,_,_,_⟩) rfl (fun K hK=>?_) AllReadyH.nil)
       all_goals
        refine step_append_lies _ (by rfl) _ _ _ (by rfl) w2.heap.size 80 id _ 14 192 Tryz.underlying60 hid1 hid2 hid3 hid4 rfl (by omega) (.slice ad nd cd) nd _ (by rfl) ((own_below (owns_drew hown) hb3).alloc _) ⟨W2.heap.size,0,none⟩ 1 1 [.bool d.pub,.slice ap d.params.length cp,.string ⟨d.res.name.toArray⟩,.int .i64 d.res.base,.slice ac d.res.clause.length cc,.int .i64 d.res.at_,.int .i64 d.res.bare,.int .i64 d.body.op,.string ⟨d.body.name.toArray⟩,.string ⟨d.body.module.toArray⟩,.string ⟨d.body.txt.toArray⟩,.bool d.body.yes,.slice ae d.body.kids.length ce,.int .i64 d.body.at_] (by rfl) (by rfl) (World.news_of_block (cs:=#[.bool d.pub,.slice ap d.params.length cp,.string ⟨d.res.name.toArray⟩,.int .i64 d.res.base,.slice ac d.res.clause.length cc,.int .i64 d.res.at_,.int .i64 d.res.bare,.int .i64 d.body.op,.string ⟨d.body.name.toArray⟩,.string ⟨d.body.module.toArray⟩,.string ⟨d.body.txt.toArray⟩,.bool d.body.yes,.slice ae d.body.kids.length ce,.int .i64 d.body.at_]) (t:=80) (fr:=(0,0)) (heap_alloc_new W2 _)) (by simp [Value.oneCell']) (by omega) (by unfold maxLen;omega) (by omega) (by have:=hb3.size;simp at this ⊢;omega) (W2.heap.size+1) (by simp) ?_;intro gg cap5 w5 hown5 hgrow5 hat5 hlt5;have hbe5:=(hgrow5.block X (by have:=hb3.size;simp at this ⊢;omega) hneX).trans ((Lib.alloc_old W2 _ X (by have:=hb3.size;simp at this;omega)).trans hbe2);have r65:=(cells2T hbe5).2.1;have z65:=(cells2T hbe5).2.2 1;have al5:=(al2.trans (Alk.ofB (below_new W2 _) fun b hb=>by have:=hq2.size;omega)).trans (Alk.grown hgrow5 fun b hb q=>by have:=(HL.out b q).1;omega);have p3:=HSX.out _ al5;have p3a:=fun v=>HSX.out (w5.setCell ⟨X,1,none⟩ v) (al5.trans (Alk.set v fun b hb=>hb.2))
        refine hK.out _ _ (p3) (fun hHeld=>?_);clear hK K
       all_goals
        refine wpAnyH_take (i:=10) (oi:=⟨some 70,_,_,_,_,_⟩) (v:=?_) rfl (by kernel_rfl) (by kernel_rfl) (by kernel_rfl) (fun _ _ _ h=>h) (Or.inl ⟨by rfl,?_⟩) hHeld ?_;rotate_left
        ·intro w hSw;(try dsimp only at hSw);go_simp;try (with_reducible rfl)
        simp only [Act.put,List.setIfInBounds_toArray,List.set_cons_zero,List.set_cons_succ]
       all_goals refine wpAnyH_ready (rs:=[11]) (by kernel_rfl) (by simp) (AllReadyH.cons (o:=⟨none,_,_,_,_,_⟩) rfl (fun K hK=>?_) AllReadyH.nil)
       all_goals
        go_simp
        refine hK.out _ _ (p3a _) (fun hHeld=>?_);clear hK K
       all_goals refine wpAnyH_done (by kernel_rfl) ?_ _
       all_goals
        obtain ⟨q1,q2,q3⟩:=OwnQ.round (K:=DR) (Q:=fun b=>w2.heap.size≤b) (wr:=wx.drew) (kv:=.slice ad nd cd) (kv5:=.slice (some ⟨gg,0,none⟩) (nd+1) cap5) (acc:=pp.defs.take nd) (a:=d) (x:=⟨.slice ap d.params.length cp,.slice ac d.res.clause.length cc,.nilIface,.slice ae d.body.kids.length ce⟩) (l:=lrow) (show Alk _ w2 wx.drew from hb2w) hX2 (by omega) h1 (by rw [HNJ.out];exact hown) (fun p hp=>DR.frame (HES.out p hp) (Alk.drew _ wx)) (DR.imp (P:=fun b=>wx.drew.heap.size≤b) hxe fun b hb _=>⟨Nat.le_trans hsz2 hb,fun q=>by have:=(HL.out b q).2;have:wx.drew.heap.size=wx.heap.size:=rfl;omega⟩) hb3 (by rw [HNJ.out];exact hown5) hgrow5 rfl hat5 1 (.slice (some ⟨gg,0,none⟩) (nd+1) cap5)
        have hbe6:(w5.setCell ⟨X,1,none⟩ (.slice (some ⟨gg,0,none⟩) (nd+1) cap5)).heap[X]?=some (.cells #[.slice ai ni ci,.slice (some ⟨gg,0,none⟩) (nd+1) cap5] 62 (0,0)):=heap_setCell_same w5 X 1 _ _ _ hbe5
        have hbl6:=q3 w.heap.size w (by omega) hbl.drew
        clear hgrow5 hown5 hat5 hbe5 r65 z65 hbe2 r62 r63 hxe hb3 HC hown halk hpb d0 d1 dz hx c0 c1 hbl h1 hb2w p3 p3a al5 al2 hq2 HSX HRD
        generalize w5.setCell _ _=w6' at q1 q2 hbe6 hbl6 ⊢
        go_wp2
        go_roundw
        case rel =>
         refine ⟨j+1,ai,ni,ci,some ⟨gg,0,none⟩,nd+1,cap5,by omega,by go_num,?_,hbe6,.inr ⟨by have:=HPI.out;have:=HJE.out;omega,HNIL.out,w2,hw2,HA2.out,HRI.out,q2,?_⟩,hbl6⟩
         ·exact HA2.out.trans ⟨q2.1,fun b hb hl=>q2.2 b ⟨by omega,hb.2⟩ hl⟩
         ·rw [show j+1 - pp.imports.length=nd+1 by have:=HPI.out;have:=HJE.out;omega,HSN.out]
          exact q1
        case measure=>have:=HJE.out;simp [intOf];omega
     ·
      obtain ⟨hjp2,hkj⟩:=p.kid_end
      obtain rfl:jd=p.defs.length:=by have:=HKN.out;omega
      rw [hkj] at hkx
      have hkx2:xn.kind=19:=hkx
      obtain rfl:t2=false:=by rw [← HT2.out,hkx2];rfl
      rw [hkx2] at y0'
      have HDO:=Lib.hid hdo
      have HB2W:=Lib.hid hb2w
      clear hnil hri ha2 hst hrep hkj hlv hjp2 hsub hky hnx hkx hkx2 HT2 y2 hdo hb2w d0 d1 dz HRD
      go_upto_region 8 with fail
      go_quiet (fail)
      go_wp2
      go_roundw
      case rel =>
       refine ⟨p.imps+p.defs.length+1,ai,ni,ci,ad,nd,cd,by omega,by go_num,⟨halk.1,halk.2⟩,hpb,.inr ⟨by have:=HPI.out;omega,HNIL.out,w2,hw2,HA2.out,HRI.out,⟨HB2W.out.1,HB2W.out.2⟩,?_⟩,below_drewN hbl _⟩
       rw [show p.imps+p.defs.length+1 - pp.imports.length=pp.defs.length+1 by have:=HPI.out;have:=HPD.out;omega,List.take_of_length_le (by omega)]
       have hdo:=HDO.out
       rw [← HPD.out,List.take_length] at hdo
       exact hdo.below (below_drewN (Below.refl _ _) _)
      case measure=>simp [intOf];omega
  ·
   obtain rfl:j=ks.length:=by omega
   have hjI:decide ((ks.length:Int)<(ks.length:Int))=false:=decide_eq_false (by omega)
   obtain ⟨hnil,w2,hw2,ha2,hri,hb2w,hdo⟩:=hst.two (by have:=HPI.out;have:=HKN.out;omega) halk
   rw [List.take_of_length_le (by have:=HPI.out;have:=HPD.out;have:=HKN.out;omega)] at hdo
   have hR2:=(halk.2 (w.heap.size+1) ⟨by omega,by omega⟩ (by omega)).trans H2.out
   have hrw:RowK IR (fun b=>wl.heap.size≤b) wr (.slice ai ni ci) pp.imports:=((hri.imp (Q:=fun b=>wl.heap.size≤b∧b<w2.heap.size∧b≠X) fun b hb hl=>⟨hb,hl,by omega⟩).frame ⟨hb2w.1,fun b hb hl=>hb2w.2 b hb.2 hl⟩).imp fun b hb _=>hb.1
   have hrd:RowK DR (fun b=>wl.heap.size≤b) wr (.slice ad nd cd) pp.defs:=hdo.row.imp fun b hb _=>by omega
   obtain ⟨_,_,hs1⟩:=hrw.slice
   obtain ⟨_,_,hs2⟩:=hrd.slice
   obtain ⟨-,rfl,-⟩:_∧ni=pp.imports.length∧_:=by simpa using hs1
   obtain ⟨-,rfl,-⟩:_∧nd=pp.defs.length∧_:=by simpa using hs2
   obtain ⟨d0,d1,dz⟩:=cells2T hpb
   obtain ⟨e0,e1,ez⟩:=cells2T hR2
   clear hst hri hdo hs1 hs2 R1 hb2w ha2 hw2 halk hpb hR2
   go_wp2
   refine bodyPost_ret (v:=.agg #[.slice ai pp.imports.length ci,.slice ad pp.defs.length cd]) (by simp [results,Tryz.results16,go_sem,e0,e1]) rfl ⟨ai,ci,ad,cd,rfl,⟨?_,?_⟩,?_⟩
   ·exact (hrw.frame ((Alk.set _ fun b hb=>by show b≠w.heap.size+1;omega).trans (Alk.set _ fun b hb=>by show b≠w.heap.size+1;omega))).imp fun b hb _=>by omega
   ·exact (hrd.frame ((Alk.set _ fun b hb=>by show b≠w.heap.size+1;omega).trans (Alk.set _ fun b hb=>by show b≠w.heap.size+1;omega))).imp fun b hb _=>by omega
   ·exact (hbl.setCell (by simp) _).setCell (by simp) _
end Go.Proofs.YtemkhbmkaalgdaaGreatDoor
