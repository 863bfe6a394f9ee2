/- Walks and plain laws: RTypedW, RParamW, OwnQ, FofLaws, ProgLaws. -/
import Derived.Test.YtknicmmigbhpcaaGreatDoorF22
import Derived.Test.YtknicmmigbhpcaaGreatDoorF24
set_option maxHeartbeats 16000000
set_option maxRecDepth 100000
set_option linter.unusedVariables false
set_option linter.unusedSimpArgs false
namespace Go.Proofs.YtknicmmigbhpcaaGreatDoor
open Go.RowKit Go
def cK:Nat→List It→List (It × Nat)
 | _,[]=>[]
 | u,i :: l=>(i,u) :: cK (u+i.pt.lv) l
theorem qH:∀ (l:List It) (u:Nat),(cK u l).length=l.length
 | [],_=>rfl
 | i :: l,u=>by rw[cK,dX,dX,qH l]
theorem xW {nodes:List Nd}:∀ (l:List It) (ks:List Int) (u:Nat),dV nodes ks u (l.map It.pt)→ks.length=l.length∧∀ j,(h1:j<ks.length)→(h2:j<(cK u l).length)→lM nodes ks[j] (cK u l)[j].2 (cK u l)[j].1.pt
 | [],ks,u,h=>by
  simp only[List.map_nil,dV] at h;subst h;exact⟨rfl,fun j h1=>absurd h1 (by simp)⟩
 | i :: l,ks,u,h=>by
  simp only[List.map_cons,dV] at h;obtain⟨k,ks',rfl,h1,h2⟩:=h;obtain⟨h3,h4⟩:=xW l ks' _ h2;refine⟨by simp[h3],fun j q1 q2=>?_⟩
  cases j with
  | zero=>exact h1
  | succ j=>exact h4 j (by simpa using q1) (by simpa [cK] using q2)
theorem qI:∀ (l:List It) (u:Nat) (p:It × Nat),p∈cK u l→p.2+p.1.pt.lv≤u+bB (l.map It.pt)
 | [],u,p,h=>by cases h
 | i :: l,u,p,h=>by
  rw[cK,List.mem_cons] at h;rw[List.map_cons,bB]
  rcases h with rfl|h
  ·simp only;omega
  ·have:=qI l _ p h
   omega
theorem Dj (toks:List Tok):∀ (l:List It) (u:Nat) (a:VN) (j:Nat) (h:j<(cK u l).length),lg toks u (l.take (j+1)) a=(cK u l)[j].1.step toks (cK u l)[j].2 (lg toks u (l.take j) a)
 | [],u,a,j,h=>absurd h (by simp[cK])
 | i :: l,u,a,0,h=>by simp[lg,cK]
 | i :: l,u,a,j+1,h=>by
  have:=Dj toks l (u+i.pt.lv) (i.step toks u a) j (by simpa [cK] using h);simp only[List.take_succ_cons,lg,this,cK,List.getElem_cons_succ]
def PT.kd:PT→Int | .leaf=>19 | .node c _=>(c:Int)
theorem KR {nodes:List Nd}{k:Int}{v:Nat}{t:PT}(h:lM nodes k v t):∃ (m:Nat) (x:Nd),k=m∧nodes[m]?=some x∧x.kind=t.kd:=by
 cases t with
 | leaf =>
  rw[lM] at h;exact⟨k.toNat,_,by omega,h.2,rfl⟩
 | node c l =>
  rw[lM] at h;obtain⟨ks,h0,h1,_⟩:=h;exact⟨k.toNat,_,by omega,h1,rfl⟩
def It.plain:It→Bool
 | .base=>false
 | .cl _=>false
 | _=>true
theorem It.NU (i:It)(h:i.plain=true):i.pt.kd≠5∧i.pt.kd≠6:=by
 cases i with
 | leaf=>exact⟨by decide,by decide⟩
 | par t=>exact⟨show ((4:Nat):Int)≠5 by decide,show ((4:Nat):Int)≠6 by decide⟩
 | expr e =>
  obtain⟨c,la,ea,c1,c2⟩:=e.node;simp only[It.pt,ea,PT.kd];omega
 | base=>cases h
 | cl e=>cases h
theorem It.NV {toks:List Tok}{u:Nat}{i:It}(h:i.plain=true)(a:VN):i.step toks u a=a:=by
 cases i<;>first|rfl|cases h
def Im (a:VN)(w:World)(e:Ending)(w':World):Prop:=∃ ao cap,e=.returned (.tuple #[.int .i64 a.base,.slice ao a.clause.length cap,.int .i64 a.bare])∧RowK (EK XA) (fun b=>w.heap.size≤b) w' (.slice ao a.clause.length cap) a.clause∧Below w.heap.size w w'
theorem row_one {x:PE}{m k:Value}{P:Nat→Prop}{w:World}{T:TypeId}(h:kI XA P w m k x)(hP:P w.heap.size):RowK (EK XA) P (w.alloc (.cells #[.int .i64 x.op,.string ⟨x.name.toArray⟩,.string ⟨x.module.toArray⟩,.bool (decide (x.num<0)),m,.bool x.yes,k,.int .i64 x.at_] T)) (.slice (some ⟨w.heap.size,0,none⟩) 1 1) [x]:=by
 have hnw:=heap_alloc_new w (.cells #[.int .i64 x.op,.string ⟨x.name.toArray⟩,.string ⟨x.module.toArray⟩,.bool (decide (x.num<0)),m,.bool x.yes,k,.int .i64 x.at_] T);refine⟨[(x,(m,k))],rfl,⟨some ⟨w.heap.size,0,none⟩,1,rfl,Nat.le_refl _,(EK XA).J9 _,fun _=>⟨w.heap.size,0,rfl,hP,by simp,fun i hi=>?_⟩⟩,fun p hp=>?_⟩
 ·have hc:(EK XA).flat [(x,(m,k))]=[.int .i64 x.op,.string ⟨x.name.toArray⟩,.string ⟨x.module.toArray⟩,.bool (decide (x.num<0)),m,.bool x.yes,k,.int .i64 x.at_]:=rfl
  rw[Lib.cell_of_heap hnw,Nat.zero_add];simp only[hc];simp only[hc,dX,List.length_nil] at hi;have h':i<(#[Value.int .i64 x.op,.string ⟨x.name.toArray⟩,.string ⟨x.module.toArray⟩,.bool (decide (x.num<0)),m,.bool x.yes,k,.int .i64 x.at_]:Array Value).size:=hi;rw[Array.getElem?_eq_getElem h']
  simp
 ·rw[List.mem_singleton] at hp
  subst hp;exact kI.frame (aQ.of (aj w _)) h
theorem ru {w:World}{b:Nat}{c0 c1 c2 c3:Value}(h:w.heap[b]?=some (.cells #[c0,c1,c2,c3] 136 (0,0))):w.cell? ⟨b,2,none⟩=some c2∧w.cell? ⟨b,3,none⟩=some c3:=by
 refine⟨?_,?_⟩<;>(rw[Lib.cell_of_heap h];rfl)
theorem jU {w:World}{b:Nat}{x y:Value}(h:w.heap[b]?=some (.cells #[x,y] 132 (0,0))):w.cell? ⟨b,0,none⟩=some x∧w.cell? ⟨b,1,none⟩=some y:=by
 refine⟨?_,?_⟩<;>(rw[Lib.cell_of_heap h];rfl)
theorem Dk (B:Nat)(tv nv:Value)(toks:List Tok)(nodes:List Nd)(i kd:Nat)(ks:List Int)(u:Nat)(its:List It)(w:World)(h:aP B w (.agg #[tv,nv]) toks nodes)(hB:B≤w.heap.size)(hn:nodes[i]?=some ⟨(kd:Nat),-1,ks⟩)(hr:dV nodes ks u (its.map It.pt))(hu:u+bB (its.map It.pt)≤toks.length)(hks:ks.length≤1000000)
  (hpl:∀ v,bZ toks v+(aI toks v).length≤1099511627776) (hbs:∀ v,(It.base,v)∈cK u its→aI toks v∈[MS,xB])
  (hE:∀ e v,(It.cl e,v)∈cK u its→∀ (k:Nat) (W:World),lM nodes k (v+1) e.pt→aP B W (.agg #[tv,nv]) toks nodes→B≤W.heap.size→Calls Tryz.prog 113 #[.agg #[tv,nv],.int .i64 k] W (EPost XA (e.pe toks (v+1)) W)) :
  Calls Tryz.prog 111 #[.agg #[tv,nv],.int .i64 i] w (Im (lg toks u its ⟨0,[],-1⟩) w):=by
 have HE:=ah hE;have HBS:=ah hbs;have HPL:=ah hpl;obtain⟨hlk,hrp⟩:=xW its ks u hr;have HRP:=ah hrp;have HLK:Hid (ks.length=(cK u its).length):=ah (by rw[qH];exact hlk);have HU:=ah hu;have HT:=ah h;obtain⟨hi,hni⟩:=mR hn;obtain⟨a1,c1,_,_,e⟩:=h.slices;obtain⟨b,off,cap,kv,rfl,hb,_,_,x2,hkv⟩:=h.node hi
 obtain⟨rfl,-⟩:tv=.slice a1 toks.length c1∧_:=by simpa using e
 rw[hni] at hkv;simp only at hkv;obtain⟨ak,ck,rfl,_,hf⟩:=hkv.form;have HF:=ah hf;have hal:=(Below.refl w.heap.size w).alloc (Nat.le_refl _) (.cells #[.slice a1 toks.length c1,.slice (some ⟨b,off,none⟩) nodes.length cap] 132);have x2':=cell_later hal x2;have hnr:=heap_alloc_new w (.cells #[.slice a1 toks.length c1,.slice (some ⟨b,off,none⟩) nodes.length cap] 132);obtain⟨r0,r1⟩:=jU hnr
 have i1:(i:Int)<(nodes.length:Int):=by omega
 clear hf h e hkv x2 hn hni hlk hrp hr hu hE hbs hpl;go_enter Tryz.func111,Tryz.ntmps111;go_wp2;generalize w.alloc _=w1 at hnr hal r0 r1 x2' ⊢;have hsz1:=hal.size
 go_loopw [4,5,6,18] (fun bv cv xv q wr=>∃ (j:Nat) (ao:Option Addr) (cc:Nat),j≤ks.length∧q=.int .i64 j∧bv=.int .i64 (lg toks u (its.take j) ⟨0,[],-1⟩).base∧cv=.slice ao (lg toks u (its.take j) ⟨0,[],-1⟩).clause.length cc∧xv=.int .i64 (lg toks u (its.take j) ⟨0,[],-1⟩).bare ∧
  RowK (EK XA) (fun b=>w.heap.size≤b) wr (.slice ao (lg toks u (its.take j) ⟨0,[],-1⟩).clause.length cc) (lg toks u (its.take j) ⟨0,[],-1⟩).clause∧Below w.heap.size w wr∧wr.heap[w.heap.size]?=some (.cells #[.slice a1 toks.length c1,.slice (some ⟨b,off,none⟩) nodes.length cap] 132 (0,0))) (fun _ _ _ q _=>ks.length - (intOf q).toNat)
 case atStart=>exact⟨0,none,0,Nat.zero_le _,rfl,rfl,rfl,rfl,RowK.nil _ _ _,hal,hnr⟩
 case round =>
  obtain⟨j,ao,cc,hj,rfl,rfl,rfl,rfl,hrow,hbl,hrr⟩:=hrel;have hz:=hbl.size;have hlt:=(bG hrr).1
  by_cases hjl:j<ks.length
  ·obtain⟨bk,ok,rfl,hbk,hcell⟩:=HF.out (by omega)
   have hx:=(hbl.cell (p:=⟨bk,ok+j,none⟩) (by show bk<_;omega)).trans (hcell j hjl)
   have hjp:j<(cK u its).length:=by have:=HLK.out;omega
   have hrep:=HRP.out j hjl hjp;have hst:=Dj toks its u ⟨0,[],-1⟩ j hjp;have hmem:=List.getElem_mem hjp;have hend:=qI its u _ hmem;have hu:=HU.out
   have JC:(j:Int)<(ks.length:Int):=by omega
   generalize (cK u its)[j]=it at hrep hst hmem hend;obtain⟨it,v⟩:=it;simp only at hrep hst hend;generalize ks[j]=q at hx hrep;obtain⟨m,x,rfl,hnx,hkx⟩:=KR hrep;obtain⟨hm,RQ⟩:=mR hnx;obtain⟨b',off',cap',kv',e',_,y0,_,y2,hky⟩:=HT.out.node hm
   obtain⟨⟨rfl,rfl⟩,rfl⟩:(b=b'∧off=off')∧cap=cap':=by simpa using e'
   rw[RQ] at y0 hky;have y0':=(hbl.cell (p:=⟨b,off+m * 3,none⟩) (by show b<_;omega)).trans y0
   have Tg:(m:Int)<(nodes.length:Int):=by omega
   obtain⟨r0',r1'⟩:=jU hrr;clear y0 e' hcell r0 r1 x2' hnr i1;generalize lg toks u (its.take j) ⟨0,[],-1⟩=a at hrow hst ⊢;have HST:=ah hst;clear hst
   cases hpn:it.plain with
   | true =>
    obtain⟨k5,k6⟩:=it.NU hpn;rw[← hkx] at k5 k6;generalize x.kind=kx at y0' k5 k6
    have t5:(kx == 5)=false:=by rw[← Bool.not_eq_true,beq_iff_eq];exact k5
    have t6:(kx == 6)=false:=by rw[← Bool.not_eq_true,beq_iff_eq];exact k6
    have HSP:=ah (It.NV (toks:=toks) (u:=v) hpn a);clear hpn k5 k6 hkx hrep hmem hend;go_wp2
    go_roundw
    case rel =>
     have e1:=HST.out;rw[HSP.out] at e1;refine⟨j+1,ao,cc,by omega,by go_num,?_⟩;rw[e1];exact⟨rfl,rfl,rfl,hrow,hbl,hrr⟩
    case measure=>simp[intOf];omega
   | false =>
    cases it with
    | leaf=>cases hpn
    | par t=>cases hpn
    | expr e=>cases hpn
    | base =>
     obtain⟨ks2,hn2,hr2⟩:=dM (show lM nodes m v (.node 5 [.leaf]) from hrep)
     obtain rfl:x=⟨(5:Nat),-1,ks2⟩:=by rw[hnx] at hn2;exact Option.some.inj hn2
     obtain⟨k0,ks',rfl,hl0,hr3⟩:=bE hr2;rw[dV] at hr3;subst hr3
     have hv:v<toks.length:=by simp only[It.pt,PT.lv,bB] at hend;omega
     have hbt:=HBS.out v hmem;have hpv:=HPL.out v
     have hK:=fun W hT hW=>jC B (.slice a1 toks.length c1) (.slice (some ⟨b,off,none⟩) nodes.length cap) toks nodes k0 v W hT hW hl0 hv
     have htk:toks[v]=bL toks v:=by have:=iO hv;rw[List.getElem?_eq_getElem hv] at this;exact Option.some.inj this
     rw[htk] at hK;unfold mV bY at hK;have EA:=HST.out;unfold It.step at EA;unfold aI bZ at EA hpv;unfold aI at hbt;generalize bL toks v=t at hK EA hbt hpv;obtain⟨tk,tl,tt,tp⟩:=t;simp only at hK EA hbt hpv y0' hky;have HS2:=ah EA;obtain⟨ak2,ck2,rfl,_,uT⟩:=hky.form;obtain⟨b2,o2,rfl,hb2,hkc⟩:=uT (by simp);have z0:=(hbl.cell (p:=⟨b2,o2+0,none⟩) (by show b2<_;omega)).trans (hkc 0 (by simp));have y2':=(hbl.cell (p:=⟨b,off+m * 3+2,none⟩) (by show b<_;omega)).trans y2;simp only[Nat.add_zero,List.getElem_cons_zero,dX,List.length_nil,Nat.zero_add] at z0 y2';have HK:=ah (fun W (hb:Below wr.heap.size wr W)=>(hK W (HT.out.below ((hbl.trans (hb.mono hz)).mono hB)) (by have:=hb.size;omega)).mono (R':=fun e w'=>e=.returned (.agg #[.int .i64 tk,.string ⟨tl.toArray⟩,.string ⟨tt.toArray⟩,.int .i64 tp])∧Below wr.heap.size wr w'∧Below W.heap.size W w') fun e w' h=>⟨h.1,hb.trans (h.2.mono hb.size),h.2⟩);clear hK EA HST hpn hkx hrep hmem hend hn2 hr2 hl0 hky uT hkc y2 htk hnx RQ
     go_upto_region 7 with fail
     go_cut [9] (fun p wc=>∃ X:Nat,p=.pointer (some ⟨X,0,none⟩)∧wc.heap[X]?=some (.cells #[.int .i64 tk,.string ⟨tl.toArray⟩,.string ⟨tt.toArray⟩,.int .i64 tp] 136 (0,0))∧Below wr.heap.size wr wc)
     case first =>
      go_region_held3 (fun w'=>w'.cell? ⟨w.heap.size,0,none⟩=some (.slice a1 toks.length c1)∧w'.cell? ⟨w.heap.size,1,none⟩=some (.slice (some ⟨b,off,none⟩) nodes.length cap)∧w'.cell? ⟨b,off+m * 3+2,none⟩=some (.slice (some ⟨b2,o2,none⟩) 1 ck2)∧w'.cell? ⟨b2,o2,none⟩=some (.int .i64 k0))
       (first|go_keep|exact p3|exact⟨(bD w3 wr.heap.size _ _ _ _ (by omega)).trans p3.1,(bD w3 wr.heap.size _ _ _ _ (by omega)).trans p3.2.1,(bD w3 wr.heap.size _ _ _ _ (by omega)).trans p3.2.2.1,(bD w3 wr.heap.size _ _ _ _ (by omega)).trans p3.2.2.2⟩)
       (first|(go_at_call 67;refine(HK.out _ ?_).mono ?_;(first|exact(Below.refl _ _).drew|exact((Below.refl _ _).alloc (Nat.le_refl _) _).drew);rintro e w3 ⟨rfl,hq3,hb3⟩;have p3:=And.intro (cell_later hq3 r0') (And.intro (cell_later hq3 r1') (And.intro (cell_later hq3 y2') (cell_later hq3 z0)));try (have Dg:=(hb3.block wr.heap.size (by simp)).trans (heap_alloc_new wr (.cells #[.int .i64 0,.string ⟨#[]⟩,.string ⟨#[]⟩,.int .i64 0] 136));obtain⟨VW,VX,VY,VZ,V3⟩:=l7 Dg)))
      ·clear r0' r1' y2' z0 p3
       go_wp2_with fail
       go_meet
       exact⟨w3.heap.size,rfl,heap_alloc_new _ _,hq3.alloc hq3.size _⟩
      ·obtain⟨S3,So,_⟩:=vK Dg (.int .i64 tk) (.string ⟨tl.toArray⟩) (.string ⟨tt.toArray⟩) (.int .i64 tp)
       clear r0' r1' y2' z0 p3 VW VX VY VZ V3;go_wp2_with fail
       go_meet
       exact⟨wr.heap.size,rfl,S3,(((hq3.setCell (Nat.le_refl _) _).setCell (Nat.le_refl _) _).setCell (Nat.le_refl _) _).setCell (Nat.le_refl _) _⟩
     case rest =>
      obtain⟨X,rfl,hX,hbc⟩:=hcut;have QC:=(hbc.block w.heap.size hlt).trans hrr;have hrow2:=hrow.frame (aQ.of hbc);have YZ:=hbl.trans (hbc.mono hz);obtain⟨f2,f3⟩:=ru hX;clear r0' r1' y2' z0 HK hX hbc;simp only[List.mem_cons,List.not_mem_nil,or_false] at hbt
      rcases hbt with rfl|rfl
      ·simp only[MS,dX,List.length_nil] at hpv f2
       go_wp2
       go_roundw
       case rel =>
        have e1:=HS2.out;rw[if_neg (by decide)] at e1;refine⟨j+1,ao,cc,by omega,by go_num,?_⟩;rw[e1];exact⟨rfl,rfl,by simp[MS],hrow2,YZ,QC⟩
       case measure=>simp[intOf];omega
      ·simp only[xB,dX,List.length_nil] at hpv f2
       go_wp2
       go_roundw
       case rel =>
        have e1:=HS2.out;rw[if_pos rfl] at e1;refine⟨j+1,ao,cc,by omega,by go_num,?_⟩;rw[e1];exact⟨rfl,rfl,by simp[xB],hrow2,YZ,QC⟩
       case measure=>simp[intOf];omega
    | cl e =>
     obtain⟨ks2,hn2,hr2⟩:=dM (show lM nodes m v (.node 6 [.leaf,e.pt,.leaf]) from hrep)
     obtain rfl:x=⟨(6:Nat),-1,ks2⟩:=by rw[hnx] at hn2;exact Option.some.inj hn2
     obtain⟨k0,ks3,rfl,_,hr3⟩:=bE hr2;obtain⟨k1,ks4,rfl,hl1,hr4⟩:=Di hr3;obtain⟨k2,ks5,rfl,_,hr5⟩:=bE hr4;rw[dV] at hr5;subst hr5;have EA:lg toks u (its.take (j+1)) ⟨0,[],-1⟩=⟨a.base,[e.pe toks (v+1)],-1⟩:=HST.out
     have hX:=fun W (hb:Below wr.heap.size wr W)=>(HE.out e v hmem k1 W hl1 (HT.out.below ((hbl.trans (hb.mono hz)).mono hB)) (by have:=hb.size;omega)).mono fun _ _ h=>h.s
     generalize e.pe toks (v+1)=xe at EA hX;have HX:=ah hX;have HS2:=ah EA;simp only at y0' hky;obtain⟨ak2,ck2,rfl,_,uT⟩:=hky.form;obtain⟨b2,o2,rfl,hb2,hkc⟩:=uT (by simp);have z1:=(hbl.cell (p:=⟨b2,o2+1,none⟩) (by show b2<_;omega)).trans (hkc 1 (by simp));have y2':=(hbl.cell (p:=⟨b,off+m * 3+2,none⟩) (by show b<_;omega)).trans y2;simp only[List.getElem_cons_zero,List.getElem_cons_succ,dX,List.length_nil,Nat.zero_add] at z1 y2';clear hX EA HST hpn hkx hrep hmem hend hn2 hr2 hr3 hr4 hl1 hky uT hkc y2 hnx RQ
     go_upto_region 13 with fail
     go_region_held3 (fun w'=>w'.cell? ⟨w.heap.size,0,none⟩=some (.slice a1 toks.length c1)∧w'.cell? ⟨w.heap.size,1,none⟩=some (.slice (some ⟨b,off,none⟩) nodes.length cap)∧w'.cell? ⟨b,off+m * 3+2,none⟩=some (.slice (some ⟨b2,o2,none⟩) 3 ck2)∧w'.cell? ⟨b2,o2+1,none⟩=some (.int .i64 k1))
      (first|go_keep|exact p3)
      (first|(go_at_call 113;refine(HX.out _ ((Below.refl _ _).drew)).mono ?_;rintro e w3 ⟨am,wn,cm,ae,ce,rfl,hxe,hb3⟩;have hq3:Below wr.heap.size wr w3:=(Below.refl wr.heap.size wr).drew.trans hb3;have p3:=And.intro (cell_later hq3 r0') (And.intro (cell_later hq3 r1') (And.intro (cell_later hq3 y2') (cell_later hq3 z1)))))
     have hw3:=hq3.size;have hone:=row_one (P:=fun b=>w.heap.size≤b) (w:=w3) (T:=46) (hxe.imp (fun b hb _=>by have:wr.drew.heap.size=wr.heap.size:=rfl;omega)) (by omega);have hbb:=hq3.alloc hq3.size (.cells #[.int .i64 xe.op,.string ⟨xe.name.toArray⟩,.string ⟨xe.module.toArray⟩,.bool (decide (xe.num<0)),.slice am wn cm,.bool xe.yes,.slice ae xe.kids.length ce,.int .i64 xe.at_] 46);have QC:=(hbb.block w.heap.size hlt).trans hrr;have YZ:=hbl.trans (hbb.mono hz);clear r0' r1' y2' z1 p3 HX hxe hb3 hq3 hbb;go_wp2
     go_roundw
     case rel =>
      have e1:=HS2.out;refine⟨j+1,some ⟨w3.heap.size,0,none⟩,1,by omega,by go_num,?_⟩;rw[e1];exact⟨rfl,rfl,rfl,hone,YZ,QC⟩
     case measure=>simp[intOf];omega
  ·have:j=ks.length:=by omega
   subst this;have hti:its.take ks.length=its:=List.take_of_length_le (by have:=HLK.out;rw[qH] at this;omega);rw[hti] at hrow ⊢;have JC:decide ((ks.length:Int)<(ks.length:Int))=false:=decide_eq_false (by omega);generalize hta:lg toks u its ⟨0,[],-1⟩=a at hrow ⊢;have HTA:=ah hta;clear hta;go_wp2;refine bodyPost_ret (v:=.tuple #[.int .i64 a.base,.slice ao a.clause.length cc,.int .i64 a.bare]) (by simp[results,Tryz.results111,go_sem]) rfl ?_;rw[HTA.out];exact⟨ao,cc,rfl,hrow,hbl⟩
def NW (f:FF)(w:World)(e:Ending)(w':World):Prop:=∃ ao cap,e=.returned (.agg #[.string ⟨f.name.toArray⟩,.int .i64 f.base,.slice ao f.clause.length cap,.int .i64 f.at_,.int .i64 f.bare])∧RowK (EK XA) (fun b=>w.heap.size≤b) w' (.slice ao f.clause.length cap) f.clause∧Below w.heap.size w w'
theorem zw {w:World}{b:Nat}{c0 c1 c2 c3 c4:Value}(h:w.heap[b]?=some (.cells #[c0,c1,c2,c3,c4] 80 (0,0))):w.cell? ⟨b,0,none⟩=some c0∧w.cell? ⟨b,1,none⟩=some c1∧w.cell? ⟨b,2,none⟩=some c2∧w.cell? ⟨b,3,none⟩=some c3∧w.cell? ⟨b,4,none⟩=some c4∧∀ j,w.frozen? ⟨b,j,none⟩=false:=by
 refine⟨?_,?_,?_,?_,?_,fun j=>by simp[World.frozen?,h]⟩<;>(rw[Lib.cell_of_heap h];rfl)
theorem NY (B:Nat)(tv nv:Value)(toks:List Tok)(nodes:List Nd)(i kd:Nat)(ks:List Int)(w:World)(h:aP B w (.agg #[tv,nv]) toks nodes)(hB:B≤w.heap.size)(hn:nodes[i]?=some ⟨(kd:Nat),-1,ks⟩)
  (k0 u0:Nat) (hq0:ks[0]?=some (k0:Int)) (hl0:nodes[k0]?=some ⟨19,(u0:Nat),[]⟩) (hu0:u0<toks.length) (a:VN)
  (hA:∀ W:World,aP B W (.agg #[tv,nv]) toks nodes→B≤W.heap.size→Calls Tryz.prog 111 #[.agg #[tv,nv],.int .i64 i] W (Im a W)) :
  Calls Tryz.prog 112 #[.agg #[tv,nv],.int .i64 i] w (NW ⟨aI toks u0,a.base,a.clause,bZ toks u0,a.bare⟩ w):=by
 have hK:=fun W hT hW=>jC B tv nv toks nodes k0 u0 W hT hW hl0 hu0
 have htk:toks[u0]=bL toks u0:=by have:=iO hu0;rw[List.getElem?_eq_getElem hu0] at this;exact Option.some.inj this
 rw[htk] at hK;unfold mV bY at hK;unfold aI bZ;generalize bL toks u0=t at hK ⊢;obtain⟨tk,tl,tt,tp⟩:=t;simp only at hK ⊢;have HK:=ah hK;have HA:=ah hA;obtain⟨hp0,V4⟩:=mR hq0;obtain⟨hi,hni⟩:=mR hn;have HT:=ah h;obtain⟨a1,c1,_,_,e⟩:=h.slices;obtain⟨b,off,cap,kv,rfl,hb,x0,x1,x2,hkv⟩:=h.node hi
 obtain⟨rfl,-⟩:tv=.slice a1 toks.length c1∧_:=by simpa using e
 rw[hni] at hkv;simp only at hkv;obtain⟨ak,ck,rfl,_,uT⟩:=hkv.form;obtain⟨bk,ok,rfl,hbk,hkc⟩:=uT (by omega);have hz:=hkc 0 hp0;rw[V4,Nat.add_zero] at hz;clear e hkv uT hkc hn hni x0 x1 hK htk hA hl0 V4;have bq:=((Below.refl w.heap.size w).alloc (Nat.le_refl _) (.cells #[.slice a1 toks.length c1,.slice (some ⟨b,off,none⟩) nodes.length cap] 132)).alloc (by simp) (.cells #[.string ⟨#[]⟩,.int .i64 0,.slice none 0 0,.int .i64 0,.int .i64 0] 80);have X2:=cell_later bq x2;have Z2:=cell_later bq hz;have g0:=(Lib.alloc_old _ (.cells #[.string ⟨#[]⟩,.int .i64 0,.slice none 0 0,.int .i64 0,.int .i64 0] 80) w.heap.size (by simp)).trans (heap_alloc_new w (.cells #[.slice a1 toks.length c1,.slice (some ⟨b,off,none⟩) nodes.length cap] 132));have g1:=heap_alloc_new (w.alloc (.cells #[.slice a1 toks.length c1,.slice (some ⟨b,off,none⟩) nodes.length cap] 132)) (.cells #[.string ⟨#[]⟩,.int .i64 0,.slice none 0 0,.int .i64 0,.int .i64 0] 80);rw[World.size_alloc] at g1
 have hiI:(i:Int)<(nodes.length:Int):=by omega
 have adW:(0:Int)<(ks.length:Int):=by omega
 clear h x2 hz;go_enter Tryz.func112,Tryz.ntmps112
 go_upto_region 1 with (fail)
 generalize (w.alloc _).alloc _=w2 at g0 g1 bq X2 Z2 ⊢;obtain⟨r0,r1⟩:=jU g0;have hz2:=bq.size;have VU:=ah (fun W (hb:Below w2.heap.size w2 W)=>(HK.out W (HT.out.below ((bq.trans (hb.mono hz2)).mono hB)) (by have:=hb.size;omega)).mono (R':=fun e w'=>e=.returned (.agg #[.int .i64 tk,.string ⟨tl.toArray⟩,.string ⟨tt.toArray⟩,.int .i64 tp])∧Below w2.heap.size w2 w'∧Below W.heap.size W w') fun e w' h=>⟨h.1,hb.trans (h.2.mono hb.size),h.2⟩);have hlt2:w.heap.size+1<w2.heap.size:=(bG g1).1
 go_cut [5] (fun p wc=>∃ X:Nat,p=.pointer (some ⟨X,0,none⟩)∧wc.heap[X]?=some (.cells #[.int .i64 tk,.string ⟨tl.toArray⟩,.string ⟨tt.toArray⟩,.int .i64 tp] 136 (0,0))∧Below w2.heap.size w2 wc)
 case first =>
  go_region_held3 (fun w'=>w'.cell? ⟨w.heap.size,0,none⟩=some (.slice a1 toks.length c1)∧w'.cell? ⟨w.heap.size,1,none⟩=some (.slice (some ⟨b,off,none⟩) nodes.length cap)∧w'.cell? ⟨b,off+i * 3+2,none⟩=some (.slice (some ⟨bk,ok,none⟩) ks.length ck)∧w'.cell? ⟨bk,ok,none⟩=some (.int .i64 k0))
   (first|go_keep|exact p3|exact⟨(bD w3 w2.heap.size _ _ _ _ (by omega)).trans p3.1,(bD w3 w2.heap.size _ _ _ _ (by omega)).trans p3.2.1,(bD w3 w2.heap.size _ _ _ _ (by omega)).trans p3.2.2.1,(bD w3 w2.heap.size _ _ _ _ (by omega)).trans p3.2.2.2⟩)
   (first|(go_at_call 67;refine(VU.out _ ?_).mono ?_;(first|exact(Below.refl _ _).drew|exact((Below.refl _ _).alloc (Nat.le_refl _) _).drew);rintro e w3 ⟨rfl,hq3,hb3⟩;have p3:=And.intro (cell_later hq3 r0) (And.intro (cell_later hq3 r1) (And.intro (cell_later hq3 X2) (cell_later hq3 Z2)));try (have Dg:=(hb3.block w2.heap.size (by simp)).trans (heap_alloc_new w2 (.cells #[.int .i64 0,.string ⟨#[]⟩,.string ⟨#[]⟩,.int .i64 0] 136));obtain⟨VW,VX,VY,VZ,V3⟩:=l7 Dg)))
  ·clear r0 r1 X2 Z2 p3
   go_wp2_with fail
   go_meet
   exact⟨w3.heap.size,rfl,heap_alloc_new _ _,hq3.alloc hq3.size _⟩
  ·obtain⟨S3,So,_⟩:=vK Dg (.int .i64 tk) (.string ⟨tl.toArray⟩) (.string ⟨tt.toArray⟩) (.int .i64 tp)
   clear r0 r1 X2 Z2 p3 VW VX VY VZ V3;go_wp2_with fail
   go_meet
   exact⟨w2.heap.size,rfl,S3,(((hq3.setCell (Nat.le_refl _) _).setCell (Nat.le_refl _) _).setCell (Nat.le_refl _) _).setCell (Nat.le_refl _) _⟩
 case rest =>
  obtain⟨X,rfl,hX,hbc⟩:=hcut
  obtain⟨w4,rfl⟩:∃ w4:World,w4=wc:=⟨_,rfl⟩
  have G0:=(hbc.block w.heap.size (by omega)).trans g0;have G1:=(hbc.block (w.heap.size+1) hlt2).trans g1;have hb4:Below w.heap.size w w4:=bq.trans (hbc.mono hz2);have Kv:=hbc.size;obtain⟨f2,f3⟩:=ru hX;clear g0 g1 bq X2 Z2 r0 r1 HK VU hbc hX
  go_upto_region 3 with fail
  have KQ:=aj w4 (.cells #[.string ⟨tt.toArray⟩,.int .i64 0,.slice none 0 0,.int .i64 tp,.int .i64 0] 80);have P5:=heap_alloc_new w4 (.cells #[.string ⟨tt.toArray⟩,.int .i64 0,.slice none 0 0,.int .i64 tp,.int .i64 0] 80);have H0:=(KQ.block w.heap.size (by omega)).trans G0;have H1:=(KQ.block (w.heap.size+1) (by omega)).trans G1;have hb5:=hb4.trans (KQ.mono hb4.size);have Mr:=KQ.size;clear G0 G1 KQ hb4 f2 f3;generalize hpb:w4.heap.size=pb at P5 Kv Mr ⊢;generalize w4.alloc _=w5 at P5 H0 H1 hb5 Mr ⊢;obtain⟨r0,r1⟩:=jU H0;have HAW:=ah (HA.out w5 (HT.out.below (hb5.mono hB)) (Nat.le_trans hB hb5.size));go_wp2_with (go_at_call 111;refine HAW.out.mono ?_);rintro e w6 ⟨ao,cc,rfl,hrow,hb6⟩;have Q5:=(hb6.block pb (bG P5).1).trans P5;have Q1:=(hb6.block (w.heap.size+1) (bG H1).1).trans H1
  have hne:w.heap.size+1≠pb:=by omega
  have rX:=(bG P5).1;obtain⟨q0,q1,q2,q3,q4,qz⟩:=zw Q5;have NZ:Below w.heap.size w w6:=hb5.trans (hb6.mono hb5.size);clear r0 r1 HAW P5 H0 H1
  go_upto_region 4 with fail
  have T1:=heap_setCell_same w6 pb 1 _ _ (.int .i64 a.base) Q5;have T2:=heap_setCell_same _ pb 2 _ _ (.slice ao a.clause.length cc) T1;have T3:=heap_setCell_same _ pb 4 _ _ (.int .i64 a.bare) T2
  have U3:(((w6.setCell ⟨pb,1,none⟩ (.int .i64 a.base)).setCell ⟨pb,2,none⟩ (.slice ao a.clause.length cc)).setCell ⟨pb,4,none⟩ (.int .i64 a.bare)).heap[w.heap.size+1]?=some (.cells #[.string ⟨#[]⟩,.int .i64 0,.slice none 0 0,.int .i64 0,.int .i64 0] 80 (0,0)):=by
   rw[heap_setCell_other _ _ _ _ hne,heap_setCell_other _ _ _ _ hne,heap_setCell_other _ _ _ _ hne];exact Q1
  have hle:w.heap.size≤pb:=by omega
  have xX:Below w.heap.size w (((w6.setCell ⟨pb,1,none⟩ (.int .i64 a.base)).setCell ⟨pb,2,none⟩ (.slice ao a.clause.length cc)).setCell ⟨pb,4,none⟩ (.int .i64 a.bare)):=((NZ.setCell hle _).setCell hle _).setCell hle _
  have hs:∀ (W:World) (j:Nat) (u:Value),aQ (fun b=>w5.heap.size≤b) W (W.setCell ⟨pb,j,none⟩ u):=fun W j u=>aQ.set u fun b hb=>by show b≠pb;omega
  have aaj:=hrow.frame (((hs w6 1 (.int .i64 a.base)).trans (hs _ 2 (.slice ao a.clause.length cc))).trans (hs _ 4 (.int .i64 a.bare)));have T4:(((w6.setCell ⟨pb,1,none⟩ (.int .i64 a.base)).setCell ⟨pb,2,none⟩ (.slice ao a.clause.length cc)).setCell ⟨pb,4,none⟩ (.int .i64 a.bare)).heap[pb]?=some (.cells #[.string ⟨tt.toArray⟩,.int .i64 a.base,.slice ao a.clause.length cc,.int .i64 tp,.int .i64 a.bare] 80 (0,0)):=T3;clear T1 T2 T3 Q5 Q1 q0 q1 q2 q3 q4 qz hrow NZ hb6 hs;generalize ((w6.setCell _ _).setCell _ _).setCell _ _=w7 at T4 U3 xX aaj ⊢;obtain⟨q0,q1,q2,q3,q4,qz⟩:=zw T4;obtain⟨s0,s1,s2,s3,s4,sz⟩:=zw U3;go_wp2;refine bodyPost_ret (v:=.agg #[.string ⟨tt.toArray⟩,.int .i64 a.base,.slice ao a.clause.length cc,.int .i64 tp,.int .i64 a.bare]) (by simp[results,Tryz.results112,go_sem,s0,s1,s2,s3,s4]) rfl ⟨ao,cc,rfl,?_,?_⟩
  ·have hs2:∀ (W:World) (j:Nat) (u:Value),aQ (fun b=>w5.heap.size≤b) W (W.setCell ⟨w.heap.size+1,j,none⟩ u):=fun W j u=>aQ.set u fun b hb=>by show b≠w.heap.size+1;omega
   exact(aaj.frame (((((hs2 _ _ _).trans (hs2 _ _ _)).trans (hs2 _ _ _)).trans (hs2 _ _ _)).trans (hs2 _ _ _))).imp fun b hb _=>by omega
  ·exact((((xX.setCell (by simp) _).setCell (by simp) _).setCell (by simp) _).setCell (by simp) _).setCell (by simp) _
def kH {α β:Type}(K:RK α β)(Q:Nat→Prop)(C e:Nat)(w:World)(v:Value)(zs:List α):Prop :=
 ∃ l:List (α × β),l.map Prod.fst=zs∧w.ownsRow C e K.sz v zs.length (K.flat l)∧∀ p∈l,K.inn (fun b=>Q b∧some b≠v.ownBlock) w p.1 p.2
section
variable {α β:Type}
theorem kH.nil (K:RK α β)(Q:Nat→Prop)(C e:Nat)(w:World):kH K Q C e w (.slice none 0 0) []:=⟨[],rfl,World.ownsRow_nil _ _ _ _,fun p hp=>by cases hp⟩
theorem kH.below {K:RK α β}{Q:Nat→Prop}{C e:Nat}{w w':World}{v:Value}{zs:List α}(h:kH K Q C e w v zs)(hb:Below w.heap.size w w'):kH K Q C e w' v zs:=by
 obtain⟨l,h1,h2,h3⟩:=h;exact⟨l,h1,own_below h2 hb,fun p hp=>K.frame (h3 p hp) (aQ.of hb)⟩
theorem kH.set {K:RK α β}{Q:Nat→Prop}{C e:Nat}{w:World}{v:Value}{zs:List α}(h:kH K Q C e w v zs){a:Addr}(ha:a.block<C)(hq:¬ Q a.block)(u:Value):kH K Q C e (w.setCell a u) v zs:=by
 obtain⟨l,h1,h2,h3⟩:=h;refine⟨l,h1,iD h2 (fun q=>?_) u,fun p hp=>K.frame (h3 p hp) (aQ.set u fun b hb=>fun q=>hq (by rw[← q];exact hb.1))⟩;have:=(h2.lt a.block q.symm).1;omega
theorem kH.row {K:RK α β}{Q R:Nat→Prop}{C e:Nat}{w:World}{v:Value}{zs:List α}(h:kH K Q C e w v zs)(hR:∀ b,C≤b→R b)(hQ:∀ b,Q b→b<w.heap.size→R b):RowK K R w v zs:=by
 obtain⟨l,h1,h2,h3⟩:=h;exact⟨l,h1,lS.fF h2 hR,fun p hp=>K.imp (h3 p hp) fun b hb hl=>hQ b hb.1 hl⟩
theorem kH.slice {K:RK α β}{Q:Nat→Prop}{C e:Nat}{w:World}{v:Value}{zs:List α}(h:kH K Q C e w v zs):∃ ao cap,v=.slice ao zs.length cap :=
 (h.row (R:=fun _=>True) (fun _ _=>trivial) (fun _ _ _=>trivial)).slice
theorem kH.snoc {K:RK α β}{Q:Nat→Prop}{C e:Nat}{w w':World}{kv kv':Value}{zs:List α}{a:α}{x:β}{g H:Nat}{l:List (α × β)}(h1:l.map Prod.fst=zs)(h2:∀ p∈l,K.inn (fun b=>Q b∧some b≠kv.ownBlock) w p.1 p.2)(hx:K.inn (fun b=>Q b∧some b≠kv.ownBlock) w a x)
  (hown:w'.ownsRow C e K.sz kv' (zs.length+1) (K.flat l++K.cells a x)) (hgrow:w.grownBy w' kv.ownBlock) (hv:kv'.ownBlock=some g) (hor:kv.ownBlock=some g∨g=H) (hH:w.heap.size≤H):kH K Q C e w' kv' (zs++[a]):=by
 have himp:∀ b,(Q b∧some b≠kv.ownBlock)→b<w.heap.size→((Q b∧some b≠kv'.ownBlock)∧some b≠kv.ownBlock):=fun b hb hlt=>by
  refine⟨⟨hb.1,fun q=>?_⟩,hb.2⟩;rw[hv] at q;simp only[Option.some.injEq] at q
  rcases hor with h|h
  ·exact hb.2 (by rw[h,q])
  ·omega
 have hall:∀ {a:α} {x:β},K.inn (fun b=>Q b∧some b≠kv.ownBlock) w a x→K.inn (fun b=>Q b∧some b≠kv'.ownBlock) w' a x:=fun h =>
  K.imp (K.frame (K.imp h himp) (aQ.grown hgrow fun b hb=>hb.2)) fun b hb _=>hb.1
 refine⟨l++[(a,x)],by rw[List.map_append,h1];rfl,?_,fun p hp=>?_⟩
 ·rw[K.FD,bP,List.length_singleton];exact hown
 ·rcases List.mem_append.1 hp with hp|hp
  ·exact hall (h2 p hp)
  ·rw[List.mem_singleton] at hp
   subst hp;exact hall hx
theorem kH.round {K:RK α β}{Q:Nat→Prop}{e be:Nat}{w1 wr W2 w5:World}{o:Obj}{kv QM:Value}{acc:List α}{a:α}{x:β}{l:List (α × β)}{gg:Nat}(dW:aQ (fun b=>b<w1.heap.size∧b≠be) w1 wr)(hbe:be<w1.heap.size)(hQ:¬ Q be)
  (h1:l.map Prod.fst=acc) (hown:wr.ownsRow w1.heap.size e K.sz kv acc.length (K.flat l)) (hes:∀ p∈l,K.inn (fun b=>Q b∧some b≠kv.ownBlock) wr p.1 p.2) (hx:K.inn (fun b=>Q b∧some b≠kv.ownBlock) W2 a x) (hb2:Below wr.heap.size wr W2)
  (hown5:w5.ownsRow w1.heap.size e K.sz QM (acc.length+1) (K.flat l++K.cells a x)) (hgrow:(W2.alloc o).grownBy w5 kv.ownBlock) (hv5:QM.ownBlock=some gg) (hat:kv.ownBlock=some gg∨gg=W2.heap.size+1) (off:Nat) (u:Value) :
  kH K Q w1.heap.size e (w5.setCell ⟨be,off,none⟩ u) QM (acc++[a])∧aQ (fun b=>b<w1.heap.size∧b≠be) w1 (w5.setCell ⟨be,off,none⟩ u)∧∀ (B:Nat) (w0:World),B≤be→Below B w0 wr→Below B w0 (w5.setCell ⟨be,off,none⟩ u):=by
 have hz1:=dW.1;have hz2:=hb2.size;have hb3:Below wr.heap.size wr (W2.alloc o):=hb2.alloc hz2 _
 have hlt:∀ b,some b=kv.ownBlock→w1.heap.size≤b∧b<wr.heap.size:=fun b q=>⟨(hown.lt b q.symm).1,(hown.lt b q.symm).2⟩
 have hx2:K.inn (fun b=>Q b∧some b≠kv.ownBlock) (W2.alloc o) a x:=K.frame hx ⟨by simp,fun b _ hb=>Lib.alloc_old _ _ _ hb⟩;have hrow:=kH.snoc (K:=K) (w:=W2.alloc o) h1 (fun p hp=>K.frame (hes p hp) (aQ.of hb3)) hx2 hown5 hgrow hv5 hat (by simp);refine⟨hrow.set hbe hQ u,?_,fun B w0 hB hb0=>?_⟩
 ·refine((dW.trans (aQ.sI hb3 fun b hb=>by omega)).trans (aQ.grown hgrow fun b hb q=>?_)).trans (aQ.set u fun b hb=>hb.2)
  have:=(hlt b q).1;omega
 ·have hsz:=hb0.size
  exact((hb0.trans (hb3.mono (by omega))).grown hgrow (by simp;omega) (fun b q=>by have:=(hlt b q.symm).1;omega)).setCell hB _
end
end Go.Proofs.YtknicmmigbhpcaaGreatDoor

namespace Go.Proofs.YtknicmmigbhpcaaGreatDoor
theorem KS {S:List UInt8}{toks:List Tok}(h:bW S=.ok toks)(u:Nat):(aI toks u).length≤S.length:=by
 have hL:=jy h;have hm:=sW hL.some u;obtain⟨i,hi,e⟩:=List.mem_iff_getElem.1 hm;have h1:=congrArg List.length (hL.text i hi);rw[List.length_take,List.length_drop] at h1;unfold aI;rw[← e];omega
structure aeZ (S:List UInt8) (toks:List Tok) (nodes:List Nd) (ce:CE):Prop where
 small:S.length≤65536
 V6:bW S=.ok toks
 Dl:nodes=(UA ce).em 0 0
 okk:ce.ok toks true 0
 lv:ce.pt.lv+1=toks.length
 good:CQ toks nodes ((UA ce).dump toks 0)
 whole:fZ toks=S
 deep:ab9 S 200=.good toks nodes
 fits:(ce.pe toks 0).fits 65536
 told:(ce.pe toks 0).told
 few:(ce.pe toks 0).iR≤200000
theorem V7 {S:List UInt8}{toks:List Tok}{nodes:List Nd}{t:PT}(hl:bW S=.ok toks)(he:nodes=t.em 0 0)(hw:t.wf)(hlv:t.lv=toks.length)(hn:nodes.length≤2 * toks.length+2):CQ toks nodes (t.dump toks 0):=by
 have hs:S.length≤65536:=by
  unfold bW at hl
  split at hl
  ·cases hl
  ·omega
 have hL:=jy hl;have hc:=hL.count
 have hnd:nodes.length=t.nd:=by rw[he,PT.sj]
 have hnp:=t.gq
 have hM:∀ u,(aI toks u).length≤65536:=fun u=>Nat.le_trans (KS hl u) hs
 have hdl:=qp hM t 0 hw;refine⟨by omega,by omega,fun n hm=>?_,by omega,?_,?_,?_,?_,fun n hm=>?_,fun n hm h19=>?_⟩
 ·rw[he] at hm
  have:=G5 _ _ _ n hm;omega
 ·rw[he];exact TM _ hw _ hlv
 ·rw[hnd,he,Qs _ hw (by omega),hlv]
 ·rw[hnd,he];exact Ye toks _ hw (by omega)
 ·have:t.nd * (65536+16)≤200000 * (65536+16):=Nat.mul_le_mul_right _ (by omega)
  omega
 ·rw[he] at hm
  exact(Ck _ _ _ hw n hm).1
 ·rw[he] at hm
  have:=(Ck _ _ _ hw n hm).2 h19;omega
structure oD (S:List UInt8) (toks:List Tok) (nodes:List Nd) (p:kG):Prop where
 small:S.length≤65536
 V6:bW S=.ok toks
 Dl:nodes=p.pt.em 0 0
 okk:p.ok toks
 lv:p.pt.lv=toks.length
 count:toks.length≤S.length+1
 nd:p.pt.nd≤2 * toks.length
 good:CQ toks nodes (p.pt.dump toks 0)
 whole:fZ toks=S
 deep:nA S 200=.good toks nodes
 fits:(p.pp toks).all (PE.fits (S.length+1))
 told:(p.pp toks).all PE.told
 few:(p.pp toks).all fun e=>e.iR≤p.pt.nd
 N7:(p.pp toks).small (S.length+1)
theorem PP.Io {P Q R T:PE→Prop}{p:PP}(h1:p.all P)(h2:p.all Q)(h3:p.all R)(h:∀ e,P e→Q e→R e→T e):p.all T:=fun d hd =>
 ⟨fun f hf e he=>h e ((h1 d hd).1 f hf e he) ((h2 d hd).1 f hf e he) ((h3 d hd).1 f hf e he),fun e he=>h e ((h1 d hd).2.1 e he) ((h2 d hd).2.1 e he) ((h3 d hd).2.1 e he),h _ (h1 d hd).2.2 (h2 d hd).2.2 (h3 d hd).2.2⟩
theorem oD.dumps {S:List UInt8}{toks:List Tok}{nodes:List Nd}{p:kG}(h:oD S toks nodes p)(hs:S.length≤1500):(p.pp toks).all (Cw 20000000):=by
 refine PP.Io h.fits h.told h.few fun e h1 h2 h3=>?_
 have h4:=FB e h1;rw[PE.jl h2] at h4;have h5:=h.nd;have h6:=h.count;have h7:e.iR * (3 * (S.length+1)+30)≤3002 * (3 * (S.length+1)+30):=Nat.mul_le_mul_right _ (by omega);unfold Cw;omega
theorem oD.xG {S:List UInt8}{toks:List Tok}{nodes:List Nd}{p:kG}(h:oD S toks nodes p)(hs:S.length≤1500):(p.pp toks).dump.length≤20000000000:=by
 obtain⟨K,hK⟩:∃ K,K=20000000:=⟨_,rfl⟩
 have hd:=h.dumps hs;rw[← hK] at hd;have:=PP.xG h.N7 hd;clear hd;generalize (p.pp toks).dump.length=n at this ⊢;generalize S.length=m at *;subst hK;exact Nat.le_trans this (by omega)
end Go.Proofs.YtknicmmigbhpcaaGreatDoor
