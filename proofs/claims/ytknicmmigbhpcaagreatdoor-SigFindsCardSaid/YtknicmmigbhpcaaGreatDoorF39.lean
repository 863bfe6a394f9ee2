/- Walks and plain laws: FindsW2. -/
import Derived.Test.YtknicmmigbhpcaaGreatDoorF38
set_option maxHeartbeats 16000000
set_option maxRecDepth 100000
set_option linter.unusedVariables false
set_option linter.unusedSimpArgs false
namespace Go.Proofs.YtknicmmigbhpcaaGreatDoor
open Go.RowKit Go Go.Sort
theorem OL (vn:Value)(am:Option Addr)(cm lm:Nat)(md nm:List UInt8)(w:World)(hml:10<lm)(hmm:lm≤maxLen):mg (.slice am lm cm) vn md nm w:=by
 unfold mg;unfold maxLen at hmm
 have Tg:(10:Int)<(lm:Int):=by omega
 have hmD:decide ((10:Int)<(lm:Int))=true:=decide_eq_true Tg;go_enter Tryz.func3,Tryz.ntmps3
 go_upto_region 3 with (go_at_call 10;refine(rD _).mono ?_;rintro e w1 ⟨rfl,hb1⟩)
 go_wp2;go_ret;exact⟨rfl,hb1⟩
theorem OM (am:Option Addr)(cm lm:Nat)(an:Option Addr)(cn ln:Nat)(md nm:List UInt8)(w:World)(hml:lm≤10)(hnl:10<ln)(hnm:ln≤maxLen):mg (.slice am lm cm) (.slice an ln cn) md nm w:=by
 unfold mg;unfold maxLen at hnm
 have Tg:¬ ((10:Int)<(lm:Int)):=by omega
 have hmD:decide ((10:Int)<(lm:Int))=false:=decide_eq_false Tg
 have Vk:(10:Int)<(ln:Int):=by omega
 have hnD:decide ((10:Int)<(ln:Int))=true:=decide_eq_true Vk;go_enter Tryz.func3,Tryz.ntmps3
 go_upto_region 3 with (go_at_call 10;refine(rD _).mono ?_;rintro e w1 ⟨rfl,hb1⟩)
 go_wp2;go_ret;exact⟨rfl,hb1⟩
theorem Tc (P:Nat→Prop)(ms ns:List (List UInt8))(am:Option Addr)(cm:Nat)(an:Option Addr)(cn:Nat)(md nm:List UInt8)(w:World)(hM:bC P w (.slice am ms.length cm) ms)(hN:bC P w (.slice an ns.length cn) ns)(hml:ms.length≤maxLen)(hnl:ns.length≤maxLen):mg (.slice am ms.length cm) (.slice an ns.length cn) md nm w:=by
 rcases Nat.lt_or_ge 10 ms.length with h|h
 ·exact OL _ am cm _ md nm w h hml
 rcases Nat.lt_or_ge 10 ns.length with k|k
 ·exact OM am cm _ an cn _ md nm w h k hnl
 exact LJ P ms ns am cm an cn md nm w hM hN h k
theorem OO (ms:List (List UInt8))(am:Option Addr)(cm:Nat)(ns:List (List UInt8))(an:Option Addr)(cn:Nat)(s2 s3:ByteArray)(w:World)(hM:bC (fun _=>True) w (.slice am ms.length cm) ms)(hml:ms.length≤maxLen)(hN:bC (fun _=>True) w (.slice an ns.length cn) ns)(hnl:ns.length≤maxLen)(_:s2.size≤maxLen)(_:s3.size≤maxLen):Calls Tryz.prog 3 #[.slice am ms.length cm,.slice an ns.length cn,.string s2,.string s3] w fun r w'=>r=.returned (.bool true)∧Below w.heap.size w w' :=
 Tc _ ms ns am cm an cn s2.data.toList s3.data.toList w hM hN hml hnl
end Go.Proofs.YtknicmmigbhpcaaGreatDoor
