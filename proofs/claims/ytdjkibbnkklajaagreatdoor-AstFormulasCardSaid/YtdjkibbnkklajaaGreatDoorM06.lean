/- The walks of the code that the claim reaches, and the plain laws: Shelf, LexW1, LexW2. No condition of ours. -/
import Derived.Shelf.Spec.SearchS
import Derived.Shelf.Strings.Builder1
import Derived.Shelf.Strings.Trim
import Derived.Shelf.Small.Utf8
import Derived.Shelf.Small.Strs
import Derived.Shelf.Small.Wraps
import Derived.Shelf.Strings.BuilderF
import Derived.Shelf.Strings.BuilderK
import Derived.Shelf.Strconv.Itoa0
import Derived.Shelf.Strconv.Itoa1
import Derived.Shelf.LaysM
import Derived.Shelf.Strconv.Itoa2
import Derived.Shelf.Strconv.Itoa3
import Derived.Shelf.Strings.Search1
import Derived.Shelf.Strings.Search2
import Derived.Shelf.Strings.Search3
import Derived.Shelf.Strings.Shaped
import Derived.Shelf.Strings.Prefix
import Derived.Shelf.Strings.Runes
import Derived.Shelf.Strings.AsciiSet
import Derived.Shelf.Unicode.DecodeSlow
import Derived.Shelf.Slices.Turned
import Derived.Ground.Names2Prog
import Derived.Shelf.Slices.Clone
import Derived.Test.YtdjkibbnkklajaaGreatDoorProg
import Derived.Test.YtdjkibbnkklajaaGreatDoorM01
import Derived.Shelf.Strings.SlTrimAscii
import Derived.Lib.SlTrimSet
namespace Go.Proofs
open Go.Shelf
def Tryz.lays169_ren : Go.Shelf.Ren := ⟨fun | 169 => 24 | n => n, fun | 70 => 72 | 9 => 9 | 0 => 0 | 72 => 75 | 37 => 73 | 127 => 99 | 3 => 3 | 5 => 5 | n => n, fun | n => n⟩
theorem Tryz.lays169 : Go.Proofs.Lays.n169 Tryz.prog Tryz.lays169_ren := {
  mixed := by kernel_rfl
  f169 := Tryz.func24.trans (congrArg some (by kernel_rfl))
  t0 := Tryz.underlying0
  a0 := Tryz.isAgg0
  z0 := Tryz.sizeOf0
  v0 := Tryz.zeroValue0
  t3 := Tryz.underlying3
  a3 := Tryz.isAgg3
  z3 := Tryz.sizeOf3
  v3 := Tryz.zeroValue3
  t9 := Tryz.underlying9
  a9 := Tryz.isAgg9
  z9 := Tryz.sizeOf9
  v9 := Tryz.zeroValue9
  t37 := Tryz.underlying73
  a37 := Tryz.isAgg73
  z37 := Tryz.sizeOf73
  v37 := Tryz.zeroValue73
  t70 := Tryz.underlying72
  a70 := Tryz.isAgg72
  z70 := Tryz.sizeOf72
  v70 := Tryz.zeroValue72
  t72 := Tryz.underlying75
  a72 := Tryz.isAgg75
  z72 := Tryz.sizeOf75
  v72 := Tryz.zeroValue75
  t127 := Tryz.underlying99
  a127 := Tryz.isAgg99
  z127 := Tryz.sizeOf99
  v127 := Tryz.zeroValue99 }
theorem Tryz.Builder_Extra_169 : Builder.Extra Tryz.prog Tryz.lays169_ren := {
  sizeBuilder := by kernel_rfl
  liesBuilder := by kernel_rfl
  t5 := Tryz.underlying5
  a5 := Tryz.isAgg5
  z5 := Tryz.sizeOf5
  v5 := Tryz.zeroValue5
  infoByte := by kernel_rfl
  cellsByte := by kernel_rfl
  sizeByte := by kernel_rfl
  neB5 := by decide }
def Tryz.lays161_ren : Go.Shelf.Ren := ⟨fun | 161 => 73 | 231 => 88 | 227 => 90 | 233 => 91 | 235 => 93 | 228 => 110 | 197 => 111 | 151 => 112 | 260 => 129 | 152 => 130 | 137 => 143 | 119 => 144 | 224 => 120 | 225 => 119 | 217 => 118 | 266 => 137 | n => n, fun | 9 => 9 | 4 => 4 | 3 => 3 | 5 => 5 | 117 => 141 | 116 => 140 | 0 => 0 | 124 => 144 | 105 => 161 | 21 => 21 | 119 => 183 | 46 => 146 | 139 => 186 | 138 => 185 | n => n, fun | 3 => 2 | 4 => 3 | n => n⟩
theorem Tryz.lays161 : Go.Proofs.Lays.n161 Tryz.prog Tryz.lays161_ren := {
  mixed := by kernel_rfl
  f119 := Tryz.func144.trans (congrArg some (by kernel_rfl))
  f137 := Tryz.func143.trans (congrArg some (by kernel_rfl))
  f151 := Tryz.func112.trans (congrArg some (by kernel_rfl))
  f152 := Tryz.func130.trans (congrArg some (by kernel_rfl))
  f161 := Tryz.func73.trans (congrArg some (by kernel_rfl))
  f197 := Tryz.func111.trans (congrArg some (by kernel_rfl))
  f217 := Tryz.func118.trans (congrArg some (by kernel_rfl))
  f224 := Tryz.func120.trans (congrArg some (by kernel_rfl))
  f225 := Tryz.func119.trans (congrArg some (by kernel_rfl))
  f227 := Tryz.func90.trans (congrArg some (by kernel_rfl))
  f228 := Tryz.func110.trans (congrArg some (by kernel_rfl))
  f231 := Tryz.func88.trans (congrArg some (by kernel_rfl))
  f233 := Tryz.func91.trans (congrArg some (by kernel_rfl))
  f235 := Tryz.func93.trans (congrArg some (by kernel_rfl))
  f260 := Tryz.func129.trans (congrArg some (by kernel_rfl))
  f266 := Tryz.func137.trans (congrArg some (by kernel_rfl))
  t0 := Tryz.underlying0
  a0 := Tryz.isAgg0
  z0 := Tryz.sizeOf0
  v0 := Tryz.zeroValue0
  t3 := Tryz.underlying3
  a3 := Tryz.isAgg3
  z3 := Tryz.sizeOf3
  v3 := Tryz.zeroValue3
  t4 := Tryz.underlying4
  a4 := Tryz.isAgg4
  z4 := Tryz.sizeOf4
  v4 := Tryz.zeroValue4
  t5 := Tryz.underlying5
  a5 := Tryz.isAgg5
  z5 := Tryz.sizeOf5
  v5 := Tryz.zeroValue5
  t9 := Tryz.underlying9
  a9 := Tryz.isAgg9
  z9 := Tryz.sizeOf9
  v9 := Tryz.zeroValue9
  t21 := Tryz.underlying21
  a21 := Tryz.isAgg21
  z21 := Tryz.sizeOf21
  v21 := Tryz.zeroValue21
  t46 := Tryz.underlying146
  a46 := Tryz.isAgg146
  z46 := Tryz.sizeOf146
  v46 := Tryz.zeroValue146
  t105 := Tryz.underlying161
  a105 := Tryz.isAgg161
  z105 := Tryz.sizeOf161
  v105 := Tryz.zeroValue161
  t116 := Tryz.underlying140
  a116 := Tryz.isAgg140
  z116 := Tryz.sizeOf140
  t117 := Tryz.underlying141
  a117 := Tryz.isAgg141
  z117 := Tryz.sizeOf141
  v117 := Tryz.zeroValue141
  t119 := Tryz.underlying183
  a119 := Tryz.isAgg183
  z119 := Tryz.sizeOf183
  t124 := Tryz.underlying144
  a124 := Tryz.isAgg144
  z124 := Tryz.sizeOf144
  v124 := Tryz.zeroValue144
  t138 := Tryz.underlying185
  a138 := Tryz.isAgg185
  z138 := Tryz.sizeOf185
  v138 := Tryz.zeroValue185
  t139 := Tryz.underlying186
  a139 := Tryz.isAgg186
  z139 := Tryz.sizeOf186
  v139 := Tryz.zeroValue186
  g3 := by kernel_rfl
  g4 := by kernel_rfl }
def Tryz.lays162_ren : Go.Shelf.Ren := ⟨fun | 162 => 70 | 232 => 89 | 227 => 90 | 234 => 92 | 236 => 94 | 228 => 110 | 271 => 113 | 151 => 112 | 120 => 131 | 197 => 111 | 152 => 130 | 260 => 129 | 137 => 143 | 119 => 144 | 224 => 120 | 225 => 119 | 217 => 118 | 266 => 137 | n => n, fun | 9 => 9 | 4 => 4 | 3 => 3 | 5 => 5 | 117 => 141 | 116 => 140 | 0 => 0 | 124 => 144 | 21 => 21 | 105 => 161 | 46 => 146 | 119 => 183 | 139 => 186 | 138 => 185 | n => n, fun | 3 => 2 | 4 => 3 | n => n⟩
theorem Tryz.lays162 : Go.Proofs.Lays.n162 Tryz.prog Tryz.lays162_ren := {
  mixed := by kernel_rfl
  f119 := Tryz.func144.trans (congrArg some (by kernel_rfl))
  f120 := Tryz.func131.trans (congrArg some (by kernel_rfl))
  f137 := Tryz.func143.trans (congrArg some (by kernel_rfl))
  f151 := Tryz.func112.trans (congrArg some (by kernel_rfl))
  f152 := Tryz.func130.trans (congrArg some (by kernel_rfl))
  f162 := Tryz.func70.trans (congrArg some (by kernel_rfl))
  f197 := Tryz.func111.trans (congrArg some (by kernel_rfl))
  f217 := Tryz.func118.trans (congrArg some (by kernel_rfl))
  f224 := Tryz.func120.trans (congrArg some (by kernel_rfl))
  f225 := Tryz.func119.trans (congrArg some (by kernel_rfl))
  f227 := Tryz.func90.trans (congrArg some (by kernel_rfl))
  f228 := Tryz.func110.trans (congrArg some (by kernel_rfl))
  f232 := Tryz.func89.trans (congrArg some (by kernel_rfl))
  f234 := Tryz.func92.trans (congrArg some (by kernel_rfl))
  f236 := Tryz.func94.trans (congrArg some (by kernel_rfl))
  f260 := Tryz.func129.trans (congrArg some (by kernel_rfl))
  f266 := Tryz.func137.trans (congrArg some (by kernel_rfl))
  f271 := Tryz.func113.trans (congrArg some (by kernel_rfl))
  t0 := Tryz.underlying0
  a0 := Tryz.isAgg0
  z0 := Tryz.sizeOf0
  v0 := Tryz.zeroValue0
  t3 := Tryz.underlying3
  a3 := Tryz.isAgg3
  z3 := Tryz.sizeOf3
  v3 := Tryz.zeroValue3
  t4 := Tryz.underlying4
  a4 := Tryz.isAgg4
  z4 := Tryz.sizeOf4
  v4 := Tryz.zeroValue4
  t5 := Tryz.underlying5
  a5 := Tryz.isAgg5
  z5 := Tryz.sizeOf5
  v5 := Tryz.zeroValue5
  t9 := Tryz.underlying9
  a9 := Tryz.isAgg9
  z9 := Tryz.sizeOf9
  v9 := Tryz.zeroValue9
  t21 := Tryz.underlying21
  a21 := Tryz.isAgg21
  z21 := Tryz.sizeOf21
  v21 := Tryz.zeroValue21
  t46 := Tryz.underlying146
  a46 := Tryz.isAgg146
  z46 := Tryz.sizeOf146
  v46 := Tryz.zeroValue146
  t105 := Tryz.underlying161
  a105 := Tryz.isAgg161
  z105 := Tryz.sizeOf161
  v105 := Tryz.zeroValue161
  t116 := Tryz.underlying140
  a116 := Tryz.isAgg140
  z116 := Tryz.sizeOf140
  t117 := Tryz.underlying141
  a117 := Tryz.isAgg141
  z117 := Tryz.sizeOf141
  v117 := Tryz.zeroValue141
  t119 := Tryz.underlying183
  a119 := Tryz.isAgg183
  z119 := Tryz.sizeOf183
  t124 := Tryz.underlying144
  a124 := Tryz.isAgg144
  z124 := Tryz.sizeOf144
  v124 := Tryz.zeroValue144
  t138 := Tryz.underlying185
  a138 := Tryz.isAgg185
  z138 := Tryz.sizeOf185
  v138 := Tryz.zeroValue185
  t139 := Tryz.underlying186
  a139 := Tryz.isAgg186
  z139 := Tryz.sizeOf186
  v139 := Tryz.zeroValue186
  g3 := by kernel_rfl
  g4 := by kernel_rfl }
open Go.RowKit in
theorem Tryz.strings_TrimRight_one (s : ByteArray) (c : UInt8) (hc : c.toNat < 128) (w : World) (hs : s.size ≤ 9223372036854775807) :
    Calls Tryz.prog 70 #[.string s, .string ⟨#[c]⟩] w fun e w' => e = .returned (.string ⟨(Lib.trimRightB s.data.toList c).toArray⟩) ∧ w' = w := Any.strings_TrimRight_one Tryz.lays162 s c hc w hs
def Tryz.lays160_ren : Go.Shelf.Ren := ⟨fun | 160 => 63 | 232 => 89 | 231 => 88 | 227 => 90 | 234 => 92 | 233 => 91 | 236 => 94 | 235 => 93 | 228 => 110 | 271 => 113 | 151 => 112 | 197 => 111 | 120 => 131 | 152 => 130 | 260 => 129 | 137 => 143 | 119 => 144 | 224 => 120 | 225 => 119 | 217 => 118 | 266 => 137 | n => n, fun | 9 => 9 | 4 => 4 | 3 => 3 | 5 => 5 | 117 => 141 | 116 => 140 | 0 => 0 | 124 => 144 | 21 => 21 | 105 => 161 | 46 => 146 | 119 => 183 | 139 => 186 | 138 => 185 | n => n, fun | 3 => 2 | 4 => 3 | n => n⟩
theorem Tryz.lays160 : Go.Proofs.Lays.n160 Tryz.prog Tryz.lays160_ren := {
  mixed := by kernel_rfl
  f119 := Tryz.func144.trans (congrArg some (by kernel_rfl))
  f120 := Tryz.func131.trans (congrArg some (by kernel_rfl))
  f137 := Tryz.func143.trans (congrArg some (by kernel_rfl))
  f151 := Tryz.func112.trans (congrArg some (by kernel_rfl))
  f152 := Tryz.func130.trans (congrArg some (by kernel_rfl))
  f160 := Tryz.func63.trans (congrArg some (by kernel_rfl))
  f197 := Tryz.func111.trans (congrArg some (by kernel_rfl))
  f217 := Tryz.func118.trans (congrArg some (by kernel_rfl))
  f224 := Tryz.func120.trans (congrArg some (by kernel_rfl))
  f225 := Tryz.func119.trans (congrArg some (by kernel_rfl))
  f227 := Tryz.func90.trans (congrArg some (by kernel_rfl))
  f228 := Tryz.func110.trans (congrArg some (by kernel_rfl))
  f231 := Tryz.func88.trans (congrArg some (by kernel_rfl))
  f232 := Tryz.func89.trans (congrArg some (by kernel_rfl))
  f233 := Tryz.func91.trans (congrArg some (by kernel_rfl))
  f234 := Tryz.func92.trans (congrArg some (by kernel_rfl))
  f235 := Tryz.func93.trans (congrArg some (by kernel_rfl))
  f236 := Tryz.func94.trans (congrArg some (by kernel_rfl))
  f260 := Tryz.func129.trans (congrArg some (by kernel_rfl))
  f266 := Tryz.func137.trans (congrArg some (by kernel_rfl))
  f271 := Tryz.func113.trans (congrArg some (by kernel_rfl))
  t0 := Tryz.underlying0
  a0 := Tryz.isAgg0
  z0 := Tryz.sizeOf0
  v0 := Tryz.zeroValue0
  t3 := Tryz.underlying3
  a3 := Tryz.isAgg3
  z3 := Tryz.sizeOf3
  v3 := Tryz.zeroValue3
  t4 := Tryz.underlying4
  a4 := Tryz.isAgg4
  z4 := Tryz.sizeOf4
  v4 := Tryz.zeroValue4
  t5 := Tryz.underlying5
  a5 := Tryz.isAgg5
  z5 := Tryz.sizeOf5
  v5 := Tryz.zeroValue5
  t9 := Tryz.underlying9
  a9 := Tryz.isAgg9
  z9 := Tryz.sizeOf9
  v9 := Tryz.zeroValue9
  t21 := Tryz.underlying21
  a21 := Tryz.isAgg21
  z21 := Tryz.sizeOf21
  v21 := Tryz.zeroValue21
  t46 := Tryz.underlying146
  a46 := Tryz.isAgg146
  z46 := Tryz.sizeOf146
  v46 := Tryz.zeroValue146
  t105 := Tryz.underlying161
  a105 := Tryz.isAgg161
  z105 := Tryz.sizeOf161
  v105 := Tryz.zeroValue161
  t116 := Tryz.underlying140
  a116 := Tryz.isAgg140
  z116 := Tryz.sizeOf140
  t117 := Tryz.underlying141
  a117 := Tryz.isAgg141
  z117 := Tryz.sizeOf141
  v117 := Tryz.zeroValue141
  t119 := Tryz.underlying183
  a119 := Tryz.isAgg183
  z119 := Tryz.sizeOf183
  t124 := Tryz.underlying144
  a124 := Tryz.isAgg144
  z124 := Tryz.sizeOf144
  v124 := Tryz.zeroValue144
  t138 := Tryz.underlying185
  a138 := Tryz.isAgg185
  z138 := Tryz.sizeOf185
  v138 := Tryz.zeroValue185
  t139 := Tryz.underlying186
  a139 := Tryz.isAgg186
  z139 := Tryz.sizeOf186
  v139 := Tryz.zeroValue186
  g3 := by kernel_rfl
  g4 := by kernel_rfl }
def Tryz.lays103_ren : Go.Shelf.Ren := ⟨fun | 103 => 62 | 210 => 87 | 206 => 97 | n => n, fun | 9 => 9 | 4 => 4 | 24 => 117 | 3 => 3 | n => n, fun | n => n⟩
theorem Tryz.lays103 : Go.Proofs.Lays.n103 Tryz.prog Tryz.lays103_ren := {
  mixed := by kernel_rfl
  f103 := Tryz.func62.trans (congrArg some (by kernel_rfl))
  f206 := Tryz.func97.trans (congrArg some (by kernel_rfl))
  f210 := Tryz.func87.trans (congrArg some (by kernel_rfl))
  t3 := Tryz.underlying3
  a3 := Tryz.isAgg3
  z3 := Tryz.sizeOf3
  v3 := Tryz.zeroValue3
  t4 := Tryz.underlying4
  a4 := Tryz.isAgg4
  z4 := Tryz.sizeOf4
  v4 := Tryz.zeroValue4
  t9 := Tryz.underlying9
  a9 := Tryz.isAgg9
  z9 := Tryz.sizeOf9
  v9 := Tryz.zeroValue9
  t24 := Tryz.underlying117
  a24 := Tryz.isAgg117
  z24 := Tryz.sizeOf117
  v24 := Tryz.zeroValue117 }
open Go.RowKit in
theorem Tryz.strings_CutPrefix (s p : ByteArray) (w : World) :
    Calls Tryz.prog 62 #[.string s, .string p] w fun e w' => e = .returned (.tuple #[.string ⟨(Lib.trimPrefix s.data.toList p.data.toList).toArray⟩, .bool (Lib.hasPrefix s.data.toList p.data.toList)]) ∧ w' = w := Any.strings_CutPrefix Tryz.lays103 s p w
def Tryz.lays121_ren : Go.Shelf.Ren := ⟨fun | 121 => 44 | 214 => 72 | n => n, fun | 4 => 4 | 9 => 9 | n => n, fun | n => n⟩
theorem Tryz.lays121 : Go.Proofs.Lays.n121 Tryz.prog Tryz.lays121_ren := {
  mixed := by kernel_rfl
  f121 := Tryz.func44.trans (congrArg some (by kernel_rfl))
  f214 := Tryz.func72.trans (congrArg some (by kernel_rfl))
  t4 := Tryz.underlying4
  a4 := Tryz.isAgg4
  z4 := Tryz.sizeOf4
  v4 := Tryz.zeroValue4
  t9 := Tryz.underlying9
  a9 := Tryz.isAgg9
  z9 := Tryz.sizeOf9
  v9 := Tryz.zeroValue9 }
open Go.RowKit in
theorem Tryz.strconv_FormatBool (b : Bool) (w : World) :
    Calls Tryz.prog 44 #[.bool b] w fun e w' => e = .returned (.string ⟨(Lib.formatBool b).toArray⟩) ∧ w' = w := Any.strconv_FormatBool Tryz.lays121 b w
open Go.RowKit in
theorem Tryz.Builder_String_any_k (B b : Nat) (l : List UInt8) (w : World) (h : Lib.IsBuilderF 75 5 B b (Lib.byteCells l) w) (hBw : B ≤ w.heap.size) :
    Calls Tryz.prog 24 #[.pointer (some ⟨b, 0, none⟩)] w fun e w' => e = .returned (.string ⟨l.toArray⟩) ∧ (Lib.IsBuilderF 75 5 B b (Lib.byteCells l) w' ∧ Below B w w' ∧ Lib.OthersKept 5 (some b) w w') := Any.Builder_String_any_k Tryz.lays169 Tryz.Builder_Extra_169 B b l w h hBw
def Tryz.lays171_ren : Go.Shelf.Ren := ⟨fun | 171 => 42 | 243 => 68 | 246 => 96 | 283 => 114 | 284 => 115 | 285 => 116 | 286 => 117 | 129 => 133 | 317 => 132 | 318 => 134 | 319 => 135 | 320 => 136 | 337 => 145 | 338 => 146 | n => n, fun | 3 => 3 | 9 => 9 | 2 => 2 | 4 => 4 | 171 => 164 | 0 => 0 | 53 => 120 | 37 => 73 | 5 => 5 | 173 => 167 | 212 => 176 | 51 => 145 | 20 => 20 | 213 => 177 | 46 => 146 | 232 => 189 | 233 => 190 | n => n, fun | 17 => 1 | 18 => 4 | 19 => 5 | n => n⟩
theorem Tryz.lays171 : Go.Proofs.Lays.n171 Tryz.prog Tryz.lays171_ren := {
  mixed := by kernel_rfl
  f129 := Tryz.func133.trans (congrArg some (by kernel_rfl))
  f171 := Tryz.func42.trans (congrArg some (by kernel_rfl))
  f243 := Tryz.func68.trans (congrArg some (by kernel_rfl))
  f246 := Tryz.func96.trans (congrArg some (by kernel_rfl))
  f283 := Tryz.func114.trans (congrArg some (by kernel_rfl))
  f284 := Tryz.func115.trans (congrArg some (by kernel_rfl))
  f285 := Tryz.func116.trans (congrArg some (by kernel_rfl))
  f286 := Tryz.func117.trans (congrArg some (by kernel_rfl))
  f317 := Tryz.func132.trans (congrArg some (by kernel_rfl))
  f318 := Tryz.func134.trans (congrArg some (by kernel_rfl))
  f319 := Tryz.func135.trans (congrArg some (by kernel_rfl))
  f320 := Tryz.func136.trans (congrArg some (by kernel_rfl))
  f337 := Tryz.func145.trans (congrArg some (by kernel_rfl))
  f338 := Tryz.func146.trans (congrArg some (by kernel_rfl))
  t0 := Tryz.underlying0
  a0 := Tryz.isAgg0
  z0 := Tryz.sizeOf0
  v0 := Tryz.zeroValue0
  t2 := Tryz.underlying2
  a2 := Tryz.isAgg2
  z2 := Tryz.sizeOf2
  v2 := Tryz.zeroValue2
  t3 := Tryz.underlying3
  a3 := Tryz.isAgg3
  z3 := Tryz.sizeOf3
  v3 := Tryz.zeroValue3
  t4 := Tryz.underlying4
  a4 := Tryz.isAgg4
  z4 := Tryz.sizeOf4
  v4 := Tryz.zeroValue4
  t5 := Tryz.underlying5
  a5 := Tryz.isAgg5
  z5 := Tryz.sizeOf5
  v5 := Tryz.zeroValue5
  t9 := Tryz.underlying9
  a9 := Tryz.isAgg9
  z9 := Tryz.sizeOf9
  v9 := Tryz.zeroValue9
  t20 := Tryz.underlying20
  a20 := Tryz.isAgg20
  z20 := Tryz.sizeOf20
  v20 := Tryz.zeroValue20
  t37 := Tryz.underlying73
  a37 := Tryz.isAgg73
  z37 := Tryz.sizeOf73
  v37 := Tryz.zeroValue73
  t46 := Tryz.underlying146
  a46 := Tryz.isAgg146
  z46 := Tryz.sizeOf146
  v46 := Tryz.zeroValue146
  t51 := Tryz.underlying145
  a51 := Tryz.isAgg145
  z51 := Tryz.sizeOf145
  v51 := Tryz.zeroValue145
  t53 := Tryz.underlying120
  a53 := Tryz.isAgg120
  z53 := Tryz.sizeOf120
  v53 := Tryz.zeroValue120
  t171 := Tryz.underlying164
  a171 := Tryz.isAgg164
  z171 := Tryz.sizeOf164
  v171 := Tryz.zeroValue164
  t173 := Tryz.underlying167
  a173 := Tryz.isAgg167
  z173 := Tryz.sizeOf167
  v173 := Tryz.zeroValue167
  t212 := Tryz.underlying176
  a212 := Tryz.isAgg176
  z212 := Tryz.sizeOf176
  v212 := Tryz.zeroValue176
  t213 := Tryz.underlying177
  a213 := Tryz.isAgg177
  z213 := Tryz.sizeOf177
  t232 := Tryz.underlying189
  a232 := Tryz.isAgg189
  z232 := Tryz.sizeOf189
  v232 := Tryz.zeroValue189
  t233 := Tryz.underlying190
  a233 := Tryz.isAgg190
  z233 := Tryz.sizeOf190
  v233 := Tryz.zeroValue190
  g17 := by kernel_rfl
  g18 := by kernel_rfl
  g19 := by kernel_rfl }
open Go.RowKit Go.Sort Go.Lib in
theorem Tryz.strconv_Itoa_small (i : Nat) (hi : i < 100) (w : World) :
    Calls Tryz.prog 42 #[.int .i64 i] w fun e w' => e = .returned (.string ⟨(Lib.decDigits i).toArray⟩) ∧ w' = w := Any.strconv_Itoa_small Tryz.lays171 i hi w
def Tryz.lays143_ren : Go.Shelf.Ren := ⟨fun | 143 => 75 | 219 => 98 | 217 => 118 | 225 => 119 | 224 => 120 | 267 => 121 | 266 => 137 | 314 => 138 | n => n, fun | 9 => 9 | 3 => 3 | 4 => 4 | 5 => 5 | 46 => 146 | 146 => 179 | 51 => 145 | n => n, fun | 1 => 0 | n => n⟩
theorem Tryz.lays143 : Go.Proofs.Lays.n143 Tryz.prog Tryz.lays143_ren := {
  mixed := by kernel_rfl
  f143 := Tryz.func75.trans (congrArg some (by kernel_rfl))
  f217 := Tryz.func118.trans (congrArg some (by kernel_rfl))
  f219 := Tryz.func98.trans (congrArg some (by kernel_rfl))
  f224 := Tryz.func120.trans (congrArg some (by kernel_rfl))
  f225 := Tryz.func119.trans (congrArg some (by kernel_rfl))
  f266 := Tryz.func137.trans (congrArg some (by kernel_rfl))
  f267 := Tryz.func121.trans (congrArg some (by kernel_rfl))
  f314 := Tryz.func138.trans (congrArg some (by kernel_rfl))
  t3 := Tryz.underlying3
  a3 := Tryz.isAgg3
  z3 := Tryz.sizeOf3
  v3 := Tryz.zeroValue3
  t4 := Tryz.underlying4
  a4 := Tryz.isAgg4
  z4 := Tryz.sizeOf4
  v4 := Tryz.zeroValue4
  t5 := Tryz.underlying5
  a5 := Tryz.isAgg5
  z5 := Tryz.sizeOf5
  v5 := Tryz.zeroValue5
  t9 := Tryz.underlying9
  a9 := Tryz.isAgg9
  z9 := Tryz.sizeOf9
  v9 := Tryz.zeroValue9
  t46 := Tryz.underlying146
  a46 := Tryz.isAgg146
  z46 := Tryz.sizeOf146
  v46 := Tryz.zeroValue146
  t51 := Tryz.underlying145
  a51 := Tryz.isAgg145
  z51 := Tryz.sizeOf145
  v51 := Tryz.zeroValue145
  t146 := Tryz.underlying179
  a146 := Tryz.isAgg179
  z146 := Tryz.sizeOf179
  v146 := Tryz.zeroValue179
  g1 := by kernel_rfl }
open Go.RowKit Go.Lib in
theorem Tryz.strings_Index_one (s : ByteArray) (c : UInt8) (w : World) :
    Calls Tryz.prog 75 #[.string s, .string ⟨#[c]⟩] w fun e w' => e = .returned (.int .i64 (Lib.indexByte s.data.toList c)) ∧ w' = w := Any.strings_Index_one Tryz.lays143 s c w
def Tryz.lays99_ren : Go.Shelf.Ren := ⟨fun | 99 => 74 | 206 => 97 | n => n, fun | 9 => 9 | 4 => 4 | 3 => 3 | n => n, fun | n => n⟩
theorem Tryz.lays99 : Go.Proofs.Lays.n99 Tryz.prog Tryz.lays99_ren := {
  mixed := by kernel_rfl
  f99 := Tryz.func74.trans (congrArg some (by kernel_rfl))
  f206 := Tryz.func97.trans (congrArg some (by kernel_rfl))
  t3 := Tryz.underlying3
  a3 := Tryz.isAgg3
  z3 := Tryz.sizeOf3
  v3 := Tryz.zeroValue3
  t4 := Tryz.underlying4
  a4 := Tryz.isAgg4
  z4 := Tryz.sizeOf4
  v4 := Tryz.zeroValue4
  t9 := Tryz.underlying9
  a9 := Tryz.isAgg9
  z9 := Tryz.sizeOf9
  v9 := Tryz.zeroValue9 }
open Go.RowKit Go.Lib in
theorem Tryz.strings_HasPrefix (s p : ByteArray) (w : World) :
    Calls Tryz.prog 74 #[.string s, .string p] w fun e w' => e = .returned (.bool (Lib.hasPrefix s.data.toList p.data.toList)) ∧ w' = w := Any.strings_HasPrefix Tryz.lays99 s p w
def Tryz.lays110_ren : Go.Shelf.Ren := ⟨fun | 110 => 82 | 109 => 105 | n => n, fun | 31 => 134 | 9 => 9 | 4 => 4 | 3 => 3 | 0 => 0 | n => n, fun | n => n⟩
theorem Tryz.lays110 : Go.Proofs.Lays.n110 Tryz.prog Tryz.lays110_ren := {
  mixed := by kernel_rfl
  f109 := Tryz.func105.trans (congrArg some (by kernel_rfl))
  f110 := Tryz.func82.trans (congrArg some (by kernel_rfl))
  t0 := Tryz.underlying0
  a0 := Tryz.isAgg0
  z0 := Tryz.sizeOf0
  v0 := Tryz.zeroValue0
  t3 := Tryz.underlying3
  a3 := Tryz.isAgg3
  z3 := Tryz.sizeOf3
  v3 := Tryz.zeroValue3
  t4 := Tryz.underlying4
  a4 := Tryz.isAgg4
  z4 := Tryz.sizeOf4
  v4 := Tryz.zeroValue4
  t9 := Tryz.underlying9
  a9 := Tryz.isAgg9
  z9 := Tryz.sizeOf9
  v9 := Tryz.zeroValue9
  t31 := Tryz.underlying134
  a31 := Tryz.isAgg134
  z31 := Tryz.sizeOf134
  v31 := Tryz.zeroValue134 }
open Go.Lib in
theorem Tryz.slices_Contains_string (b off n c : Nat) (zs : List ByteArray) (x : ByteArray) (w : World) (hz : n ≤ zs.length) (hbig : n ≤ 9223372036854775807) (hc : ∀ j, j < zs.length → w.cell? ⟨b, off + j, none⟩ = some (.string (zs.getD j ByteArray.empty))) :
    Calls Tryz.prog 82 #[.slice (some ⟨b, off, none⟩) n c, .string x] w fun e w' => e = .returned (.bool (Lib.containsS (zs.take n) x)) ∧ w' = w := Any.slices_Contains_string Tryz.lays110 b off n c zs x w hz hbig hc
def Tryz.laysNm215_ren : Go.Shelf.Ren := ⟨fun | 15 => 48 | n => n, fun | 22 => 49 | 3 => 3 | 4 => 4 | n => n, fun | n => n⟩
theorem Tryz.laysNm215 : Go.Proofs.Lays2.n15 Tryz.prog Tryz.laysNm215_ren := {
  mixed := by kernel_rfl
  f15 := Tryz.func48.trans (congrArg some (by kernel_rfl))
  t3 := Tryz.underlying3
  a3 := Tryz.isAgg3
  z3 := Tryz.sizeOf3
  v3 := Tryz.zeroValue3
  t4 := Tryz.underlying4
  a4 := Tryz.isAgg4
  z4 := Tryz.sizeOf4
  v4 := Tryz.zeroValue4
  t22 := Tryz.underlying49
  a22 := Tryz.isAgg49
  z22 := Tryz.sizeOf49
  v22 := Tryz.zeroValue49
  i3 := by kernel_rfl }
open Go.RowKit Go.Lib in
theorem Tryz.slices_Clone_int (b off n c : Nat) (zs : List Int) (w : World) (hz : n ≤ zs.length) (hbig : n * 8 ≤ 140737488355328) (hc : ∀ j, j < zs.length → w.cell? ⟨b, off + j, none⟩ = some (.int .i64 (zs.getD j 0))) :
    Calls Tryz.prog 48 #[.slice (some ⟨b, off, none⟩) n c] w fun e w' => ∃ v', e = .returned v' ∧ w'.ownsRow w.heap.size 3 1 v' n ((zs.take n).map (Value.int .i64)) ∧ v' ≠ .slice none 0 0 ∧ Below w.heap.size w w' := Any.slices_Clone_int Tryz.laysNm215 b off n c zs w hz hbig hc
open Go.RowKit Go.Lib in
theorem Tryz.slices_Clone_int_nil (n c : Nat) (w : World) :
    Calls Tryz.prog 48 #[.slice none n c] w fun e w' => e = .returned (.slice none 0 0) ∧ w' = w := Any.slices_Clone_int_nil Tryz.laysNm215 n c w
open Go.RowKit Go.Lib in
theorem Tryz.slices_Clone_int_zero (a : Addr) (c : Nat) (w : World) :
    Calls Tryz.prog 48 #[.slice (some a) 0 c] w fun e w' => ∃ v', e = .returned v' ∧ w'.ownsRow w.heap.size 3 1 v' 0 [] ∧ v' ≠ .slice none 0 0 ∧ Below w.heap.size w w' := Any.slices_Clone_int_zero Tryz.laysNm215 a c w
def Tryz.lays2x26_ren : Go.Shelf.Ren := ⟨fun | 26 => 102 | 33 => 122 | 34 => 123 | 38 => 139 | n => n, fun | 24 => 134 | 9 => 9 | 3 => 3 | 4 => 4 | 40 => 146 | 0 => 0 | n => n, fun | n => n⟩
theorem Tryz.lays2x26 : Go.Proofs.Lays2.n26 Tryz.prog Tryz.lays2x26_ren := {
  mixed := by kernel_rfl
  f26 := Tryz.func102.trans (congrArg some (by kernel_rfl))
  f33 := Tryz.func122.trans (congrArg some (by kernel_rfl))
  f34 := Tryz.func123.trans (congrArg some (by kernel_rfl))
  f38 := Tryz.func139.trans (congrArg some (by kernel_rfl))
  t0 := Tryz.underlying0
  a0 := Tryz.isAgg0
  z0 := Tryz.sizeOf0
  v0 := Tryz.zeroValue0
  t3 := Tryz.underlying3
  a3 := Tryz.isAgg3
  z3 := Tryz.sizeOf3
  v3 := Tryz.zeroValue3
  t4 := Tryz.underlying4
  a4 := Tryz.isAgg4
  z4 := Tryz.sizeOf4
  v4 := Tryz.zeroValue4
  t9 := Tryz.underlying9
  a9 := Tryz.isAgg9
  z9 := Tryz.sizeOf9
  v9 := Tryz.zeroValue9
  t24 := Tryz.underlying134
  a24 := Tryz.isAgg134
  z24 := Tryz.sizeOf134
  v24 := Tryz.zeroValue134
  t40 := Tryz.underlying146
  a40 := Tryz.isAgg146
  z40 := Tryz.sizeOf146
  v40 := Tryz.zeroValue146 }
end Go.Proofs

namespace Go.Proofs.YtdjkibbnkklajaaGreatDoor
open Go.RowKit

theorem letterB_cases (c : UInt8) : letterB c = ((decide (97 ≤ (c.toNat : Int)) && decide ((c.toNat : Int) ≤ 122)) || (decide (65 ≤ (c.toNat : Int)) && decide ((c.toNat : Int) ≤ 90))) := by
  have h1 : (97 ≤ c) ↔ (97 ≤ (c.toNat : Int)) := by rw [UInt8.le_iff_toNat_le]; show 97 ≤ c.toNat ↔ _; omega
  have h2 : (c ≤ 122) ↔ ((c.toNat : Int) ≤ 122) := by rw [UInt8.le_iff_toNat_le]; show c.toNat ≤ 122 ↔ _; omega
  have h3 : (65 ≤ c) ↔ (65 ≤ (c.toNat : Int)) := by rw [UInt8.le_iff_toNat_le]; show 65 ≤ c.toNat ↔ _; omega
  have h4 : (c ≤ 90) ↔ ((c.toNat : Int) ≤ 90) := by rw [UInt8.le_iff_toNat_le]; show c.toNat ≤ 90 ↔ _; omega
  simp only [letterB, h1, h2, h3, h4]

theorem digitB_cases (c : UInt8) : digitB c = (decide (48 ≤ (c.toNat : Int)) && decide ((c.toNat : Int) ≤ 57)) := by
  have h1 : (48 ≤ c) ↔ (48 ≤ (c.toNat : Int)) := by rw [UInt8.le_iff_toNat_le]; show 48 ≤ c.toNat ↔ _; omega
  have h2 : (c ≤ 57) ↔ ((c.toNat : Int) ≤ 57) := by rw [UInt8.le_iff_toNat_le]; show c.toNat ≤ 57 ↔ _; omega
  simp only [digitB, h1, h2]

theorem u8_eq (c : UInt8) (k : UInt8) : (c == k) = ((c.toNat : Int) == (k.toNat : Int)) := by
  rw [Bool.eq_iff_iff, beq_iff_eq, beq_iff_eq, ← UInt8.toNat_inj]
  omega

theorem int_eq_nat (a b : Nat) : (((a : Int) == (b : Int)) = true) = (a = b) := by
  rw [beq_iff_eq]; exact propext Int.ofNat_inj

set_option maxHeartbeats 1000000 in
set_option maxRecDepth 100000 in
theorem letter_any (c : UInt8) (w : World) : Calls Tryz.prog 76 #[.int .u8 c.toNat] w fun e w' => e = .returned (.bool (letterB c)) ∧ w' = w := by
  rw [letterB_cases]
  go_enter Tryz.func76, Tryz.ntmps76
  go_wp2
  all_goals (go_ret; refine ⟨ret_bool ?_, rfl⟩; simp; try omega)

set_option maxHeartbeats 1000000 in
set_option maxRecDepth 100000 in
theorem digit_any (c : UInt8) (w : World) : Calls Tryz.prog 78 #[.int .u8 c.toNat] w fun e w' => e = .returned (.bool (digitB c)) ∧ w' = w := by
  rw [digitB_cases]
  go_enter Tryz.func78, Tryz.ntmps78
  go_wp2
  all_goals (go_ret; refine ⟨ret_bool ?_, rfl⟩; simp; try omega)

set_option maxHeartbeats 1000000 in
set_option maxRecDepth 100000 in
theorem inside_any (c : UInt8) (w : World) : Calls Tryz.prog 100 #[.int .u8 c.toNat] w fun e w' => e = .returned (.bool (insideB c)) ∧ w' = w := by
  have hq : insideB c = (letterB c || digitB c || ((c.toNat : Int) == 95)) := by rw [insideB, u8_eq]; rfl
  rw [hq]
  clear hq
  generalize hL : letterB c = L
  generalize hD : digitB c = D
  cases L <;> cases D <;>
  (go_enter Tryz.func100, Tryz.ntmps100
   go_wp2_with (first | (go_at_call 76; refine (letter_any c _).mono ?_; rintro e w' ⟨rfl, rfl⟩; rw [hL]) | (go_at_call 78; refine (digit_any c _).mono ?_; rintro e w' ⟨rfl, rfl⟩; rw [hD]))
   all_goals (go_ret; refine ⟨ret_bool ?_, rfl⟩; simp))

/-- The longest beginning of some bytes. -/
def runL (p : UInt8 → Bool) (s : ByteArray) : Nat := (s.data.toList.takeWhile p).length

theorem take_more (p : UInt8 → Bool) : ∀ (T : List UInt8) (k : Nat), k ≤ (T.takeWhile p).length → (k < (T.takeWhile p).length ↔ ∃ c, T[k]? = some c ∧ p c = true)
  | [], k, hk => by simp
  | c :: r, 0, hk => by
    by_cases h : p c = true
    · simp [List.takeWhile_cons_of_pos h, h]
    · simp [List.takeWhile_cons_of_neg h, h]
  | c :: r, k + 1, hk => by
    by_cases h : p c = true
    · rw [List.takeWhile_cons_of_pos h, List.length_cons] at hk ⊢
      have := take_more p r k (by omega)
      simp only [List.getElem?_cons_succ]
      rw [← this]
      omega
    · rw [List.takeWhile_cons_of_neg h] at hk
      simp at hk

theorem byte_is {s : ByteArray} {i : Nat} (hi : i < s.size) : s.data.toList[i]? = some (s[i]'hi) := by
  rw [List.getElem?_eq_getElem (by rw [Lib.size_eq] at hi; exact hi)]
  rfl

set_option maxHeartbeats 1000000 in
set_option maxRecDepth 100000 in
theorem run_inside (s : ByteArray) (w : World) (hs : s.size ≤ 1099511627776) :
    Calls Tryz.prog 99 #[.string s, .func (.func 100) #[] #[]] w fun e w' => e = .returned (.string (s.extract 0 (runL insideB s))) ∧ w' = w := by
  have hr : runL insideB s ≤ s.size := by rw [Lib.size_eq]; exact takeWhile_le insideB _
  go_enter Tryz.func99, Tryz.ntmps99
  go_wp2
  go_loop [5] (fun n => ∃ k : Nat, n = .int .i64 k ∧ k ≤ runL insideB s) (fun n => s.size - (intOf n).toNat)
  case atStart => exact ⟨0, rfl, Nat.zero_le _⟩
  case round =>
    obtain ⟨k, rfl, hk⟩ := hrel
    have hm := take_more insideB s.data.toList k hk
    by_cases hlt : k < s.size
    · have hI : (k : Int) < ↑s.size := by omega
      have hD : decide ((k : Int) < ↑s.size) = true := decide_eq_true hI
      rw [byte_is hlt] at hm
      by_cases hp : insideB (s[k]'hlt) = true
      · have hk1 : k < runL insideB s := hm.2 ⟨_, rfl, hp⟩
        have HM := Lib.hid hm
        clear hm
        go_wp2_with (go_at_call 100; refine (inside_any _ _).mono ?_; rintro e w1 ⟨rfl, rfl⟩)
        go_round
        case rel => exact ⟨k + 1, by go_num, by omega⟩
        case measure => simp [intOf]; omega
      · have hk1 : k = runL insideB s := by
          rcases Nat.lt_or_ge k (runL insideB s) with h | h
          · obtain ⟨c, h1, h2⟩ := hm.1 h
            injection h1 with h1
            subst h1
            exact absurd h2 hp
          · omega
        have hp' : insideB (s[k]'hlt) = false := by simpa using hp
        have HK := Lib.hid hk1
        clear hm hp hk1
        go_wp2_with (go_at_call 100; refine (inside_any _ _).mono ?_; rintro e w1 ⟨rfl, rfl⟩)
        go_ret
        exact ⟨by rw [← HK.out]; rfl, rfl⟩
    · have hk1 : k = runL insideB s := by omega
      have hD : decide ((k : Int) < ↑s.size) = false := decide_eq_false (by omega)
      have HK := Lib.hid hk1
      clear hm hk1
      go_wp2
      go_ret
      exact ⟨by rw [← HK.out]; rfl, rfl⟩
set_option maxHeartbeats 1000000 in
set_option maxRecDepth 100000 in
theorem run_digit (s : ByteArray) (w : World) (hs : s.size ≤ 1099511627776) :
    Calls Tryz.prog 99 #[.string s, .func (.func 78) #[] #[]] w fun e w' => e = .returned (.string (s.extract 0 (runL digitB s))) ∧ w' = w := by
  have hr : runL digitB s ≤ s.size := by rw [Lib.size_eq]; exact takeWhile_le digitB _
  go_enter Tryz.func99, Tryz.ntmps99
  go_wp2
  go_loop [5] (fun n => ∃ k : Nat, n = .int .i64 k ∧ k ≤ runL digitB s) (fun n => s.size - (intOf n).toNat)
  case atStart => exact ⟨0, rfl, Nat.zero_le _⟩
  case round =>
    obtain ⟨k, rfl, hk⟩ := hrel
    have hm := take_more digitB s.data.toList k hk
    by_cases hlt : k < s.size
    · have hI : (k : Int) < ↑s.size := by omega
      have hD : decide ((k : Int) < ↑s.size) = true := decide_eq_true hI
      rw [byte_is hlt] at hm
      by_cases hp : digitB (s[k]'hlt) = true
      · have hk1 : k < runL digitB s := hm.2 ⟨_, rfl, hp⟩
        have HM := Lib.hid hm
        clear hm
        go_wp2_with (go_at_call 78; refine (digit_any _ _).mono ?_; rintro e w1 ⟨rfl, rfl⟩)
        go_round
        case rel => exact ⟨k + 1, by go_num, by omega⟩
        case measure => simp [intOf]; omega
      · have hk1 : k = runL digitB s := by
          rcases Nat.lt_or_ge k (runL digitB s) with h | h
          · obtain ⟨c, h1, h2⟩ := hm.1 h
            injection h1 with h1
            subst h1
            exact absurd h2 hp
          · omega
        have hp' : digitB (s[k]'hlt) = false := by simpa using hp
        have HK := Lib.hid hk1
        clear hm hp hk1
        go_wp2_with (go_at_call 78; refine (digit_any _ _).mono ?_; rintro e w1 ⟨rfl, rfl⟩)
        go_ret
        exact ⟨by rw [← HK.out]; rfl, rfl⟩
    · have hk1 : k = runL digitB s := by omega
      have hD : decide ((k : Int) < ↑s.size) = false := decide_eq_false (by omega)
      have HK := Lib.hid hk1
      clear hm hk1
      go_wp2
      go_ret
      exact ⟨by rw [← HK.out]; rfl, rfl⟩
end Go.Proofs.YtdjkibbnkklajaaGreatDoor

namespace Go.Proofs.YtdjkibbnkklajaaGreatDoor
open Go.RowKit

theorem blankB_set : ∀ c : UInt8, blankB c = ([32, 9, 13, 10] : List UInt8).contains c := by
  intro c
  simp only [blankB, List.contains_cons, List.contains_nil, Bool.or_false, Bool.or_assoc]

theorem trim_any (s : ByteArray) (w : World) : Calls Tryz.prog 73 #[.string s, .string ⟨#[32, 9, 13, 10]⟩] w fun e w' => e = .returned (.string ⟨(s.data.toList.dropWhile blankB).toArray⟩) ∧ Below w.heap.size w w' := by
  have h := Any.strings_TrimLeft_laid Tryz.lays161 (by kernel_rfl) s ⟨#[32, 9, 13, 10]⟩ w (by decide) (ascii_of_all (by decide))
  have e : Lib.trimLeftS s.data.toList (ByteArray.mk #[32, 9, 13, 10]).data.toList = s.data.toList.dropWhile blankB := by
    unfold Lib.trimLeftS
    congr 1
    funext c
    exact (blankB_set c).symm
  rw [e] at h
  exact h

theorem mk_size (T : List UInt8) : (ByteArray.mk T.toArray).size = T.length := by simp [ByteArray.size]

theorem drop_blanks (T : List UInt8) : T.dropWhile blankB = T.drop (T.takeWhile blankB).length := by
  induction T with
  | nil => rfl
  | cons c r ih =>
    by_cases h : blankB c = true
    · rw [List.dropWhile_cons_of_pos h, List.takeWhile_cons_of_pos h, ih]; rfl
    · rw [List.dropWhile_cons_of_neg h, List.takeWhile_cons_of_neg h]; rfl

theorem take_none (T : List UInt8) : (T.dropWhile blankB).takeWhile blankB = [] := by
  cases h : T.dropWhile blankB with
  | nil => rfl
  | cons c r =>
    have := List.head?_dropWhile_not blankB T
    rw [h] at this
    simp only [List.head?_cons] at this
    rw [List.takeWhile_cons_of_neg (by simpa using this)]

theorem pre_one (T : List UInt8) (i : Nat) (h : [45, 45] <+: T) (hi : T[i]? = some 10) : 0 < i := by
  obtain ⟨r, rfl⟩ := h
  cases i with
  | zero => cases hi
  | succ i => omega

set_option maxHeartbeats 1000000 in
set_option maxRecDepth 100000 in
theorem between_any (s : ByteArray) (w : World) (hs : s.size ≤ 1099511627776) :
    Calls Tryz.prog 45 #[.string s] w fun e w' => e = .returned (.string (s.extract 0 (leadF false s.data.toList))) ∧ Below w.heap.size w w' := by
  have hle := leadF_le false s.data.toList
  rw [← Lib.size_eq] at hle
  go_enter Tryz.func45, Tryz.ntmps45
  go_wp2
  go_loopw [3] (fun r wr => ∃ (d : Nat) (x : ByteArray), r = .string x ∧ d ≤ s.size ∧ x.data.toList = s.data.toList.drop d ∧ leadF false s.data.toList = d + leadF false (s.data.toList.drop d) ∧ Below w.heap.size w wr) (fun r _ => strLen r)
  case atStart => exact ⟨0, s, rfl, Nat.zero_le _, rfl, by simp, Below.refl _ _⟩
  case round =>
    obtain ⟨d, x, rfl, hd, hx, hl, hb⟩ := hrel
    have hz := hb.size
    have hxs : x.size = s.size - d := by rw [Lib.size_eq, hx, List.length_drop, ← Lib.size_eq]
    rw [leadF_blanks (s.data.toList.drop d), ← hx] at hl
    have hkl := takeWhile_le blankB x.data.toList
    have hnone := take_none x.data.toList
    have hdrop := drop_blanks x.data.toList
    rw [← Lib.size_eq] at hkl
    generalize hk : (x.data.toList.takeWhile blankB).length = k at hl hkl hdrop
    generalize hy : (ByteArray.mk (x.data.toList.dropWhile blankB).toArray) = y
    have hyl : y.data.toList = x.data.toList.dropWhile blankB := by rw [← hy]
    have hys : y.size = s.size - (d + k) := by rw [Lib.size_eq, hyl, hdrop, List.length_drop, ← Lib.size_eq, hxs]; omega
    rw [← hyl] at hl hnone hdrop
    have HT := Lib.hid (trim_any x wr)
    have HY := Lib.hid hy
    by_cases hp : [45, 45] <+: y.data.toList
    · have hpre : Lib.hasPrefix y.data.toList (ByteArray.mk #[45, 45]).data.toList = true := List.isPrefixOf_iff_prefix.2 hp
      rw [leadF_remark _ hp] at hl
      rcases ten_cases y.data.toList with ⟨h1, h2⟩ | ⟨i, h1, h2, h3, h4⟩
      · have HP := Lib.hid (Tryz.strings_HasPrefix y ⟨#[45, 45]⟩)
        have HI := Lib.hid (Tryz.strings_Index_one y 10)
        have HJ := Lib.hid h1
        rw [leadF_none _ h2, ← Lib.size_eq, hys] at hl
        have HL := Lib.hid hl
        have HB := Lib.hid hpre
        clear hl hy hyl hx hnone hdrop hp hpre hk hle h1 h2
        go_wp2_with (first | (go_at_call 73; refine HT.out.mono ?_; rw [HY.out]; rintro e w1 ⟨rfl, hb1⟩) | (go_at_call 74; refine (HP.out _).mono ?_; rw [HB.out]; rintro e w2 ⟨rfl, rfl⟩) | (go_at_call 75; refine (HI.out _).mono ?_; rw [HJ.out]; rintro e w2 ⟨rfl, rfl⟩))
        go_ret
        exact ⟨ret_str (by rw [HL.out]; exact bytes_ext (by rw [show d + (k + (s.size - (d + k))) = s.size by omega, extract_end]; rfl)), hb.trans (hb1.mono hz)⟩
      · have HP := Lib.hid (Tryz.strings_HasPrefix y ⟨#[45, 45]⟩)
        have HI := Lib.hid (Tryz.strings_Index_one y 10)
        have HJ := Lib.hid h1
        rw [leadF_some i _ h2 h4] at hl
        rw [← Lib.size_eq] at h3
        have hi0 := pre_one _ _ hp h2
        have HL := Lib.hid hl
        have HB := Lib.hid hpre
        have hq : (y.extract i y.size).data.toList = s.data.toList.drop (d + k + i) := by
          rw [extract_end, hdrop, hx, List.drop_drop, List.drop_drop]
          congr 1
          omega
        have hq2 : y.data.toList.drop i = s.data.toList.drop (d + k + i) := by rw [← hq, extract_end]
        have hes : (y.extract i y.size).size = y.size - i := by rw [ByteArray.size_extract]; omega
        rw [hys] at hq hes
        have HQ := Lib.hid hq
        have HQ2 := Lib.hid hq2
        have HES := Lib.hid hes
        clear hl hy hyl hx hnone hdrop hp hpre hk hle h1 h2 h4 hq hq2 hes
        go_wp2_with (first | (go_at_call 73; refine HT.out.mono ?_; rw [HY.out]; rintro e w1 ⟨rfl, hb1⟩) | (go_at_call 74; refine (HP.out _).mono ?_; rw [HB.out]; rintro e w2 ⟨rfl, rfl⟩) | (go_at_call 75; refine (HI.out _).mono ?_; rw [HJ.out]; rintro e w2 ⟨rfl, rfl⟩))
        go_roundw
        case rel => exact ⟨d + k + i, _, rfl, by omega, HQ.out, by rw [HL.out, HQ2.out]; omega, hb.trans (hb1.mono hz)⟩
        case measure => simp only [strLen]; rw [HES.out]; omega
    · have hpre : Lib.hasPrefix y.data.toList (ByteArray.mk #[45, 45]).data.toList = false := by
        cases h : Lib.hasPrefix y.data.toList (ByteArray.mk #[45, 45]).data.toList with
        | false => rfl
        | true => exact absurd (List.isPrefixOf_iff_prefix.1 h) hp
      rw [leadF_stop _ hp hnone, Nat.add_zero] at hl
      have HP := Lib.hid (Tryz.strings_HasPrefix y ⟨#[45, 45]⟩)
      have HL := Lib.hid hl
      have HB := Lib.hid hpre
      clear hl hy hyl hx hnone hdrop hp hpre hk hle
      go_wp2_with (first | (go_at_call 73; refine HT.out.mono ?_; rw [HY.out]; rintro e w1 ⟨rfl, hb1⟩) | (go_at_call 74; refine (HP.out _).mono ?_; rw [HB.out]; rintro e w2 ⟨rfl, rfl⟩))
      go_ret
      exact ⟨ret_str (by rw [HL.out]; congr 1; omega), hb.trans (hb1.mono hz)⟩
end Go.Proofs.YtdjkibbnkklajaaGreatDoor
