/- A part of the proof of flowSum_card, flowParts_card, flowEx_card, accrWhole_card, priceZero_card. -/
import Derived.Shelf.Strings.Builder1
import Derived.Shelf.Strings.Builder2
import Derived.Shelf.Strings.OnBuilder
import Derived.Shelf.Strings.Trim
import Derived.Shelf.Small.Utf8
import Derived.Shelf.Small.Bits
import Derived.Shelf.Small.Strs
import Derived.Shelf.Small.Wraps
import Derived.Shelf.Strings.BuilderF
import Derived.Shelf.Strings.BuilderK
import Derived.Shelf.Strings.Builder2Cap
import Derived.Shelf.Strconv.Itoa0
import Derived.Shelf.Strconv.Itoa1
import Derived.Shelf.LaysM
import Derived.Shelf.Strconv.Itoa2
import Derived.Shelf.Strconv.Itoa3
import Derived.Shelf.Strconv.Lower
import Derived.Shelf.Strconv.ParseUint10b64
import Derived.Ground.MpProg
import Derived.Shelf.Pu.ParseUintPublic10
import Derived.Shelf.Strings.Search1
import Derived.Shelf.Strings.Search2
import Derived.Shelf.Strings.Cut
import Derived.Shelf.Strings.Shaped
import Derived.Shelf.Strings.Prefix
import Derived.Shelf.Unicode.Decode
import Derived.Shelf.Strings.Runes
import Derived.Shelf.Strings.AsciiSet
import Derived.Shelf.Bits.Mul64
import Derived.Shelf.Strings.Repeat
import Derived.Shelf.Unicode.DecodeSlow
import Derived.Shelf.Unicode.DecodeAny
import Derived.Shelf.Unicode.DecodeLast
import Derived.Shelf.Strings.BuilderCap
import Derived.Shelf.Slices.Reverse
import Derived.Ground.Names2Prog
import Derived.Shelf.Slices.ReverseS
import Derived.Shelf.Slices.Cells
import Derived.Ground.SlgnProg
import Derived.Shelf.SlicesE.Clone
import Derived.Test.YtnokhmkkpcfilaaGreatDoorProg
namespace Go.Proofs
open Go.Shelf
open Go.RowKit in
def Tryz.lays169_ren : Go.Shelf.Ren := ⟨fun | 169 => 218 | n => n, fun | 70 => 263 | 9 => 9 | 0 => 0 | 72 => 265 | 37 => 229 | 127 => 285 | 3 => 3 | 5 => 5 | n => n, fun | n => n⟩
theorem Tryz.lays169 : Go.Proofs.Lays.n169 Tryz.prog Tryz.lays169_ren := {
 mixed := by kernel_rfl
 f169 := Tryz.func218.trans (congrArg some (by kernel_rfl))
 t0 := Tryz.underlying0
 a0 := Tryz.isAgg0
 z0 := Tryz.sizeOf0
 v0 := Tryz.zeroValue0
 t3 := Tryz.underlying3
 a3 := Tryz.isAgg3
 z3 := Tryz.sizeOf3
 v3 := Tryz.zeroValue3
 t9 := Tryz.underlying9
 a9 := Tryz.isAgg9
 z9 := Tryz.sizeOf9
 v9 := Tryz.zeroValue9
 t37 := Tryz.underlying229
 a37 := Tryz.isAgg229
 z37 := Tryz.sizeOf229
 v37 := Tryz.zeroValue229
 t70 := Tryz.underlying263
 a70 := Tryz.isAgg263
 z70 := Tryz.sizeOf263
 v70 := Tryz.zeroValue263
 t72 := Tryz.underlying265
 a72 := Tryz.isAgg265
 z72 := Tryz.sizeOf265
 v72 := Tryz.zeroValue265
 t127 := Tryz.underlying285
 a127 := Tryz.isAgg285
 z127 := Tryz.sizeOf285
 v127 := Tryz.zeroValue285 }
theorem Tryz.Builder_Extra_169 : Builder.Extra Tryz.prog Tryz.lays169_ren := {
 sizeBuilder := by kernel_rfl
 liesBuilder := by kernel_rfl
 t5 := Tryz.underlying5
 a5 := Tryz.isAgg5
 z5 := Tryz.sizeOf5
 v5 := Tryz.zeroValue5
 infoByte := by kernel_rfl
 cellsByte := by kernel_rfl
 sizeByte := by kernel_rfl
 neB5 := by decide }
open Go.RowKit in
theorem Tryz.Builder_String (B b : Nat) (l : List UInt8) (w : World) (h : Lib.IsBuilder 265 5 B b (Lib.byteCells l) w) (h0 : l ≠ []) :
  Calls Tryz.prog 218 #[.pointer (some ⟨b, 0, none⟩)] w fun e w' => e = .returned (.string ⟨l.toArray⟩) ∧ Below B w w' := Any.Builder_String Tryz.lays169 Tryz.Builder_Extra_169 B b l w h h0
open Go.RowKit in
open Go.RowKit in
open Go.RowKit in
open Go.RowKit in
def Tryz.lays156_ren : Go.Shelf.Ren := ⟨fun | 156 => 171 | 165 => 215 | 166 => 216 | 169 => 218 | 240 => 240 | 241 => 241 | 276 => 253 | 277 => 254 | n => n, fun | 31 => 214 | 9 => 9 | 3 => 3 | 4 => 4 | 0 => 0 | 20 => 20 | 72 => 265 | 76 => 98 | 70 => 263 | 37 => 229 | 75 => 28 | 127 => 285 | 164 => 191 | 5 => 5 | 80 => 66 | n => n, fun | n => n⟩
theorem Tryz.lays156 : Go.Proofs.Lays.n156 Tryz.prog Tryz.lays156_ren := {
 mixed := by kernel_rfl
 f156 := Tryz.func171.trans (congrArg some (by kernel_rfl))
 f165 := Tryz.func215.trans (congrArg some (by kernel_rfl))
 f166 := Tryz.func216.trans (congrArg some (by kernel_rfl))
 f169 := Tryz.func218.trans (congrArg some (by kernel_rfl))
 f240 := Tryz.func240.trans (congrArg some (by kernel_rfl))
 f241 := Tryz.func241.trans (congrArg some (by kernel_rfl))
 f276 := Tryz.func253.trans (congrArg some (by kernel_rfl))
 f277 := Tryz.func254.trans (congrArg some (by kernel_rfl))
 t0 := Tryz.underlying0
 a0 := Tryz.isAgg0
 z0 := Tryz.sizeOf0
 v0 := Tryz.zeroValue0
 t3 := Tryz.underlying3
 a3 := Tryz.isAgg3
 z3 := Tryz.sizeOf3
 v3 := Tryz.zeroValue3
 t4 := Tryz.underlying4
 a4 := Tryz.isAgg4
 z4 := Tryz.sizeOf4
 v4 := Tryz.zeroValue4
 t9 := Tryz.underlying9
 a9 := Tryz.isAgg9
 z9 := Tryz.sizeOf9
 v9 := Tryz.zeroValue9
 t20 := Tryz.underlying20
 a20 := Tryz.isAgg20
 z20 := Tryz.sizeOf20
 v20 := Tryz.zeroValue20
 t31 := Tryz.underlying214
 a31 := Tryz.isAgg214
 z31 := Tryz.sizeOf214
 v31 := Tryz.zeroValue214
 t37 := Tryz.underlying229
 a37 := Tryz.isAgg229
 z37 := Tryz.sizeOf229
 v37 := Tryz.zeroValue229
 t70 := Tryz.underlying263
 a70 := Tryz.isAgg263
 z70 := Tryz.sizeOf263
 v70 := Tryz.zeroValue263
 t72 := Tryz.underlying265
 a72 := Tryz.isAgg265
 z72 := Tryz.sizeOf265
 v72 := Tryz.zeroValue265
 t75 := Tryz.underlying28
 a75 := Tryz.isAgg28
 z75 := Tryz.sizeOf28
 v75 := Tryz.zeroValue28
 t76 := Tryz.underlying98
 a76 := Tryz.isAgg98
 z76 := Tryz.sizeOf98
 v76 := Tryz.zeroValue98
 t127 := Tryz.underlying285
 a127 := Tryz.isAgg285
 z127 := Tryz.sizeOf285
 v127 := Tryz.zeroValue285
 t164 := Tryz.underlying191
 a164 := Tryz.isAgg191
 z164 := Tryz.sizeOf191
 v164 := Tryz.zeroValue191 }
theorem Tryz.Builder_Extra_156 : Builder.Extra Tryz.prog Tryz.lays156_ren := {
 sizeBuilder := by kernel_rfl
 liesBuilder := by kernel_rfl
 t5 := Tryz.underlying5
 a5 := Tryz.isAgg5
 z5 := Tryz.sizeOf5
 v5 := Tryz.zeroValue5
 infoByte := by kernel_rfl
 cellsByte := by kernel_rfl
 sizeByte := by kernel_rfl
 neB5 := by decide }
open Go.RowKit in
theorem Tryz.strings_Join_none (a : Option Addr) (c : Nat) (sep : ByteArray) (w : World) :
  Calls Tryz.prog 171 #[.slice a 0 c, .string sep] w fun e w' => e = .returned (.string ⟨#[]⟩) ∧ w' = w := Any.strings_Join_none Tryz.lays156 Tryz.Builder_Extra_156 a c sep w
open Go.RowKit in
theorem Tryz.strings_Join (bk o c : Nat) (xs : List ByteArray) (sep : ByteArray) (w : World) (hcells : ∀ (j : Nat) x, xs[j]? = some x → w.cell? ⟨bk, o + j, none⟩ = some (.string x)) (hbk : bk < w.heap.size) (hN : xs.length ≤ 140737488355328) (hcap : xs.length ≤ c) (hlen : (Lib.join (xs.map (·.data.toList)) sep.data.toList).length ≤ 140737488355328) :
  Calls Tryz.prog 171 #[.slice (some ⟨bk, o, none⟩) xs.length c, .string sep] w fun e w' => e = .returned (.string ⟨(Lib.join (xs.map (·.data.toList)) sep.data.toList).toArray⟩) ∧ Below w.heap.size w w' := Any.strings_Join Tryz.lays156 Tryz.Builder_Extra_156 bk o c xs sep w hcells hbk hN hcap hlen
open Go.RowKit in
open Go.RowKit in
def Tryz.aiJ : Go.Shelf.Ren := ⟨fun | 161 => 128 | 231 => 132 | 227 => 134 | 233 => 135 | 235 => 137 | 228 => 178 | 197 => 179 | 151 => 180 | 260 => 221 | 152 => 222 | 137 => 242 | 119 => 243 | 224 => 175 | 225 => 174 | 217 => 173 | 266 => 219 | n => n, fun | 9 => 9 | 4 => 4 | 3 => 3 | 5 => 5 | 117 => 174 | 116 => 173 | 0 => 0 | 124 => 177 | 105 => 224 | 21 => 21 | 119 => 286 | 46 => 221 | 139 => 289 | 138 => 288 | n => n, fun | 3 => 6 | 4 => 7 | n => n⟩
theorem Tryz.lays161 : Go.Proofs.Lays.n161 Tryz.prog Tryz.aiJ := {
 mixed := by kernel_rfl
 f119 := Tryz.func243.trans (congrArg some (by kernel_rfl))
 f137 := Tryz.func242.trans (congrArg some (by kernel_rfl))
 f151 := Tryz.func180.trans (congrArg some (by kernel_rfl))
 f152 := Tryz.func222.trans (congrArg some (by kernel_rfl))
 f161 := Tryz.func128.trans (congrArg some (by kernel_rfl))
 f197 := Tryz.func179.trans (congrArg some (by kernel_rfl))
 f217 := Tryz.func173.trans (congrArg some (by kernel_rfl))
 f224 := Tryz.func175.trans (congrArg some (by kernel_rfl))
 f225 := Tryz.func174.trans (congrArg some (by kernel_rfl))
 f227 := Tryz.func134.trans (congrArg some (by kernel_rfl))
 f228 := Tryz.func178.trans (congrArg some (by kernel_rfl))
 f231 := Tryz.func132.trans (congrArg some (by kernel_rfl))
 f233 := Tryz.func135.trans (congrArg some (by kernel_rfl))
 f235 := Tryz.func137.trans (congrArg some (by kernel_rfl))
 f260 := Tryz.func221.trans (congrArg some (by kernel_rfl))
 f266 := Tryz.func219.trans (congrArg some (by kernel_rfl))
 t0 := Tryz.underlying0
 a0 := Tryz.isAgg0
 z0 := Tryz.sizeOf0
 v0 := Tryz.zeroValue0
 t3 := Tryz.underlying3
 a3 := Tryz.isAgg3
 z3 := Tryz.sizeOf3
 v3 := Tryz.zeroValue3
 t4 := Tryz.underlying4
 a4 := Tryz.isAgg4
 z4 := Tryz.sizeOf4
 v4 := Tryz.zeroValue4
 t5 := Tryz.underlying5
 a5 := Tryz.isAgg5
 z5 := Tryz.sizeOf5
 v5 := Tryz.zeroValue5
 t9 := Tryz.underlying9
 a9 := Tryz.isAgg9
 z9 := Tryz.sizeOf9
 v9 := Tryz.zeroValue9
 t21 := Tryz.underlying21
 a21 := Tryz.isAgg21
 z21 := Tryz.sizeOf21
 v21 := Tryz.zeroValue21
 t46 := Tryz.underlying221
 a46 := Tryz.isAgg221
 z46 := Tryz.sizeOf221
 v46 := Tryz.zeroValue221
 t105 := Tryz.underlying224
 a105 := Tryz.isAgg224
 z105 := Tryz.sizeOf224
 v105 := Tryz.zeroValue224
 t116 := Tryz.underlying173
 a116 := Tryz.isAgg173
 z116 := Tryz.sizeOf173
 t117 := Tryz.underlying174
 a117 := Tryz.isAgg174
 z117 := Tryz.sizeOf174
 v117 := Tryz.zeroValue174
 t119 := Tryz.underlying286
 a119 := Tryz.isAgg286
 z119 := Tryz.sizeOf286
 t124 := Tryz.underlying177
 a124 := Tryz.isAgg177
 z124 := Tryz.sizeOf177
 v124 := Tryz.zeroValue177
 t138 := Tryz.underlying288
 a138 := Tryz.isAgg288
 z138 := Tryz.sizeOf288
 v138 := Tryz.zeroValue288
 t139 := Tryz.underlying289
 a139 := Tryz.isAgg289
 z139 := Tryz.sizeOf289
 v139 := Tryz.zeroValue289
 g3 := by kernel_rfl
 g4 := by kernel_rfl }
open Go.RowKit in
theorem Tryz.strings_TrimLeft_one (s : ByteArray) (c : UInt8) (hc : c.toNat < 128) (w : World) :
  Calls Tryz.prog 128 #[.string s, .string ⟨#[c]⟩] w fun e w' => e = .returned (.string ⟨(Lib.trimLeftB s.data.toList c).toArray⟩) ∧ w' = w := Any.strings_TrimLeft_one Tryz.lays161 s c hc w
def Tryz.aiI : Go.Shelf.Ren := ⟨fun | 160 => 92 | 232 => 133 | 231 => 132 | 227 => 134 | 234 => 136 | 233 => 135 | 236 => 138 | 235 => 137 | 228 => 178 | 271 => 181 | 151 => 180 | 197 => 179 | 120 => 223 | 152 => 222 | 260 => 221 | 137 => 242 | 119 => 243 | 224 => 175 | 225 => 174 | 217 => 173 | 266 => 219 | n => n, fun | 9 => 9 | 4 => 4 | 3 => 3 | 5 => 5 | 117 => 174 | 116 => 173 | 0 => 0 | 124 => 177 | 21 => 21 | 105 => 224 | 46 => 221 | 119 => 286 | 139 => 289 | 138 => 288 | n => n, fun | 3 => 6 | 4 => 7 | n => n⟩
theorem Tryz.lays160 : Go.Proofs.Lays.n160 Tryz.prog Tryz.aiI := {
 mixed := by kernel_rfl
 f119 := Tryz.func243.trans (congrArg some (by kernel_rfl))
 f120 := Tryz.func223.trans (congrArg some (by kernel_rfl))
 f137 := Tryz.func242.trans (congrArg some (by kernel_rfl))
 f151 := Tryz.func180.trans (congrArg some (by kernel_rfl))
 f152 := Tryz.func222.trans (congrArg some (by kernel_rfl))
 f160 := Tryz.func92.trans (congrArg some (by kernel_rfl))
 f197 := Tryz.func179.trans (congrArg some (by kernel_rfl))
 f217 := Tryz.func173.trans (congrArg some (by kernel_rfl))
 f224 := Tryz.func175.trans (congrArg some (by kernel_rfl))
 f225 := Tryz.func174.trans (congrArg some (by kernel_rfl))
 f227 := Tryz.func134.trans (congrArg some (by kernel_rfl))
 f228 := Tryz.func178.trans (congrArg some (by kernel_rfl))
 f231 := Tryz.func132.trans (congrArg some (by kernel_rfl))
 f232 := Tryz.func133.trans (congrArg some (by kernel_rfl))
 f233 := Tryz.func135.trans (congrArg some (by kernel_rfl))
 f234 := Tryz.func136.trans (congrArg some (by kernel_rfl))
 f235 := Tryz.func137.trans (congrArg some (by kernel_rfl))
 f236 := Tryz.func138.trans (congrArg some (by kernel_rfl))
 f260 := Tryz.func221.trans (congrArg some (by kernel_rfl))
 f266 := Tryz.func219.trans (congrArg some (by kernel_rfl))
 f271 := Tryz.func181.trans (congrArg some (by kernel_rfl))
 t0 := Tryz.underlying0
 a0 := Tryz.isAgg0
 z0 := Tryz.sizeOf0
 v0 := Tryz.zeroValue0
 t3 := Tryz.underlying3
 a3 := Tryz.isAgg3
 z3 := Tryz.sizeOf3
 v3 := Tryz.zeroValue3
 t4 := Tryz.underlying4
 a4 := Tryz.isAgg4
 z4 := Tryz.sizeOf4
 v4 := Tryz.zeroValue4
 t5 := Tryz.underlying5
 a5 := Tryz.isAgg5
 z5 := Tryz.sizeOf5
 v5 := Tryz.zeroValue5
 t9 := Tryz.underlying9
 a9 := Tryz.isAgg9
 z9 := Tryz.sizeOf9
 v9 := Tryz.zeroValue9
 t21 := Tryz.underlying21
 a21 := Tryz.isAgg21
 z21 := Tryz.sizeOf21
 v21 := Tryz.zeroValue21
 t46 := Tryz.underlying221
 a46 := Tryz.isAgg221
 z46 := Tryz.sizeOf221
 v46 := Tryz.zeroValue221
 t105 := Tryz.underlying224
 a105 := Tryz.isAgg224
 z105 := Tryz.sizeOf224
 v105 := Tryz.zeroValue224
 t116 := Tryz.underlying173
 a116 := Tryz.isAgg173
 z116 := Tryz.sizeOf173
 t117 := Tryz.underlying174
 a117 := Tryz.isAgg174
 z117 := Tryz.sizeOf174
 v117 := Tryz.zeroValue174
 t119 := Tryz.underlying286
 a119 := Tryz.isAgg286
 z119 := Tryz.sizeOf286
 t124 := Tryz.underlying177
 a124 := Tryz.isAgg177
 z124 := Tryz.sizeOf177
 v124 := Tryz.zeroValue177
 t138 := Tryz.underlying288
 a138 := Tryz.isAgg288
 z138 := Tryz.sizeOf288
 v138 := Tryz.zeroValue288
 t139 := Tryz.underlying289
 a139 := Tryz.isAgg289
 z139 := Tryz.sizeOf289
 v139 := Tryz.zeroValue289
 g3 := by kernel_rfl
 g4 := by kernel_rfl }
open Go.RowKit in
def Tryz.lays134_ren : Go.Shelf.Ren := ⟨fun | 134 => 193 | 129 => 227 | n => n, fun | 53 => 128 | 3 => 3 | 4 => 4 | 46 => 221 | 5 => 5 | 9 => 9 | n => n, fun | n => n⟩
theorem Tryz.lays134 : Go.Proofs.Lays.n134 Tryz.prog Tryz.lays134_ren := {
 mixed := by kernel_rfl
 f129 := Tryz.func227.trans (congrArg some (by kernel_rfl))
 f134 := Tryz.func193.trans (congrArg some (by kernel_rfl))
 t3 := Tryz.underlying3
 a3 := Tryz.isAgg3
 z3 := Tryz.sizeOf3
 v3 := Tryz.zeroValue3
 t4 := Tryz.underlying4
 a4 := Tryz.isAgg4
 z4 := Tryz.sizeOf4
 v4 := Tryz.zeroValue4
 t5 := Tryz.underlying5
 a5 := Tryz.isAgg5
 z5 := Tryz.sizeOf5
 v5 := Tryz.zeroValue5
 t9 := Tryz.underlying9
 a9 := Tryz.isAgg9
 z9 := Tryz.sizeOf9
 v9 := Tryz.zeroValue9
 t46 := Tryz.underlying221
 a46 := Tryz.isAgg221
 z46 := Tryz.sizeOf221
 v46 := Tryz.zeroValue221
 t53 := Tryz.underlying128
 a53 := Tryz.isAgg128
 z53 := Tryz.sizeOf128
 v53 := Tryz.zeroValue128 }
theorem Tryz.bits_LeadingZeros64 (x : Int) (w : World) (h0 : 0 ≤ x) (h1 : x ≤ 18446744073709551615) :
  Calls Tryz.prog 193 #[.int .u64 x] w fun e w' => e = .returned (.int .i64 (64 - (Lib.bitLen x.toNat : Int))) ∧ w' = w := Any.bits_LeadingZeros64 Tryz.lays134 x w h0 h1
open Go.RowKit in
open Go.RowKit in
def Tryz.lays103_ren : Go.Shelf.Ren := ⟨fun | 103 => 91 | 210 => 131 | 206 => 177 | n => n, fun | 9 => 9 | 4 => 4 | 24 => 124 | 3 => 3 | n => n, fun | n => n⟩
theorem Tryz.lays103 : Go.Proofs.Lays.n103 Tryz.prog Tryz.lays103_ren := {
 mixed := by kernel_rfl
 f103 := Tryz.func91.trans (congrArg some (by kernel_rfl))
 f206 := Tryz.func177.trans (congrArg some (by kernel_rfl))
 f210 := Tryz.func131.trans (congrArg some (by kernel_rfl))
 t3 := Tryz.underlying3
 a3 := Tryz.isAgg3
 z3 := Tryz.sizeOf3
 v3 := Tryz.zeroValue3
 t4 := Tryz.underlying4
 a4 := Tryz.isAgg4
 z4 := Tryz.sizeOf4
 v4 := Tryz.zeroValue4
 t9 := Tryz.underlying9
 a9 := Tryz.isAgg9
 z9 := Tryz.sizeOf9
 v9 := Tryz.zeroValue9
 t24 := Tryz.underlying124
 a24 := Tryz.isAgg124
 z24 := Tryz.sizeOf124
 v24 := Tryz.zeroValue124 }
open Go.RowKit in
theorem Tryz.strings_CutPrefix (s p : ByteArray) (w : World) :
  Calls Tryz.prog 91 #[.string s, .string p] w fun e w' => e = .returned (.tuple #[.string ⟨(Lib.trimPrefix s.data.toList p.data.toList).toArray⟩, .bool (Lib.hasPrefix s.data.toList p.data.toList)]) ∧ w' = w := Any.strings_CutPrefix Tryz.lays103 s p w
open Go.RowKit in
open Go.RowKit in
open Go.RowKit in
open Go.RowKit in
open Go.RowKit in
open Go.RowKit in
open Go.RowKit in
open Go.RowKit in
open Go.RowKit in
open Go.Lib in
open Go.Lib in
def Tryz.lays283_ren : Go.Shelf.Ren := ⟨fun | 283 => 235 | n => n, fun | 3 => 3 | 9 => 9 | 4 => 4 | n => n, fun | n => n⟩
theorem Tryz.lays283 : Go.Proofs.Lays.n283 Tryz.prog Tryz.lays283_ren := {
 mixed := by kernel_rfl
 f283 := Tryz.func235.trans (congrArg some (by kernel_rfl))
 t3 := Tryz.underlying3
 a3 := Tryz.isAgg3
 z3 := Tryz.sizeOf3
 v3 := Tryz.zeroValue3
 t4 := Tryz.underlying4
 a4 := Tryz.isAgg4
 z4 := Tryz.sizeOf4
 v4 := Tryz.zeroValue4
 t9 := Tryz.underlying9
 a9 := Tryz.isAgg9
 z9 := Tryz.sizeOf9
 v9 := Tryz.zeroValue9 }
open Go.Lib in
theorem Tryz.internal_strconv_small (i : Nat) (h : i < 100) (w : World) :
  Calls Tryz.prog 235 #[.int .i64 i] w fun e w' => e = .returned (.string ⟨(Lib.decDigits i).toArray⟩) ∧ w' = w := Any.internal_strconv_small Tryz.lays283 i h w
def Tryz.laysM284_ren : Go.Shelf.Ren := ⟨fun | 284 => 236 | 129 => 227 | 317 => 249 | 318 => 250 | n => n, fun | 53 => 128 | 3 => 3 | 212 => 302 | 0 => 0 | 4 => 4 | 46 => 221 | 5 => 5 | 9 => 9 | n => n, fun | 17 => 9 | n => n⟩
theorem Tryz.laysM284 : Go.Proofs.LaysM.n284 Tryz.prog Tryz.laysM284_ren := {
 mixed := by kernel_rfl
 f129 := Tryz.func227.trans (congrArg some (by kernel_rfl))
 f284 := Tryz.func236.trans (congrArg some (by kernel_rfl))
 f317 := Tryz.func249.trans (congrArg some (by kernel_rfl))
 f318 := Tryz.func250.trans (congrArg some (by kernel_rfl))
 t0 := Tryz.underlying0
 a0 := Tryz.isAgg0
 z0 := Tryz.sizeOf0
 v0 := Tryz.zeroValue0
 t3 := Tryz.underlying3
 a3 := Tryz.isAgg3
 z3 := Tryz.sizeOf3
 v3 := Tryz.zeroValue3
 t4 := Tryz.underlying4
 a4 := Tryz.isAgg4
 z4 := Tryz.sizeOf4
 v4 := Tryz.zeroValue4
 t5 := Tryz.underlying5
 a5 := Tryz.isAgg5
 z5 := Tryz.sizeOf5
 v5 := Tryz.zeroValue5
 t9 := Tryz.underlying9
 a9 := Tryz.isAgg9
 z9 := Tryz.sizeOf9
 v9 := Tryz.zeroValue9
 t46 := Tryz.underlying221
 a46 := Tryz.isAgg221
 z46 := Tryz.sizeOf221
 v46 := Tryz.zeroValue221
 t53 := Tryz.underlying128
 a53 := Tryz.isAgg128
 z53 := Tryz.sizeOf128
 v53 := Tryz.zeroValue128
 t212 := Tryz.underlying302
 a212 := Tryz.isAgg302
 z212 := Tryz.sizeOf302
 v212 := Tryz.zeroValue302
 g17 := by kernel_rfl
 i0 := by kernel_rfl
 i3 := by kernel_rfl
 i4 := by kernel_rfl
 i5 := by kernel_rfl
 i9 := by kernel_rfl
 i46 := by kernel_rfl
 i53 := by kernel_rfl
 i212 := by kernel_rfl
 m17 := by kernel_rfl }
open Go.Lib in
theorem Tryz.internal_strconv_numDigits (u : Nat) (h1 : 1 ≤ u) (h2 : u < 18446744073709551616) (w : World) (htab : Lib.TabIs Tryz.prog w "internal/strconv.uint64pow10" .u64 Lib.pow10Tab) :
  Calls Tryz.prog 236 #[.int .u64 u] w fun e w' => e = .returned (.int .i64 (Lib.nDigits u)) ∧ w' = w := Any.internal_strconv_numDigits Tryz.laysM284 u h1 h2 w htab
def Tryz.lays285_ren : Go.Shelf.Ren := ⟨fun | 285 => 237 | n => n, fun | 37 => 229 | 53 => 128 | 3 => 3 | 4 => 4 | 51 => 268 | 9 => 9 | 5 => 5 | 0 => 0 | n => n, fun | n => n⟩
theorem Tryz.lays285 : Go.Proofs.Lays.n285 Tryz.prog Tryz.lays285_ren := {
 mixed := by kernel_rfl
 f285 := Tryz.func237.trans (congrArg some (by kernel_rfl))
 t0 := Tryz.underlying0
 a0 := Tryz.isAgg0
 z0 := Tryz.sizeOf0
 v0 := Tryz.zeroValue0
 t3 := Tryz.underlying3
 a3 := Tryz.isAgg3
 z3 := Tryz.sizeOf3
 v3 := Tryz.zeroValue3
 t4 := Tryz.underlying4
 a4 := Tryz.isAgg4
 z4 := Tryz.sizeOf4
 v4 := Tryz.zeroValue4
 t5 := Tryz.underlying5
 a5 := Tryz.isAgg5
 z5 := Tryz.sizeOf5
 v5 := Tryz.zeroValue5
 t9 := Tryz.underlying9
 a9 := Tryz.isAgg9
 z9 := Tryz.sizeOf9
 v9 := Tryz.zeroValue9
 t37 := Tryz.underlying229
 a37 := Tryz.isAgg229
 z37 := Tryz.sizeOf229
 v37 := Tryz.zeroValue229
 t51 := Tryz.underlying268
 a51 := Tryz.isAgg268
 z51 := Tryz.sizeOf268
 v51 := Tryz.zeroValue268
 t53 := Tryz.underlying128
 a53 := Tryz.isAgg128
 z53 := Tryz.sizeOf128
 v53 := Tryz.zeroValue128 }
open Go.RowKit Go.Sort Go.Lib in
theorem Tryz.internal_strconv_formatBase10 (blk off cap : Nat) (u : Nat) (d : Array UInt8) (w : World) (hH : Holds (fun (b : UInt8) => Value.int .u8 (b.toNat : Int)) w blk off d) (hu : u < 10 ^ d.size) (hu64 : u < 18446744073709551616) (hsz : d.size < 4611686018427387904) :
  Calls Tryz.prog 237 #[.slice (some ⟨blk, off, none⟩) d.size cap, .int .u64 u] w fun e w' =>
   e = .returned (.tuple #[]) ∧ ∃ (n v' : Nat) (dk : Array UInt8), w' = (putRow (fun (b : UInt8) => Value.int .u8 (b.toNat : Int)) w blk off dk).drewN n ∧ FmtInv d.size u 0 v' dk := Any.internal_strconv_formatBase10 Tryz.lays285 blk off cap u d w hH hu hu64 hsz
open Go.RowKit Go.Sort Go.Lib in
open Go.RowKit Go.Sort Go.Lib in
open Go.RowKit Go.Sort Go.Lib in
open Go.RowKit Go.Sort Go.Lib in
def Tryz.laysM171_ren : Go.Shelf.Ren := ⟨fun | 171 => 211 | 243 => 234 | 246 => 248 | 283 => 235 | 284 => 236 | 285 => 237 | 286 => 238 | 129 => 227 | 317 => 249 | 318 => 250 | 319 => 251 | 320 => 252 | 337 => 257 | 338 => 226 | n => n, fun | 3 => 3 | 9 => 9 | 2 => 2 | 4 => 4 | 171 => 280 | 0 => 0 | 53 => 128 | 37 => 229 | 5 => 5 | 173 => 282 | 212 => 302 | 51 => 268 | 20 => 20 | 213 => 303 | 46 => 221 | 232 => 315 | 233 => 294 | n => n, fun | 17 => 9 | 18 => 10 | 19 => 8 | n => n⟩
theorem Tryz.laysM171 : Go.Proofs.LaysM.n171 Tryz.prog Tryz.laysM171_ren := {
 mixed := by kernel_rfl
 f129 := Tryz.func227.trans (congrArg some (by kernel_rfl))
 f171 := Tryz.func211.trans (congrArg some (by kernel_rfl))
 f243 := Tryz.func234.trans (congrArg some (by kernel_rfl))
 f246 := Tryz.func248.trans (congrArg some (by kernel_rfl))
 f283 := Tryz.func235.trans (congrArg some (by kernel_rfl))
 f284 := Tryz.func236.trans (congrArg some (by kernel_rfl))
 f285 := Tryz.func237.trans (congrArg some (by kernel_rfl))
 f286 := Tryz.func238.trans (congrArg some (by kernel_rfl))
 f317 := Tryz.func249.trans (congrArg some (by kernel_rfl))
 f318 := Tryz.func250.trans (congrArg some (by kernel_rfl))
 f319 := Tryz.func251.trans (congrArg some (by kernel_rfl))
 f320 := Tryz.func252.trans (congrArg some (by kernel_rfl))
 f337 := Tryz.func257.trans (congrArg some (by kernel_rfl))
 f338 := Tryz.func226.trans (congrArg some (by kernel_rfl))
 t0 := Tryz.underlying0
 a0 := Tryz.isAgg0
 z0 := Tryz.sizeOf0
 v0 := Tryz.zeroValue0
 t2 := Tryz.underlying2
 a2 := Tryz.isAgg2
 z2 := Tryz.sizeOf2
 v2 := Tryz.zeroValue2
 t3 := Tryz.underlying3
 a3 := Tryz.isAgg3
 z3 := Tryz.sizeOf3
 v3 := Tryz.zeroValue3
 t4 := Tryz.underlying4
 a4 := Tryz.isAgg4
 z4 := Tryz.sizeOf4
 v4 := Tryz.zeroValue4
 t5 := Tryz.underlying5
 a5 := Tryz.isAgg5
 z5 := Tryz.sizeOf5
 v5 := Tryz.zeroValue5
 t9 := Tryz.underlying9
 a9 := Tryz.isAgg9
 z9 := Tryz.sizeOf9
 v9 := Tryz.zeroValue9
 t20 := Tryz.underlying20
 a20 := Tryz.isAgg20
 z20 := Tryz.sizeOf20
 v20 := Tryz.zeroValue20
 t37 := Tryz.underlying229
 a37 := Tryz.isAgg229
 z37 := Tryz.sizeOf229
 v37 := Tryz.zeroValue229
 t46 := Tryz.underlying221
 a46 := Tryz.isAgg221
 z46 := Tryz.sizeOf221
 v46 := Tryz.zeroValue221
 t51 := Tryz.underlying268
 a51 := Tryz.isAgg268
 z51 := Tryz.sizeOf268
 v51 := Tryz.zeroValue268
 t53 := Tryz.underlying128
 a53 := Tryz.isAgg128
 z53 := Tryz.sizeOf128
 v53 := Tryz.zeroValue128
 t171 := Tryz.underlying280
 a171 := Tryz.isAgg280
 z171 := Tryz.sizeOf280
 v171 := Tryz.zeroValue280
 t173 := Tryz.underlying282
 a173 := Tryz.isAgg282
 z173 := Tryz.sizeOf282
 v173 := Tryz.zeroValue282
 t212 := Tryz.underlying302
 a212 := Tryz.isAgg302
 z212 := Tryz.sizeOf302
 v212 := Tryz.zeroValue302
 t213 := Tryz.underlying303
 a213 := Tryz.isAgg303
 z213 := Tryz.sizeOf303
 t232 := Tryz.underlying315
 a232 := Tryz.isAgg315
 z232 := Tryz.sizeOf315
 v232 := Tryz.zeroValue315
 t233 := Tryz.underlying294
 a233 := Tryz.isAgg294
 z233 := Tryz.sizeOf294
 v233 := Tryz.zeroValue294
 g17 := by kernel_rfl
 g18 := by kernel_rfl
 g19 := by kernel_rfl
 i0 := by kernel_rfl
 i2 := by kernel_rfl
 i3 := by kernel_rfl
 i4 := by kernel_rfl
 i5 := by kernel_rfl
 i9 := by kernel_rfl
 i20 := by kernel_rfl
 i37 := by kernel_rfl
 i46 := by kernel_rfl
 i51 := by kernel_rfl
 i53 := by kernel_rfl
 i171 := by kernel_rfl
 i173 := by kernel_rfl
 i212 := by kernel_rfl
 i232 := by kernel_rfl
 i233 := by kernel_rfl
 m17 := by kernel_rfl
 m18 := by kernel_rfl
 m19 := by kernel_rfl }
open Go.RowKit Go.Sort Go.Lib in
theorem Tryz.strconv_Itoa (n : Int) (h0 : -9223372036854775808 ≤ n) (h1 : n ≤ 9223372036854775807) (w : World) (htab : Lib.TabIs Tryz.prog w "internal/strconv.uint64pow10" .u64 Lib.pow10Tab) :
  Calls Tryz.prog 211 #[.int .i64 n] w fun e w' => e = .returned (.string ⟨(Lib.itoa n).toArray⟩) ∧ ∃ k os, w' = grow (w.drewN k) os := Any.strconv_Itoa Tryz.laysM171 n h0 h1 w htab
open Go.RowKit Go.Sort Go.Lib in
open Go.RowKit in
open Go.RowKit in
def Tryz.laysPu14_ren : Go.Shelf.Ren := ⟨fun | 14 => 94 | 16 => 140 | 17 => 141 | 19 => 182 | 20 => 183 | 21 => 184 | 22 => 185 | 23 => 186 | 24 => 187 | 25 => 224 | 27 => 211 | 26 => 225 | 28 => 234 | 29 => 248 | 30 => 235 | 31 => 236 | 32 => 237 | 33 => 238 | 35 => 227 | 34 => 249 | 36 => 250 | 37 => 251 | 38 => 252 | 39 => 257 | 40 => 226 | n => n, fun | 9 => 9 | 3 => 3 | 22 => 128 | 24 => 28 | 25 => 129 | 4 => 4 | 34 => 227 | 5 => 5 | 36 => 221 | 37 => 229 | 0 => 0 | 39 => 231 | 21 => 21 | 44 => 274 | 47 => 285 | 50 => 293 | 48 => 291 | 2 => 2 | 52 => 280 | 55 => 282 | 59 => 302 | 60 => 268 | 20 => 20 | 61 => 303 | 65 => 315 | 66 => 294 | 67 => 66 | n => n, fun | 0 => 2 | 1 => 3 | 2 => 9 | 3 => 10 | 4 => 8 | n => n⟩
theorem Tryz.laysPu14 : Go.Proofs.LaysPu.n14 Tryz.prog Tryz.laysPu14_ren := {
 mixed := by kernel_rfl
 f14 := Tryz.func94.trans (congrArg some (by kernel_rfl))
 f16 := Tryz.func140.trans (congrArg some (by kernel_rfl))
 f17 := Tryz.func141.trans (congrArg some (by kernel_rfl))
 f19 := Tryz.func182.trans (congrArg some (by kernel_rfl))
 f20 := Tryz.func183.trans (congrArg some (by kernel_rfl))
 f21 := Tryz.func184.trans (congrArg some (by kernel_rfl))
 f22 := Tryz.func185.trans (congrArg some (by kernel_rfl))
 f23 := Tryz.func186.trans (congrArg some (by kernel_rfl))
 f24 := Tryz.func187.trans (congrArg some (by kernel_rfl))
 f25 := Tryz.func224.trans (congrArg some (by kernel_rfl))
 f26 := Tryz.func225.trans (congrArg some (by kernel_rfl))
 f27 := Tryz.func211.trans (congrArg some (by kernel_rfl))
 f28 := Tryz.func234.trans (congrArg some (by kernel_rfl))
 f29 := Tryz.func248.trans (congrArg some (by kernel_rfl))
 f30 := Tryz.func235.trans (congrArg some (by kernel_rfl))
 f31 := Tryz.func236.trans (congrArg some (by kernel_rfl))
 f32 := Tryz.func237.trans (congrArg some (by kernel_rfl))
 f33 := Tryz.func238.trans (congrArg some (by kernel_rfl))
 f34 := Tryz.func249.trans (congrArg some (by kernel_rfl))
 f35 := Tryz.func227.trans (congrArg some (by kernel_rfl))
 f36 := Tryz.func250.trans (congrArg some (by kernel_rfl))
 f37 := Tryz.func251.trans (congrArg some (by kernel_rfl))
 f38 := Tryz.func252.trans (congrArg some (by kernel_rfl))
 f39 := Tryz.func257.trans (congrArg some (by kernel_rfl))
 f40 := Tryz.func226.trans (congrArg some (by kernel_rfl))
 t0 := Tryz.underlying0
 a0 := Tryz.isAgg0
 z0 := Tryz.sizeOf0
 v0 := Tryz.zeroValue0
 i0 := by kernel_rfl
 t2 := Tryz.underlying2
 a2 := Tryz.isAgg2
 z2 := Tryz.sizeOf2
 v2 := Tryz.zeroValue2
 i2 := by kernel_rfl
 t3 := Tryz.underlying3
 a3 := Tryz.isAgg3
 z3 := Tryz.sizeOf3
 v3 := Tryz.zeroValue3
 i3 := by kernel_rfl
 t4 := Tryz.underlying4
 a4 := Tryz.isAgg4
 z4 := Tryz.sizeOf4
 v4 := Tryz.zeroValue4
 i4 := by kernel_rfl
 t5 := Tryz.underlying5
 a5 := Tryz.isAgg5
 z5 := Tryz.sizeOf5
 v5 := Tryz.zeroValue5
 i5 := by kernel_rfl
 t9 := Tryz.underlying9
 a9 := Tryz.isAgg9
 z9 := Tryz.sizeOf9
 v9 := Tryz.zeroValue9
 i9 := by kernel_rfl
 t20 := Tryz.underlying20
 a20 := Tryz.isAgg20
 z20 := Tryz.sizeOf20
 v20 := Tryz.zeroValue20
 i20 := by kernel_rfl
 t21 := Tryz.underlying21
 a21 := Tryz.isAgg21
 z21 := Tryz.sizeOf21
 v21 := Tryz.zeroValue21
 i21 := by kernel_rfl
 t22 := Tryz.underlying128
 a22 := Tryz.isAgg128
 z22 := Tryz.sizeOf128
 v22 := Tryz.zeroValue128
 i22 := by kernel_rfl
 t24 := Tryz.underlying28
 a24 := Tryz.isAgg28
 z24 := Tryz.sizeOf28
 v24 := Tryz.zeroValue28
 i24 := by kernel_rfl
 t25 := Tryz.underlying129
 a25 := Tryz.isAgg129
 z25 := Tryz.sizeOf129
 v25 := Tryz.zeroValue129
 i25 := by kernel_rfl
 t34 := Tryz.underlying227
 a34 := Tryz.isAgg227
 z34 := Tryz.sizeOf227
 v34 := Tryz.zeroValue227
 i34 := by kernel_rfl
 c34 := by kernel_rfl
 t36 := Tryz.underlying221
 a36 := Tryz.isAgg221
 z36 := Tryz.sizeOf221
 v36 := Tryz.zeroValue221
 i36 := by kernel_rfl
 t37 := Tryz.underlying229
 a37 := Tryz.isAgg229
 z37 := Tryz.sizeOf229
 v37 := Tryz.zeroValue229
 i37 := by kernel_rfl
 t39 := Tryz.underlying231
 a39 := Tryz.isAgg231
 z39 := Tryz.sizeOf231
 v39 := Tryz.zeroValue231
 i39 := by kernel_rfl
 t44 := Tryz.underlying274
 a44 := Tryz.isAgg274
 z44 := Tryz.sizeOf274
 v44 := Tryz.zeroValue274
 i44 := by kernel_rfl
 t47 := Tryz.underlying285
 a47 := Tryz.isAgg285
 z47 := Tryz.sizeOf285
 v47 := Tryz.zeroValue285
 i47 := by kernel_rfl
 t48 := Tryz.underlying291
 a48 := Tryz.isAgg291
 z48 := Tryz.sizeOf291
 v48 := Tryz.zeroValue291
 i48 := by kernel_rfl
 t50 := Tryz.underlying293
 a50 := Tryz.isAgg293
 z50 := Tryz.sizeOf293
 v50 := Tryz.zeroValue293
 i50 := by kernel_rfl
 t52 := Tryz.underlying280
 a52 := Tryz.isAgg280
 z52 := Tryz.sizeOf280
 v52 := Tryz.zeroValue280
 i52 := by kernel_rfl
 t55 := Tryz.underlying282
 a55 := Tryz.isAgg282
 z55 := Tryz.sizeOf282
 v55 := Tryz.zeroValue282
 i55 := by kernel_rfl
 t59 := Tryz.underlying302
 a59 := Tryz.isAgg302
 z59 := Tryz.sizeOf302
 v59 := Tryz.zeroValue302
 i59 := by kernel_rfl
 t60 := Tryz.underlying268
 a60 := Tryz.isAgg268
 z60 := Tryz.sizeOf268
 v60 := Tryz.zeroValue268
 i60 := by kernel_rfl
 t61 := Tryz.underlying303
 a61 := Tryz.isAgg303
 z61 := Tryz.sizeOf303
 t65 := Tryz.underlying315
 a65 := Tryz.isAgg315
 z65 := Tryz.sizeOf315
 v65 := Tryz.zeroValue315
 i65 := by kernel_rfl
 t66 := Tryz.underlying294
 a66 := Tryz.isAgg294
 z66 := Tryz.sizeOf294
 v66 := Tryz.zeroValue294
 i66 := by kernel_rfl
 t67 := Tryz.underlying66
 a67 := Tryz.isAgg66
 z67 := Tryz.sizeOf66
 v67 := Tryz.zeroValue66
 i67 := by kernel_rfl
 g0 := by kernel_rfl
 m0 := by kernel_rfl
 g1 := by kernel_rfl
 m1 := by kernel_rfl
 g2 := by kernel_rfl
 m2 := by kernel_rfl
 g3 := by kernel_rfl
 m3 := by kernel_rfl
 g4 := by kernel_rfl
 m4 := by kernel_rfl }
open Go.RowKit in
open Go.RowKit in
open Go.RowKit in
open Go.RowKit in
theorem Tryz.strconv_ParseUint_10_at64_ok (s : ByteArray) (hmax : s.size ≤ 9223372036854775806) (u : Nat) (h : Lib.parseUintB 64 s.data.toList = .ok u) (w : World) :
  Calls Tryz.prog 94 #[.string s, .int .i64 10, .int .i64 64] w fun e w' => e = .returned (.tuple #[.int .u64 u, .nilIface]) ∧ (w' = w ∨ w' = Lib.bytesWorld w 5 s) := Any.strconv_ParseUint_10_at64_ok Tryz.laysPu14 s hmax u h w
open Go.RowKit in
open Go.RowKit in
open Go.RowKit in
open Go.RowKit in
open Go.RowKit in
open Go.RowKit in
open Go.RowKit in
open Go.RowKit in
open Go.RowKit in
open Go.RowKit in
open Go.RowKit in
open Go.RowKit Go.Lib in
open Go.RowKit Go.Lib in
open Go.RowKit Go.Lib in
open Go.RowKit Go.Lib in
open Go.RowKit Go.Lib in
open Go.RowKit Go.Lib in
open Go.RowKit Go.Lib in
def Tryz.aiH : Go.Shelf.Ren := ⟨fun | 145 => 43 | 220 => 90 | 219 => 130 | 217 => 173 | 225 => 174 | 224 => 175 | 267 => 176 | 266 => 219 | 314 => 220 | n => n, fun | 9 => 9 | 4 => 4 | 59 => 72 | 3 => 3 | 5 => 5 | 46 => 221 | 146 => 269 | 51 => 268 | n => n, fun | 1 => 1 | n => n⟩
theorem Tryz.lays145 : Go.Proofs.Lays.n145 Tryz.prog Tryz.aiH := {
 mixed := by kernel_rfl
 f145 := Tryz.func43.trans (congrArg some (by kernel_rfl))
 f217 := Tryz.func173.trans (congrArg some (by kernel_rfl))
 f219 := Tryz.func130.trans (congrArg some (by kernel_rfl))
 f220 := Tryz.func90.trans (congrArg some (by kernel_rfl))
 f224 := Tryz.func175.trans (congrArg some (by kernel_rfl))
 f225 := Tryz.func174.trans (congrArg some (by kernel_rfl))
 f266 := Tryz.func219.trans (congrArg some (by kernel_rfl))
 f267 := Tryz.func176.trans (congrArg some (by kernel_rfl))
 f314 := Tryz.func220.trans (congrArg some (by kernel_rfl))
 t3 := Tryz.underlying3
 a3 := Tryz.isAgg3
 z3 := Tryz.sizeOf3
 v3 := Tryz.zeroValue3
 t4 := Tryz.underlying4
 a4 := Tryz.isAgg4
 z4 := Tryz.sizeOf4
 v4 := Tryz.zeroValue4
 t5 := Tryz.underlying5
 a5 := Tryz.isAgg5
 z5 := Tryz.sizeOf5
 v5 := Tryz.zeroValue5
 t9 := Tryz.underlying9
 a9 := Tryz.isAgg9
 z9 := Tryz.sizeOf9
 v9 := Tryz.zeroValue9
 t46 := Tryz.underlying221
 a46 := Tryz.isAgg221
 z46 := Tryz.sizeOf221
 v46 := Tryz.zeroValue221
 t51 := Tryz.underlying268
 a51 := Tryz.isAgg268
 z51 := Tryz.sizeOf268
 v51 := Tryz.zeroValue268
 t59 := Tryz.underlying72
 a59 := Tryz.isAgg72
 z59 := Tryz.sizeOf72
 v59 := Tryz.zeroValue72
 t146 := Tryz.underlying269
 a146 := Tryz.isAgg269
 z146 := Tryz.sizeOf269
 v146 := Tryz.zeroValue269
 g1 := by kernel_rfl }
open Go.RowKit Go.Lib in
theorem Tryz.strings_Cut (s sep : ByteArray) (m : Int) (w : World) (hs : s.size < 4294967281) (hm : w.cell? ⟨1, 0, none⟩ = some (.int .i64 m)) :
  Calls Tryz.prog 43 #[.string s, .string sep] w fun e w' => e = .returned (.tuple #[.string ⟨(Lib.cut s.data.toList sep.data.toList).1.toArray⟩, .string ⟨(Lib.cut s.data.toList sep.data.toList).2.1.toArray⟩, .bool (Lib.cut s.data.toList sep.data.toList).2.2]) ∧ ∃ n, w' = w.drewN n := Any.strings_Cut Tryz.lays145 s sep m w hs hm
open Go.RowKit Go.Lib in
open Go.RowKit Go.Lib in
open Go.RowKit Go.Lib in
open Go.RowKit Go.Lib in
open Go.RowKit Go.Lib in
open Go.RowKit Go.Lib in
open Go.RowKit Go.Lib in
open Go.RowKit Go.Lib in
open Go.RowKit Go.Lib in
open Go.RowKit Go.Lib in
def Tryz.aiK : Go.Shelf.Ren := ⟨fun | 264 => 142 | n => n, fun | 53 => 128 | 46 => 221 | n => n, fun | n => n⟩
theorem Tryz.lays264 : Go.Proofs.Lays.n264 Tryz.prog Tryz.aiK := {
 mixed := by kernel_rfl
 f264 := Tryz.func142.trans (congrArg some (by kernel_rfl))
 t46 := Tryz.underlying221
 a46 := Tryz.isAgg221
 z46 := Tryz.sizeOf221
 v46 := Tryz.zeroValue221
 t53 := Tryz.underlying128
 a53 := Tryz.isAgg128
 z53 := Tryz.sizeOf128
 v53 := Tryz.zeroValue128 }
open Go.RowKit Go.Lib in
theorem Tryz.bits_Mul64 (x y : Nat) (hx : x < 18446744073709551616) (hy : y < 18446744073709551616) (w : World) :
  Calls Tryz.prog 142 #[.int .u64 x, .int .u64 y] w fun e w' => e = .returned (.tuple #[.int .u64 ((x * y / 18446744073709551616 : Nat) : Int), .int .u64 ((x * y % 18446744073709551616 : Nat) : Int)]) ∧ w' = w := Any.bits_Mul64 Tryz.lays264 x y hx hy w
open Go.RowKit Go.Lib in
def Tryz.lays105_ren : Go.Shelf.Ren := ⟨fun | 105 => 169 | 212 => 213 | 99 => 214 | 165 => 215 | 166 => 216 | 170 => 217 | 169 => 218 | 263 => 239 | 264 => 142 | 206 => 177 | 240 => 240 | 241 => 241 | 276 => 253 | 277 => 254 | n => n, fun | 9 => 9 | 3 => 3 | 4 => 4 | 20 => 20 | 0 => 0 | 46 => 221 | 109 => 261 | 5 => 5 | 72 => 265 | 76 => 98 | 51 => 268 | 146 => 269 | 53 => 128 | 148 => 180 | 70 => 263 | 37 => 229 | 75 => 28 | 127 => 285 | 164 => 191 | 80 => 66 | n => n, fun | n => n⟩
theorem Tryz.lays105 : Go.Proofs.Lays.n105 Tryz.prog Tryz.lays105_ren := {
 mixed := by kernel_rfl
 f99 := Tryz.func214.trans (congrArg some (by kernel_rfl))
 f105 := Tryz.func169.trans (congrArg some (by kernel_rfl))
 f165 := Tryz.func215.trans (congrArg some (by kernel_rfl))
 f166 := Tryz.func216.trans (congrArg some (by kernel_rfl))
 f169 := Tryz.func218.trans (congrArg some (by kernel_rfl))
 f170 := Tryz.func217.trans (congrArg some (by kernel_rfl))
 f206 := Tryz.func177.trans (congrArg some (by kernel_rfl))
 f212 := Tryz.func213.trans (congrArg some (by kernel_rfl))
 f240 := Tryz.func240.trans (congrArg some (by kernel_rfl))
 f241 := Tryz.func241.trans (congrArg some (by kernel_rfl))
 f263 := Tryz.func239.trans (congrArg some (by kernel_rfl))
 f264 := Tryz.func142.trans (congrArg some (by kernel_rfl))
 f276 := Tryz.func253.trans (congrArg some (by kernel_rfl))
 f277 := Tryz.func254.trans (congrArg some (by kernel_rfl))
 t0 := Tryz.underlying0
 a0 := Tryz.isAgg0
 z0 := Tryz.sizeOf0
 v0 := Tryz.zeroValue0
 t3 := Tryz.underlying3
 a3 := Tryz.isAgg3
 z3 := Tryz.sizeOf3
 v3 := Tryz.zeroValue3
 t4 := Tryz.underlying4
 a4 := Tryz.isAgg4
 z4 := Tryz.sizeOf4
 v4 := Tryz.zeroValue4
 t5 := Tryz.underlying5
 a5 := Tryz.isAgg5
 z5 := Tryz.sizeOf5
 v5 := Tryz.zeroValue5
 t9 := Tryz.underlying9
 a9 := Tryz.isAgg9
 z9 := Tryz.sizeOf9
 v9 := Tryz.zeroValue9
 t20 := Tryz.underlying20
 a20 := Tryz.isAgg20
 z20 := Tryz.sizeOf20
 v20 := Tryz.zeroValue20
 t37 := Tryz.underlying229
 a37 := Tryz.isAgg229
 z37 := Tryz.sizeOf229
 v37 := Tryz.zeroValue229
 t46 := Tryz.underlying221
 a46 := Tryz.isAgg221
 z46 := Tryz.sizeOf221
 v46 := Tryz.zeroValue221
 t51 := Tryz.underlying268
 a51 := Tryz.isAgg268
 z51 := Tryz.sizeOf268
 v51 := Tryz.zeroValue268
 t53 := Tryz.underlying128
 a53 := Tryz.isAgg128
 z53 := Tryz.sizeOf128
 v53 := Tryz.zeroValue128
 t70 := Tryz.underlying263
 a70 := Tryz.isAgg263
 z70 := Tryz.sizeOf263
 v70 := Tryz.zeroValue263
 t72 := Tryz.underlying265
 a72 := Tryz.isAgg265
 z72 := Tryz.sizeOf265
 v72 := Tryz.zeroValue265
 t75 := Tryz.underlying28
 a75 := Tryz.isAgg28
 z75 := Tryz.sizeOf28
 v75 := Tryz.zeroValue28
 t76 := Tryz.underlying98
 a76 := Tryz.isAgg98
 z76 := Tryz.sizeOf98
 v76 := Tryz.zeroValue98
 t109 := Tryz.underlying261
 a109 := Tryz.isAgg261
 z109 := Tryz.sizeOf261
 v109 := Tryz.zeroValue261
 t127 := Tryz.underlying285
 a127 := Tryz.isAgg285
 z127 := Tryz.sizeOf285
 v127 := Tryz.zeroValue285
 t146 := Tryz.underlying269
 a146 := Tryz.isAgg269
 z146 := Tryz.sizeOf269
 v146 := Tryz.zeroValue269
 t148 := Tryz.underlying180
 a148 := Tryz.isAgg180
 z148 := Tryz.sizeOf180
 v148 := Tryz.zeroValue180
 t164 := Tryz.underlying191
 a164 := Tryz.isAgg191
 z164 := Tryz.sizeOf191
 v164 := Tryz.zeroValue191 }
theorem Tryz.Builder_Extra_105 : Builder.Extra Tryz.prog Tryz.lays105_ren := {
 sizeBuilder := by kernel_rfl
 liesBuilder := by kernel_rfl
 t5 := Tryz.underlying5
 a5 := Tryz.isAgg5
 z5 := Tryz.sizeOf5
 v5 := Tryz.zeroValue5
 infoByte := by kernel_rfl
 cellsByte := by kernel_rfl
 sizeByte := by kernel_rfl
 neB5 := by decide }
open Go.RowKit Go.Lib in
open Go.RowKit Go.Lib in
open Go.RowKit Go.Lib in
open Go.RowKit Go.Lib in
open Go.RowKit Go.Lib in
open Go.RowKit Go.Lib in
open Go.RowKit Go.Lib in
theorem Tryz.strings_Repeat (s : ByteArray) (c : Nat) (w : World) (hc : c ≤ 9223372036854775807) (hlen : s.size * c ≤ 140737488355328) :
  Calls Tryz.prog 169 #[.string s, .int .i64 c] w fun e w' => e = .returned (.string ⟨(Lib.repeatL s.data.toList c).toArray⟩) ∧ Below w.heap.size w w' := Any.strings_Repeat Tryz.lays105 Tryz.Builder_Extra_105 s c w hc hlen
open Go.RowKit Go.Lib in
open Go.RowKit Go.Lib in
open Go.RowKit Go.Lib in
def Tryz.lays112_ren : Go.Shelf.Ren := ⟨fun | 112 => 59 | n => n, fun | 28 => 89 | 3 => 3 | 4 => 4 | 0 => 0 | n => n, fun | n => n⟩
theorem Tryz.lays112 : Go.Proofs.Lays.n112 Tryz.prog Tryz.lays112_ren := {
 mixed := by kernel_rfl
 f112 := Tryz.func59.trans (congrArg some (by kernel_rfl))
 t0 := Tryz.underlying0
 a0 := Tryz.isAgg0
 z0 := Tryz.sizeOf0
 v0 := Tryz.zeroValue0
 t3 := Tryz.underlying3
 a3 := Tryz.isAgg3
 z3 := Tryz.sizeOf3
 v3 := Tryz.zeroValue3
 t4 := Tryz.underlying4
 a4 := Tryz.isAgg4
 z4 := Tryz.sizeOf4
 v4 := Tryz.zeroValue4
 t28 := Tryz.underlying89
 a28 := Tryz.isAgg89
 z28 := Tryz.sizeOf89
 v28 := Tryz.zeroValue89 }
open Go.RowKit Go.Lib Go.Sort in
open Go.RowKit Go.Lib Go.Sort in
theorem Tryz.slices_Reverse_int (blk off cap : Nat) (zs : List Int) (w : World) (hH : Holds (Value.int .i64) w blk off zs.toArray) (hsz : zs.length ≤ 9223372036854775807) :
  Calls Tryz.prog 59 #[.slice (some ⟨blk, off, none⟩) zs.length cap] w fun e w' => e = .returned (.tuple #[]) ∧ ∃ n, w' = putRow (Value.int .i64) (Sort.ahead w n) blk off zs.reverse.toArray := Any.slices_Reverse_int Tryz.lays112 blk off cap zs w hH hsz
open Go.RowKit Go.Lib Go.Sort in
def Tryz.laysNm217_ren : Go.Shelf.Ren := ⟨fun | 17 => 170 | n => n, fun | 24 => 214 | 9 => 9 | 3 => 3 | 4 => 4 | 0 => 0 | n => n, fun | n => n⟩
theorem Tryz.laysNm217 : Go.Proofs.Lays2.n17 Tryz.prog Tryz.laysNm217_ren := {
 mixed := by kernel_rfl
 f17 := Tryz.func170.trans (congrArg some (by kernel_rfl))
 t0 := Tryz.underlying0
 a0 := Tryz.isAgg0
 z0 := Tryz.sizeOf0
 v0 := Tryz.zeroValue0
 t3 := Tryz.underlying3
 a3 := Tryz.isAgg3
 z3 := Tryz.sizeOf3
 v3 := Tryz.zeroValue3
 t4 := Tryz.underlying4
 a4 := Tryz.isAgg4
 z4 := Tryz.sizeOf4
 v4 := Tryz.zeroValue4
 t9 := Tryz.underlying9
 a9 := Tryz.isAgg9
 z9 := Tryz.sizeOf9
 v9 := Tryz.zeroValue9
 t24 := Tryz.underlying214
 a24 := Tryz.isAgg214
 z24 := Tryz.sizeOf214
 v24 := Tryz.zeroValue214 }
open Go.RowKit Go.Lib Go.Sort in
open Go.RowKit Go.Lib Go.Sort in
theorem Tryz.slices_Reverse_string (blk off cap : Nat) (zs : List (List UInt8)) (w : World) (hH : Holds encStr w blk off zs.toArray) (hsz : zs.length ≤ 9223372036854775807) :
  Calls Tryz.prog 170 #[.slice (some ⟨blk, off, none⟩) zs.length cap] w fun e w' => e = .returned (.tuple #[]) ∧ ∃ n, w' = putRow encStr (Sort.ahead w n) blk off zs.reverse.toArray := Any.slices_Reverse_string Tryz.laysNm217 blk off cap zs w hH hsz
open Go.RowKit Go.Lib Go.Sort in
open Go.RowKit Go.Lib Go.Sort in
open Go.RowKit Go.Lib Go.Sort in
def Tryz.laysSlE041_f167_ren : Go.Shelf.Ren := ⟨fun | 41 => 167 | n => n, fun | 22 => 132 | 23 => 128 | 4 => 4 | n => n, fun | n => n⟩
theorem Tryz.laysSlE041_f167 : Go.Proofs.SlLaysE0.n41 Tryz.prog Tryz.laysSlE041_f167_ren := {
 mixed := by kernel_rfl
 f41 := ⟨Tryz.f167.name, by decide, Tryz.func167.trans (congrArg some (by kernel_rfl))⟩
 t4 := Tryz.underlying4
 a4 := Tryz.isAgg4
 z4 := Tryz.sizeOf4
 v4 := Tryz.zeroValue4
 t22 := Tryz.underlying132
 a22 := Tryz.isAgg132
 z22 := Tryz.sizeOf132
 v22 := Tryz.zeroValue132 }
open Go.RowKit Go.Lib in
theorem Tryz.slices_Clone (i0 : TypeInfo) (z : Value) (size bytes : Nat) (hi : Tryz.prog.info? 128 = some i0) (hz0 : i0.zero = some z) (hz1 : i0.size = size) (hz2 : i0.bytes = bytes) (hzs : z.cells.size = size) (hsz : 0 < size) (z23 : ∀ w, (Go.sizeOf 128).run Tryz.prog w = .ok size w) (b off n c : Nat) (news : List Value) (w : World) (hl : news.length = n * size) (hn : n ≤ maxLen) (hbig : n * bytes ≤ 140737488355328) (hc : ∀ j u, news[j]? = some u → w.cell? ⟨b, off + j, none⟩ = some u) (h1 : ∀ u ∈ news, u.oneCell' = true) :
  Calls Tryz.prog 167 #[.slice (some ⟨b, off, none⟩) n c] w fun e w' => ∃ v', e = .returned v' ∧ w'.ownsRow w.heap.size 128 size v' n news ∧ v' ≠ .slice none 0 0 ∧ Below w.heap.size w w' := AnyE.slices_Clone Tryz.laysSlE041_f167 i0 z size bytes hi hz0 hz1 hz2 hzs hsz z23 b off n c news w hl hn hbig hc h1
open Go.RowKit Go.Lib in
theorem Tryz.slices_Clone_nil (n c : Nat) (w : World) :
  Calls Tryz.prog 167 #[.slice none n c] w fun e w' => e = .returned (.slice none 0 0) ∧ w' = w := AnyE.slices_Clone_nil Tryz.laysSlE041_f167 n c w
end Go.Proofs
