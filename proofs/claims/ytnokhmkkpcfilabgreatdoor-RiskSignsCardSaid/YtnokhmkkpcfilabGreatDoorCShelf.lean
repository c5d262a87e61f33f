/- A part of the proof of priceFalls_card, riskSigns_card, yieldBack_card, yieldEdge_card, yieldFalls_card. -/
import Derived.Shelf.Strings.Builder1
import Derived.Shelf.Strings.Builder2
import Derived.Shelf.Strings.OnBuilder
import Derived.Shelf.Strings.Trim
import Derived.Shelf.Small.Utf8
import Derived.Shelf.Small.Bits
import Derived.Shelf.Small.Strs
import Derived.Shelf.Small.Wraps
import Derived.Shelf.Strings.BuilderF
import Derived.Shelf.Strings.BuilderK
import Derived.Shelf.Strings.Builder2Cap
import Derived.Shelf.Strconv.Itoa0
import Derived.Shelf.Strconv.Itoa1
import Derived.Shelf.LaysM
import Derived.Shelf.Strconv.Itoa2
import Derived.Shelf.Strconv.Itoa3
import Derived.Shelf.Strconv.Lower
import Derived.Shelf.Strconv.ParseUint10b64
import Derived.Ground.MpProg
import Derived.Shelf.Pu.ParseUintPublic10
import Derived.Shelf.Strings.Search1
import Derived.Shelf.Strings.Search2
import Derived.Shelf.Strings.Cut
import Derived.Shelf.Strings.Shaped
import Derived.Shelf.Strings.Prefix
import Derived.Shelf.Unicode.Decode
import Derived.Shelf.Strings.Runes
import Derived.Shelf.Strings.AsciiSet
import Derived.Shelf.Bits.Mul64
import Derived.Shelf.Strings.Repeat
import Derived.Shelf.Unicode.DecodeSlow
import Derived.Shelf.Unicode.DecodeAny
import Derived.Shelf.Unicode.DecodeLast
import Derived.Shelf.Strings.BuilderCap
import Derived.Shelf.Slices.Reverse
import Derived.Ground.Names2Prog
import Derived.Shelf.Slices.ReverseS
import Derived.Shelf.Slices.Cells
import Derived.Ground.SlgnProg
import Derived.Shelf.SlicesE.Clone
import Derived.Test.YtnokhmkkpcfilabGreatDoorProg
namespace Go.Proofs
open Go.Shelf
open Go.RowKit in
def Tryz.lays169_ren : Go.Shelf.Ren := ⟨fun | 169 => 210 | n => n, fun | 70 => 266 | 9 => 9 | 0 => 0 | 72 => 268 | 37 => 158 | 127 => 290 | 3 => 3 | 5 => 5 | n => n, fun | n => n⟩
theorem Tryz.lays169 : Go.Proofs.Lays.n169 Tryz.prog Tryz.lays169_ren := {
 mixed := by kernel_rfl
 f169 := Tryz.func210.trans (congrArg some (by kernel_rfl))
 t0 := Tryz.underlying0
 a0 := Tryz.isAgg0
 z0 := Tryz.sizeOf0
 v0 := Tryz.zeroValue0
 t3 := Tryz.underlying3
 a3 := Tryz.isAgg3
 z3 := Tryz.sizeOf3
 v3 := Tryz.zeroValue3
 t9 := Tryz.underlying9
 a9 := Tryz.isAgg9
 z9 := Tryz.sizeOf9
 v9 := Tryz.zeroValue9
 t37 := Tryz.underlying158
 a37 := Tryz.isAgg158
 z37 := Tryz.sizeOf158
 v37 := Tryz.zeroValue158
 t70 := Tryz.underlying266
 a70 := Tryz.isAgg266
 z70 := Tryz.sizeOf266
 v70 := Tryz.zeroValue266
 t72 := Tryz.underlying268
 a72 := Tryz.isAgg268
 z72 := Tryz.sizeOf268
 v72 := Tryz.zeroValue268
 t127 := Tryz.underlying290
 a127 := Tryz.isAgg290
 z127 := Tryz.sizeOf290
 v127 := Tryz.zeroValue290 }
theorem Tryz.Builder_Extra_169 : Builder.Extra Tryz.prog Tryz.lays169_ren := {
 sizeBuilder := by kernel_rfl
 liesBuilder := by kernel_rfl
 t5 := Tryz.underlying5
 a5 := Tryz.isAgg5
 z5 := Tryz.sizeOf5
 v5 := Tryz.zeroValue5
 infoByte := by kernel_rfl
 cellsByte := by kernel_rfl
 sizeByte := by kernel_rfl
 neB5 := by decide }
open Go.RowKit in
theorem Tryz.Builder_String (B b : Nat) (l : List UInt8) (w : World) (h : Lib.IsBuilder 268 5 B b (Lib.byteCells l) w) (h0 : l ≠ []) :
  Calls Tryz.prog 210 #[.pointer (some ⟨b, 0, none⟩)] w fun e w' => e = .returned (.string ⟨l.toArray⟩) ∧ Below B w w' := Any.Builder_String Tryz.lays169 Tryz.Builder_Extra_169 B b l w h h0
open Go.RowKit in
open Go.RowKit in
open Go.RowKit in
open Go.RowKit in
def Tryz.lays156_ren : Go.Shelf.Ren := ⟨fun | 156 => 174 | 165 => 207 | 166 => 208 | 169 => 210 | 240 => 238 | 241 => 239 | 276 => 255 | 277 => 256 | n => n, fun | 31 => 236 | 9 => 9 | 3 => 3 | 4 => 4 | 0 => 0 | 20 => 20 | 72 => 268 | 76 => 166 | 70 => 266 | 37 => 158 | 75 => 29 | 127 => 290 | 164 => 122 | 5 => 5 | 80 => 64 | n => n, fun | n => n⟩
theorem Tryz.lays156 : Go.Proofs.Lays.n156 Tryz.prog Tryz.lays156_ren := {
 mixed := by kernel_rfl
 f156 := Tryz.func174.trans (congrArg some (by kernel_rfl))
 f165 := Tryz.func207.trans (congrArg some (by kernel_rfl))
 f166 := Tryz.func208.trans (congrArg some (by kernel_rfl))
 f169 := Tryz.func210.trans (congrArg some (by kernel_rfl))
 f240 := Tryz.func238.trans (congrArg some (by kernel_rfl))
 f241 := Tryz.func239.trans (congrArg some (by kernel_rfl))
 f276 := Tryz.func255.trans (congrArg some (by kernel_rfl))
 f277 := Tryz.func256.trans (congrArg some (by kernel_rfl))
 t0 := Tryz.underlying0
 a0 := Tryz.isAgg0
 z0 := Tryz.sizeOf0
 v0 := Tryz.zeroValue0
 t3 := Tryz.underlying3
 a3 := Tryz.isAgg3
 z3 := Tryz.sizeOf3
 v3 := Tryz.zeroValue3
 t4 := Tryz.underlying4
 a4 := Tryz.isAgg4
 z4 := Tryz.sizeOf4
 v4 := Tryz.zeroValue4
 t9 := Tryz.underlying9
 a9 := Tryz.isAgg9
 z9 := Tryz.sizeOf9
 v9 := Tryz.zeroValue9
 t20 := Tryz.underlying20
 a20 := Tryz.isAgg20
 z20 := Tryz.sizeOf20
 v20 := Tryz.zeroValue20
 t31 := Tryz.underlying236
 a31 := Tryz.isAgg236
 z31 := Tryz.sizeOf236
 v31 := Tryz.zeroValue236
 t37 := Tryz.underlying158
 a37 := Tryz.isAgg158
 z37 := Tryz.sizeOf158
 v37 := Tryz.zeroValue158
 t70 := Tryz.underlying266
 a70 := Tryz.isAgg266
 z70 := Tryz.sizeOf266
 v70 := Tryz.zeroValue266
 t72 := Tryz.underlying268
 a72 := Tryz.isAgg268
 z72 := Tryz.sizeOf268
 v72 := Tryz.zeroValue268
 t75 := Tryz.underlying29
 a75 := Tryz.isAgg29
 z75 := Tryz.sizeOf29
 v75 := Tryz.zeroValue29
 t76 := Tryz.underlying166
 a76 := Tryz.isAgg166
 z76 := Tryz.sizeOf166
 v76 := Tryz.zeroValue166
 t127 := Tryz.underlying290
 a127 := Tryz.isAgg290
 z127 := Tryz.sizeOf290
 v127 := Tryz.zeroValue290
 t164 := Tryz.underlying122
 a164 := Tryz.isAgg122
 z164 := Tryz.sizeOf122
 v164 := Tryz.zeroValue122 }
theorem Tryz.Builder_Extra_156 : Builder.Extra Tryz.prog Tryz.lays156_ren := {
 sizeBuilder := by kernel_rfl
 liesBuilder := by kernel_rfl
 t5 := Tryz.underlying5
 a5 := Tryz.isAgg5
 z5 := Tryz.sizeOf5
 v5 := Tryz.zeroValue5
 infoByte := by kernel_rfl
 cellsByte := by kernel_rfl
 sizeByte := by kernel_rfl
 neB5 := by decide }
open Go.RowKit in
theorem Tryz.strings_Join_none (a : Option Addr) (c : Nat) (sep : ByteArray) (w : World) :
  Calls Tryz.prog 174 #[.slice a 0 c, .string sep] w fun e w' => e = .returned (.string ⟨#[]⟩) ∧ w' = w := Any.strings_Join_none Tryz.lays156 Tryz.Builder_Extra_156 a c sep w
open Go.RowKit in
theorem Tryz.strings_Join (bk o c : Nat) (xs : List ByteArray) (sep : ByteArray) (w : World) (hcells : ∀ (j : Nat) x, xs[j]? = some x → w.cell? ⟨bk, o + j, none⟩ = some (.string x)) (hbk : bk < w.heap.size) (hN : xs.length ≤ 140737488355328) (hcap : xs.length ≤ c) (hlen : (Lib.join (xs.map (·.data.toList)) sep.data.toList).length ≤ 140737488355328) :
  Calls Tryz.prog 174 #[.slice (some ⟨bk, o, none⟩) xs.length c, .string sep] w fun e w' => e = .returned (.string ⟨(Lib.join (xs.map (·.data.toList)) sep.data.toList).toArray⟩) ∧ Below w.heap.size w w' := Any.strings_Join Tryz.lays156 Tryz.Builder_Extra_156 bk o c xs sep w hcells hbk hN hcap hlen
open Go.RowKit in
open Go.RowKit in
def Tryz.ajR : Go.Shelf.Ren := ⟨fun | 161 => 107 | 231 => 144 | 227 => 146 | 233 => 147 | 235 => 149 | 228 => 187 | 197 => 188 | 151 => 189 | 260 => 217 | 152 => 218 | 137 => 242 | 119 => 243 | 224 => 215 | 225 => 214 | 217 => 213 | 266 => 240 | n => n, fun | 9 => 9 | 4 => 4 | 3 => 3 | 5 => 5 | 117 => 216 | 116 => 215 | 0 => 0 | 124 => 219 | 105 => 254 | 21 => 21 | 119 => 293 | 46 => 243 | 139 => 296 | 138 => 295 | n => n, fun | 3 => 5 | 4 => 6 | n => n⟩
theorem Tryz.lays161 : Go.Proofs.Lays.n161 Tryz.prog Tryz.ajR := {
 mixed := by kernel_rfl
 f119 := Tryz.func243.trans (congrArg some (by kernel_rfl))
 f137 := Tryz.func242.trans (congrArg some (by kernel_rfl))
 f151 := Tryz.func189.trans (congrArg some (by kernel_rfl))
 f152 := Tryz.func218.trans (congrArg some (by kernel_rfl))
 f161 := Tryz.func107.trans (congrArg some (by kernel_rfl))
 f197 := Tryz.func188.trans (congrArg some (by kernel_rfl))
 f217 := Tryz.func213.trans (congrArg some (by kernel_rfl))
 f224 := Tryz.func215.trans (congrArg some (by kernel_rfl))
 f225 := Tryz.func214.trans (congrArg some (by kernel_rfl))
 f227 := Tryz.func146.trans (congrArg some (by kernel_rfl))
 f228 := Tryz.func187.trans (congrArg some (by kernel_rfl))
 f231 := Tryz.func144.trans (congrArg some (by kernel_rfl))
 f233 := Tryz.func147.trans (congrArg some (by kernel_rfl))
 f235 := Tryz.func149.trans (congrArg some (by kernel_rfl))
 f260 := Tryz.func217.trans (congrArg some (by kernel_rfl))
 f266 := Tryz.func240.trans (congrArg some (by kernel_rfl))
 t0 := Tryz.underlying0
 a0 := Tryz.isAgg0
 z0 := Tryz.sizeOf0
 v0 := Tryz.zeroValue0
 t3 := Tryz.underlying3
 a3 := Tryz.isAgg3
 z3 := Tryz.sizeOf3
 v3 := Tryz.zeroValue3
 t4 := Tryz.underlying4
 a4 := Tryz.isAgg4
 z4 := Tryz.sizeOf4
 v4 := Tryz.zeroValue4
 t5 := Tryz.underlying5
 a5 := Tryz.isAgg5
 z5 := Tryz.sizeOf5
 v5 := Tryz.zeroValue5
 t9 := Tryz.underlying9
 a9 := Tryz.isAgg9
 z9 := Tryz.sizeOf9
 v9 := Tryz.zeroValue9
 t21 := Tryz.underlying21
 a21 := Tryz.isAgg21
 z21 := Tryz.sizeOf21
 v21 := Tryz.zeroValue21
 t46 := Tryz.underlying243
 a46 := Tryz.isAgg243
 z46 := Tryz.sizeOf243
 v46 := Tryz.zeroValue243
 t105 := Tryz.underlying254
 a105 := Tryz.isAgg254
 z105 := Tryz.sizeOf254
 v105 := Tryz.zeroValue254
 t116 := Tryz.underlying215
 a116 := Tryz.isAgg215
 z116 := Tryz.sizeOf215
 t117 := Tryz.underlying216
 a117 := Tryz.isAgg216
 z117 := Tryz.sizeOf216
 v117 := Tryz.zeroValue216
 t119 := Tryz.underlying293
 a119 := Tryz.isAgg293
 z119 := Tryz.sizeOf293
 t124 := Tryz.underlying219
 a124 := Tryz.isAgg219
 z124 := Tryz.sizeOf219
 v124 := Tryz.zeroValue219
 t138 := Tryz.underlying295
 a138 := Tryz.isAgg295
 z138 := Tryz.sizeOf295
 v138 := Tryz.zeroValue295
 t139 := Tryz.underlying296
 a139 := Tryz.isAgg296
 z139 := Tryz.sizeOf296
 v139 := Tryz.zeroValue296
 g3 := by kernel_rfl
 g4 := by kernel_rfl }
open Go.RowKit in
theorem Tryz.strings_TrimLeft_one (s : ByteArray) (c : UInt8) (hc : c.toNat < 128) (w : World) :
  Calls Tryz.prog 107 #[.string s, .string ⟨#[c]⟩] w fun e w' => e = .returned (.string ⟨(Lib.trimLeftB s.data.toList c).toArray⟩) ∧ w' = w := Any.strings_TrimLeft_one Tryz.lays161 s c hc w
def Tryz.ajQ : Go.Shelf.Ren := ⟨fun | 160 => 105 | 232 => 145 | 231 => 144 | 227 => 146 | 234 => 148 | 233 => 147 | 236 => 150 | 235 => 149 | 228 => 187 | 271 => 190 | 151 => 189 | 197 => 188 | 120 => 219 | 152 => 218 | 260 => 217 | 137 => 242 | 119 => 243 | 224 => 215 | 225 => 214 | 217 => 213 | 266 => 240 | n => n, fun | 9 => 9 | 4 => 4 | 3 => 3 | 5 => 5 | 117 => 216 | 116 => 215 | 0 => 0 | 124 => 219 | 21 => 21 | 105 => 254 | 46 => 243 | 119 => 293 | 139 => 296 | 138 => 295 | n => n, fun | 3 => 5 | 4 => 6 | n => n⟩
theorem Tryz.lays160 : Go.Proofs.Lays.n160 Tryz.prog Tryz.ajQ := {
 mixed := by kernel_rfl
 f119 := Tryz.func243.trans (congrArg some (by kernel_rfl))
 f120 := Tryz.func219.trans (congrArg some (by kernel_rfl))
 f137 := Tryz.func242.trans (congrArg some (by kernel_rfl))
 f151 := Tryz.func189.trans (congrArg some (by kernel_rfl))
 f152 := Tryz.func218.trans (congrArg some (by kernel_rfl))
 f160 := Tryz.func105.trans (congrArg some (by kernel_rfl))
 f197 := Tryz.func188.trans (congrArg some (by kernel_rfl))
 f217 := Tryz.func213.trans (congrArg some (by kernel_rfl))
 f224 := Tryz.func215.trans (congrArg some (by kernel_rfl))
 f225 := Tryz.func214.trans (congrArg some (by kernel_rfl))
 f227 := Tryz.func146.trans (congrArg some (by kernel_rfl))
 f228 := Tryz.func187.trans (congrArg some (by kernel_rfl))
 f231 := Tryz.func144.trans (congrArg some (by kernel_rfl))
 f232 := Tryz.func145.trans (congrArg some (by kernel_rfl))
 f233 := Tryz.func147.trans (congrArg some (by kernel_rfl))
 f234 := Tryz.func148.trans (congrArg some (by kernel_rfl))
 f235 := Tryz.func149.trans (congrArg some (by kernel_rfl))
 f236 := Tryz.func150.trans (congrArg some (by kernel_rfl))
 f260 := Tryz.func217.trans (congrArg some (by kernel_rfl))
 f266 := Tryz.func240.trans (congrArg some (by kernel_rfl))
 f271 := Tryz.func190.trans (congrArg some (by kernel_rfl))
 t0 := Tryz.underlying0
 a0 := Tryz.isAgg0
 z0 := Tryz.sizeOf0
 v0 := Tryz.zeroValue0
 t3 := Tryz.underlying3
 a3 := Tryz.isAgg3
 z3 := Tryz.sizeOf3
 v3 := Tryz.zeroValue3
 t4 := Tryz.underlying4
 a4 := Tryz.isAgg4
 z4 := Tryz.sizeOf4
 v4 := Tryz.zeroValue4
 t5 := Tryz.underlying5
 a5 := Tryz.isAgg5
 z5 := Tryz.sizeOf5
 v5 := Tryz.zeroValue5
 t9 := Tryz.underlying9
 a9 := Tryz.isAgg9
 z9 := Tryz.sizeOf9
 v9 := Tryz.zeroValue9
 t21 := Tryz.underlying21
 a21 := Tryz.isAgg21
 z21 := Tryz.sizeOf21
 v21 := Tryz.zeroValue21
 t46 := Tryz.underlying243
 a46 := Tryz.isAgg243
 z46 := Tryz.sizeOf243
 v46 := Tryz.zeroValue243
 t105 := Tryz.underlying254
 a105 := Tryz.isAgg254
 z105 := Tryz.sizeOf254
 v105 := Tryz.zeroValue254
 t116 := Tryz.underlying215
 a116 := Tryz.isAgg215
 z116 := Tryz.sizeOf215
 t117 := Tryz.underlying216
 a117 := Tryz.isAgg216
 z117 := Tryz.sizeOf216
 v117 := Tryz.zeroValue216
 t119 := Tryz.underlying293
 a119 := Tryz.isAgg293
 z119 := Tryz.sizeOf293
 t124 := Tryz.underlying219
 a124 := Tryz.isAgg219
 z124 := Tryz.sizeOf219
 v124 := Tryz.zeroValue219
 t138 := Tryz.underlying295
 a138 := Tryz.isAgg295
 z138 := Tryz.sizeOf295
 v138 := Tryz.zeroValue295
 t139 := Tryz.underlying296
 a139 := Tryz.isAgg296
 z139 := Tryz.sizeOf296
 v139 := Tryz.zeroValue296
 g3 := by kernel_rfl
 g4 := by kernel_rfl }
open Go.RowKit in
def Tryz.ajO : Go.Shelf.Ren := ⟨fun | 134 => 180 | 129 => 212 | n => n, fun | 53 => 96 | 3 => 3 | 4 => 4 | 46 => 243 | 5 => 5 | 9 => 9 | n => n, fun | n => n⟩
theorem Tryz.arl : Go.Proofs.Lays.n134 Tryz.prog Tryz.ajO := {
 mixed := by kernel_rfl
 f129 := Tryz.func212.trans (congrArg some (by kernel_rfl))
 f134 := Tryz.func180.trans (congrArg some (by kernel_rfl))
 t3 := Tryz.underlying3
 a3 := Tryz.isAgg3
 z3 := Tryz.sizeOf3
 v3 := Tryz.zeroValue3
 t4 := Tryz.underlying4
 a4 := Tryz.isAgg4
 z4 := Tryz.sizeOf4
 v4 := Tryz.zeroValue4
 t5 := Tryz.underlying5
 a5 := Tryz.isAgg5
 z5 := Tryz.sizeOf5
 v5 := Tryz.zeroValue5
 t9 := Tryz.underlying9
 a9 := Tryz.isAgg9
 z9 := Tryz.sizeOf9
 v9 := Tryz.zeroValue9
 t46 := Tryz.underlying243
 a46 := Tryz.isAgg243
 z46 := Tryz.sizeOf243
 v46 := Tryz.zeroValue243
 t53 := Tryz.underlying96
 a53 := Tryz.isAgg96
 z53 := Tryz.sizeOf96
 v53 := Tryz.zeroValue96 }
theorem Tryz.bits_LeadingZeros64 (x : Int) (w : World) (h0 : 0 ≤ x) (h1 : x ≤ 18446744073709551615) :
  Calls Tryz.prog 180 #[.int .u64 x] w fun e w' => e = .returned (.int .i64 (64 - (Lib.bitLen x.toNat : Int))) ∧ w' = w := Any.bits_LeadingZeros64 Tryz.arl x w h0 h1
open Go.RowKit in
open Go.RowKit in
def Tryz.ajN : Go.Shelf.Ren := ⟨fun | 103 => 103 | 210 => 142 | 206 => 185 | n => n, fun | 9 => 9 | 4 => 4 | 24 => 151 | 3 => 3 | n => n, fun | n => n⟩
theorem Tryz.ark : Go.Proofs.Lays.n103 Tryz.prog Tryz.ajN := {
 mixed := by kernel_rfl
 f103 := Tryz.func103.trans (congrArg some (by kernel_rfl))
 f206 := Tryz.func185.trans (congrArg some (by kernel_rfl))
 f210 := Tryz.func142.trans (congrArg some (by kernel_rfl))
 t3 := Tryz.underlying3
 a3 := Tryz.isAgg3
 z3 := Tryz.sizeOf3
 v3 := Tryz.zeroValue3
 t4 := Tryz.underlying4
 a4 := Tryz.isAgg4
 z4 := Tryz.sizeOf4
 v4 := Tryz.zeroValue4
 t9 := Tryz.underlying9
 a9 := Tryz.isAgg9
 z9 := Tryz.sizeOf9
 v9 := Tryz.zeroValue9
 t24 := Tryz.underlying151
 a24 := Tryz.isAgg151
 z24 := Tryz.sizeOf151
 v24 := Tryz.zeroValue151 }
open Go.RowKit in
theorem Tryz.strings_CutPrefix (s p : ByteArray) (w : World) :
  Calls Tryz.prog 103 #[.string s, .string p] w fun e w' => e = .returned (.tuple #[.string ⟨(Lib.trimPrefix s.data.toList p.data.toList).toArray⟩, .bool (Lib.hasPrefix s.data.toList p.data.toList)]) ∧ w' = w := Any.strings_CutPrefix Tryz.ark s p w
open Go.RowKit in
open Go.RowKit in
open Go.RowKit in
open Go.RowKit in
open Go.RowKit in
open Go.RowKit in
open Go.RowKit in
open Go.RowKit in
open Go.RowKit in
open Go.Lib in
open Go.Lib in
def Tryz.ajT : Go.Shelf.Ren := ⟨fun | 283 => 233 | n => n, fun | 3 => 3 | 9 => 9 | 4 => 4 | n => n, fun | n => n⟩
theorem Tryz.lays283 : Go.Proofs.Lays.n283 Tryz.prog Tryz.ajT := {
 mixed := by kernel_rfl
 f283 := Tryz.func233.trans (congrArg some (by kernel_rfl))
 t3 := Tryz.underlying3
 a3 := Tryz.isAgg3
 z3 := Tryz.sizeOf3
 v3 := Tryz.zeroValue3
 t4 := Tryz.underlying4
 a4 := Tryz.isAgg4
 z4 := Tryz.sizeOf4
 v4 := Tryz.zeroValue4
 t9 := Tryz.underlying9
 a9 := Tryz.isAgg9
 z9 := Tryz.sizeOf9
 v9 := Tryz.zeroValue9 }
open Go.Lib in
theorem Tryz.internal_strconv_small (i : Nat) (h : i < 100) (w : World) :
  Calls Tryz.prog 233 #[.int .i64 i] w fun e w' => e = .returned (.string ⟨(Lib.decDigits i).toArray⟩) ∧ w' = w := Any.internal_strconv_small Tryz.lays283 i h w
def Tryz.ahO : Go.Shelf.Ren := ⟨fun | 284 => 234 | 129 => 212 | 317 => 251 | 318 => 252 | n => n, fun | 53 => 96 | 3 => 3 | 212 => 309 | 0 => 0 | 4 => 4 | 46 => 243 | 5 => 5 | 9 => 9 | n => n, fun | 17 => 9 | n => n⟩
theorem Tryz.laysM284 : Go.Proofs.LaysM.n284 Tryz.prog Tryz.ahO := {
 mixed := by kernel_rfl
 f129 := Tryz.func212.trans (congrArg some (by kernel_rfl))
 f284 := Tryz.func234.trans (congrArg some (by kernel_rfl))
 f317 := Tryz.func251.trans (congrArg some (by kernel_rfl))
 f318 := Tryz.func252.trans (congrArg some (by kernel_rfl))
 t0 := Tryz.underlying0
 a0 := Tryz.isAgg0
 z0 := Tryz.sizeOf0
 v0 := Tryz.zeroValue0
 t3 := Tryz.underlying3
 a3 := Tryz.isAgg3
 z3 := Tryz.sizeOf3
 v3 := Tryz.zeroValue3
 t4 := Tryz.underlying4
 a4 := Tryz.isAgg4
 z4 := Tryz.sizeOf4
 v4 := Tryz.zeroValue4
 t5 := Tryz.underlying5
 a5 := Tryz.isAgg5
 z5 := Tryz.sizeOf5
 v5 := Tryz.zeroValue5
 t9 := Tryz.underlying9
 a9 := Tryz.isAgg9
 z9 := Tryz.sizeOf9
 v9 := Tryz.zeroValue9
 t46 := Tryz.underlying243
 a46 := Tryz.isAgg243
 z46 := Tryz.sizeOf243
 v46 := Tryz.zeroValue243
 t53 := Tryz.underlying96
 a53 := Tryz.isAgg96
 z53 := Tryz.sizeOf96
 v53 := Tryz.zeroValue96
 t212 := Tryz.underlying309
 a212 := Tryz.isAgg309
 z212 := Tryz.sizeOf309
 v212 := Tryz.zeroValue309
 g17 := by kernel_rfl
 i0 := by kernel_rfl
 i3 := by kernel_rfl
 i4 := by kernel_rfl
 i5 := by kernel_rfl
 i9 := by kernel_rfl
 i46 := by kernel_rfl
 i53 := by kernel_rfl
 i212 := by kernel_rfl
 m17 := by kernel_rfl }
open Go.Lib in
theorem Tryz.internal_strconv_numDigits (u : Nat) (h1 : 1 ≤ u) (h2 : u < 18446744073709551616) (w : World) (htab : Lib.TabIs Tryz.prog w "internal/strconv.uint64pow10" .u64 Lib.pow10Tab) :
  Calls Tryz.prog 234 #[.int .u64 u] w fun e w' => e = .returned (.int .i64 (Lib.nDigits u)) ∧ w' = w := Any.internal_strconv_numDigits Tryz.laysM284 u h1 h2 w htab
def Tryz.ajU : Go.Shelf.Ren := ⟨fun | 285 => 235 | n => n, fun | 37 => 158 | 53 => 96 | 3 => 3 | 4 => 4 | 51 => 287 | 9 => 9 | 5 => 5 | 0 => 0 | n => n, fun | n => n⟩
theorem Tryz.lays285 : Go.Proofs.Lays.n285 Tryz.prog Tryz.ajU := {
 mixed := by kernel_rfl
 f285 := Tryz.func235.trans (congrArg some (by kernel_rfl))
 t0 := Tryz.underlying0
 a0 := Tryz.isAgg0
 z0 := Tryz.sizeOf0
 v0 := Tryz.zeroValue0
 t3 := Tryz.underlying3
 a3 := Tryz.isAgg3
 z3 := Tryz.sizeOf3
 v3 := Tryz.zeroValue3
 t4 := Tryz.underlying4
 a4 := Tryz.isAgg4
 z4 := Tryz.sizeOf4
 v4 := Tryz.zeroValue4
 t5 := Tryz.underlying5
 a5 := Tryz.isAgg5
 z5 := Tryz.sizeOf5
 v5 := Tryz.zeroValue5
 t9 := Tryz.underlying9
 a9 := Tryz.isAgg9
 z9 := Tryz.sizeOf9
 v9 := Tryz.zeroValue9
 t37 := Tryz.underlying158
 a37 := Tryz.isAgg158
 z37 := Tryz.sizeOf158
 v37 := Tryz.zeroValue158
 t51 := Tryz.underlying287
 a51 := Tryz.isAgg287
 z51 := Tryz.sizeOf287
 v51 := Tryz.zeroValue287
 t53 := Tryz.underlying96
 a53 := Tryz.isAgg96
 z53 := Tryz.sizeOf96
 v53 := Tryz.zeroValue96 }
open Go.RowKit Go.Sort Go.Lib in
theorem Tryz.internal_strconv_formatBase10 (blk off cap : Nat) (u : Nat) (d : Array UInt8) (w : World) (hH : Holds (fun (b : UInt8) => Value.int .u8 (b.toNat : Int)) w blk off d) (hu : u < 10 ^ d.size) (hu64 : u < 18446744073709551616) (hsz : d.size < 4611686018427387904) :
  Calls Tryz.prog 235 #[.slice (some ⟨blk, off, none⟩) d.size cap, .int .u64 u] w fun e w' =>
   e = .returned (.tuple #[]) ∧ ∃ (n v' : Nat) (dk : Array UInt8), w' = (putRow (fun (b : UInt8) => Value.int .u8 (b.toNat : Int)) w blk off dk).drewN n ∧ FmtInv d.size u 0 v' dk := Any.internal_strconv_formatBase10 Tryz.lays285 blk off cap u d w hH hu hu64 hsz
open Go.RowKit Go.Sort Go.Lib in
open Go.RowKit Go.Sort Go.Lib in
open Go.RowKit Go.Sort Go.Lib in
open Go.RowKit Go.Sort Go.Lib in
def Tryz.ahN : Go.Shelf.Ren := ⟨fun | 171 => 203 | 243 => 232 | 246 => 250 | 283 => 233 | 284 => 234 | 285 => 235 | 286 => 236 | 129 => 212 | 317 => 251 | 318 => 252 | 319 => 253 | 320 => 254 | 337 => 259 | 338 => 211 | n => n, fun | 3 => 3 | 9 => 9 | 2 => 2 | 4 => 4 | 171 => 283 | 0 => 0 | 53 => 96 | 37 => 158 | 5 => 5 | 173 => 285 | 212 => 309 | 51 => 287 | 20 => 20 | 213 => 310 | 46 => 243 | 232 => 325 | 233 => 291 | n => n, fun | 17 => 9 | 18 => 10 | 19 => 4 | n => n⟩
theorem Tryz.laysM171 : Go.Proofs.LaysM.n171 Tryz.prog Tryz.ahN := {
 mixed := by kernel_rfl
 f129 := Tryz.func212.trans (congrArg some (by kernel_rfl))
 f171 := Tryz.func203.trans (congrArg some (by kernel_rfl))
 f243 := Tryz.func232.trans (congrArg some (by kernel_rfl))
 f246 := Tryz.func250.trans (congrArg some (by kernel_rfl))
 f283 := Tryz.func233.trans (congrArg some (by kernel_rfl))
 f284 := Tryz.func234.trans (congrArg some (by kernel_rfl))
 f285 := Tryz.func235.trans (congrArg some (by kernel_rfl))
 f286 := Tryz.func236.trans (congrArg some (by kernel_rfl))
 f317 := Tryz.func251.trans (congrArg some (by kernel_rfl))
 f318 := Tryz.func252.trans (congrArg some (by kernel_rfl))
 f319 := Tryz.func253.trans (congrArg some (by kernel_rfl))
 f320 := Tryz.func254.trans (congrArg some (by kernel_rfl))
 f337 := Tryz.func259.trans (congrArg some (by kernel_rfl))
 f338 := Tryz.func211.trans (congrArg some (by kernel_rfl))
 t0 := Tryz.underlying0
 a0 := Tryz.isAgg0
 z0 := Tryz.sizeOf0
 v0 := Tryz.zeroValue0
 t2 := Tryz.underlying2
 a2 := Tryz.isAgg2
 z2 := Tryz.sizeOf2
 v2 := Tryz.zeroValue2
 t3 := Tryz.underlying3
 a3 := Tryz.isAgg3
 z3 := Tryz.sizeOf3
 v3 := Tryz.zeroValue3
 t4 := Tryz.underlying4
 a4 := Tryz.isAgg4
 z4 := Tryz.sizeOf4
 v4 := Tryz.zeroValue4
 t5 := Tryz.underlying5
 a5 := Tryz.isAgg5
 z5 := Tryz.sizeOf5
 v5 := Tryz.zeroValue5
 t9 := Tryz.underlying9
 a9 := Tryz.isAgg9
 z9 := Tryz.sizeOf9
 v9 := Tryz.zeroValue9
 t20 := Tryz.underlying20
 a20 := Tryz.isAgg20
 z20 := Tryz.sizeOf20
 v20 := Tryz.zeroValue20
 t37 := Tryz.underlying158
 a37 := Tryz.isAgg158
 z37 := Tryz.sizeOf158
 v37 := Tryz.zeroValue158
 t46 := Tryz.underlying243
 a46 := Tryz.isAgg243
 z46 := Tryz.sizeOf243
 v46 := Tryz.zeroValue243
 t51 := Tryz.underlying287
 a51 := Tryz.isAgg287
 z51 := Tryz.sizeOf287
 v51 := Tryz.zeroValue287
 t53 := Tryz.underlying96
 a53 := Tryz.isAgg96
 z53 := Tryz.sizeOf96
 v53 := Tryz.zeroValue96
 t171 := Tryz.underlying283
 a171 := Tryz.isAgg283
 z171 := Tryz.sizeOf283
 v171 := Tryz.zeroValue283
 t173 := Tryz.underlying285
 a173 := Tryz.isAgg285
 z173 := Tryz.sizeOf285
 v173 := Tryz.zeroValue285
 t212 := Tryz.underlying309
 a212 := Tryz.isAgg309
 z212 := Tryz.sizeOf309
 v212 := Tryz.zeroValue309
 t213 := Tryz.underlying310
 a213 := Tryz.isAgg310
 z213 := Tryz.sizeOf310
 t232 := Tryz.underlying325
 a232 := Tryz.isAgg325
 z232 := Tryz.sizeOf325
 v232 := Tryz.zeroValue325
 t233 := Tryz.underlying291
 a233 := Tryz.isAgg291
 z233 := Tryz.sizeOf291
 v233 := Tryz.zeroValue291
 g17 := by kernel_rfl
 g18 := by kernel_rfl
 g19 := by kernel_rfl
 i0 := by kernel_rfl
 i2 := by kernel_rfl
 i3 := by kernel_rfl
 i4 := by kernel_rfl
 i5 := by kernel_rfl
 i9 := by kernel_rfl
 i20 := by kernel_rfl
 i37 := by kernel_rfl
 i46 := by kernel_rfl
 i51 := by kernel_rfl
 i53 := by kernel_rfl
 i171 := by kernel_rfl
 i173 := by kernel_rfl
 i212 := by kernel_rfl
 i232 := by kernel_rfl
 i233 := by kernel_rfl
 m17 := by kernel_rfl
 m18 := by kernel_rfl
 m19 := by kernel_rfl }
open Go.RowKit Go.Sort Go.Lib in
theorem Tryz.strconv_Itoa (n : Int) (h0 : -9223372036854775808 ≤ n) (h1 : n ≤ 9223372036854775807) (w : World) (htab : Lib.TabIs Tryz.prog w "internal/strconv.uint64pow10" .u64 Lib.pow10Tab) :
  Calls Tryz.prog 203 #[.int .i64 n] w fun e w' => e = .returned (.string ⟨(Lib.itoa n).toArray⟩) ∧ ∃ k os, w' = grow (w.drewN k) os := Any.strconv_Itoa Tryz.laysM171 n h0 h1 w htab
open Go.RowKit Go.Sort Go.Lib in
open Go.RowKit in
open Go.RowKit in
def Tryz.ahP : Go.Shelf.Ren := ⟨fun | 14 => 151 | 16 => 191 | 17 => 192 | 19 => 220 | 20 => 221 | 21 => 222 | 22 => 223 | 23 => 224 | 24 => 225 | 25 => 244 | 27 => 203 | 26 => 245 | 28 => 232 | 29 => 250 | 30 => 233 | 31 => 234 | 32 => 235 | 33 => 236 | 35 => 212 | 34 => 251 | 36 => 252 | 37 => 253 | 38 => 254 | 39 => 259 | 40 => 211 | n => n, fun | 9 => 9 | 3 => 3 | 22 => 96 | 24 => 29 | 25 => 220 | 4 => 4 | 34 => 273 | 5 => 5 | 36 => 243 | 37 => 158 | 0 => 0 | 39 => 276 | 21 => 21 | 44 => 300 | 47 => 290 | 50 => 316 | 48 => 314 | 2 => 2 | 52 => 283 | 55 => 285 | 59 => 309 | 60 => 287 | 20 => 20 | 61 => 310 | 65 => 325 | 66 => 291 | 67 => 64 | n => n, fun | 0 => 7 | 1 => 8 | 2 => 9 | 3 => 10 | 4 => 4 | n => n⟩
theorem Tryz.laysPu14 : Go.Proofs.LaysPu.n14 Tryz.prog Tryz.ahP := {
 mixed := by kernel_rfl
 f14 := Tryz.func151.trans (congrArg some (by kernel_rfl))
 f16 := Tryz.func191.trans (congrArg some (by kernel_rfl))
 f17 := Tryz.func192.trans (congrArg some (by kernel_rfl))
 f19 := Tryz.func220.trans (congrArg some (by kernel_rfl))
 f20 := Tryz.func221.trans (congrArg some (by kernel_rfl))
 f21 := Tryz.func222.trans (congrArg some (by kernel_rfl))
 f22 := Tryz.func223.trans (congrArg some (by kernel_rfl))
 f23 := Tryz.func224.trans (congrArg some (by kernel_rfl))
 f24 := Tryz.func225.trans (congrArg some (by kernel_rfl))
 f25 := Tryz.func244.trans (congrArg some (by kernel_rfl))
 f26 := Tryz.func245.trans (congrArg some (by kernel_rfl))
 f27 := Tryz.func203.trans (congrArg some (by kernel_rfl))
 f28 := Tryz.func232.trans (congrArg some (by kernel_rfl))
 f29 := Tryz.func250.trans (congrArg some (by kernel_rfl))
 f30 := Tryz.func233.trans (congrArg some (by kernel_rfl))
 f31 := Tryz.func234.trans (congrArg some (by kernel_rfl))
 f32 := Tryz.func235.trans (congrArg some (by kernel_rfl))
 f33 := Tryz.func236.trans (congrArg some (by kernel_rfl))
 f34 := Tryz.func251.trans (congrArg some (by kernel_rfl))
 f35 := Tryz.func212.trans (congrArg some (by kernel_rfl))
 f36 := Tryz.func252.trans (congrArg some (by kernel_rfl))
 f37 := Tryz.func253.trans (congrArg some (by kernel_rfl))
 f38 := Tryz.func254.trans (congrArg some (by kernel_rfl))
 f39 := Tryz.func259.trans (congrArg some (by kernel_rfl))
 f40 := Tryz.func211.trans (congrArg some (by kernel_rfl))
 t0 := Tryz.underlying0
 a0 := Tryz.isAgg0
 z0 := Tryz.sizeOf0
 v0 := Tryz.zeroValue0
 i0 := by kernel_rfl
 t2 := Tryz.underlying2
 a2 := Tryz.isAgg2
 z2 := Tryz.sizeOf2
 v2 := Tryz.zeroValue2
 i2 := by kernel_rfl
 t3 := Tryz.underlying3
 a3 := Tryz.isAgg3
 z3 := Tryz.sizeOf3
 v3 := Tryz.zeroValue3
 i3 := by kernel_rfl
 t4 := Tryz.underlying4
 a4 := Tryz.isAgg4
 z4 := Tryz.sizeOf4
 v4 := Tryz.zeroValue4
 i4 := by kernel_rfl
 t5 := Tryz.underlying5
 a5 := Tryz.isAgg5
 z5 := Tryz.sizeOf5
 v5 := Tryz.zeroValue5
 i5 := by kernel_rfl
 t9 := Tryz.underlying9
 a9 := Tryz.isAgg9
 z9 := Tryz.sizeOf9
 v9 := Tryz.zeroValue9
 i9 := by kernel_rfl
 t20 := Tryz.underlying20
 a20 := Tryz.isAgg20
 z20 := Tryz.sizeOf20
 v20 := Tryz.zeroValue20
 i20 := by kernel_rfl
 t21 := Tryz.underlying21
 a21 := Tryz.isAgg21
 z21 := Tryz.sizeOf21
 v21 := Tryz.zeroValue21
 i21 := by kernel_rfl
 t22 := Tryz.underlying96
 a22 := Tryz.isAgg96
 z22 := Tryz.sizeOf96
 v22 := Tryz.zeroValue96
 i22 := by kernel_rfl
 t24 := Tryz.underlying29
 a24 := Tryz.isAgg29
 z24 := Tryz.sizeOf29
 v24 := Tryz.zeroValue29
 i24 := by kernel_rfl
 t25 := Tryz.underlying220
 a25 := Tryz.isAgg220
 z25 := Tryz.sizeOf220
 v25 := Tryz.zeroValue220
 i25 := by kernel_rfl
 t34 := Tryz.underlying273
 a34 := Tryz.isAgg273
 z34 := Tryz.sizeOf273
 v34 := Tryz.zeroValue273
 i34 := by kernel_rfl
 c34 := by kernel_rfl
 t36 := Tryz.underlying243
 a36 := Tryz.isAgg243
 z36 := Tryz.sizeOf243
 v36 := Tryz.zeroValue243
 i36 := by kernel_rfl
 t37 := Tryz.underlying158
 a37 := Tryz.isAgg158
 z37 := Tryz.sizeOf158
 v37 := Tryz.zeroValue158
 i37 := by kernel_rfl
 t39 := Tryz.underlying276
 a39 := Tryz.isAgg276
 z39 := Tryz.sizeOf276
 v39 := Tryz.zeroValue276
 i39 := by kernel_rfl
 t44 := Tryz.underlying300
 a44 := Tryz.isAgg300
 z44 := Tryz.sizeOf300
 v44 := Tryz.zeroValue300
 i44 := by kernel_rfl
 t47 := Tryz.underlying290
 a47 := Tryz.isAgg290
 z47 := Tryz.sizeOf290
 v47 := Tryz.zeroValue290
 i47 := by kernel_rfl
 t48 := Tryz.underlying314
 a48 := Tryz.isAgg314
 z48 := Tryz.sizeOf314
 v48 := Tryz.zeroValue314
 i48 := by kernel_rfl
 t50 := Tryz.underlying316
 a50 := Tryz.isAgg316
 z50 := Tryz.sizeOf316
 v50 := Tryz.zeroValue316
 i50 := by kernel_rfl
 t52 := Tryz.underlying283
 a52 := Tryz.isAgg283
 z52 := Tryz.sizeOf283
 v52 := Tryz.zeroValue283
 i52 := by kernel_rfl
 t55 := Tryz.underlying285
 a55 := Tryz.isAgg285
 z55 := Tryz.sizeOf285
 v55 := Tryz.zeroValue285
 i55 := by kernel_rfl
 t59 := Tryz.underlying309
 a59 := Tryz.isAgg309
 z59 := Tryz.sizeOf309
 v59 := Tryz.zeroValue309
 i59 := by kernel_rfl
 t60 := Tryz.underlying287
 a60 := Tryz.isAgg287
 z60 := Tryz.sizeOf287
 v60 := Tryz.zeroValue287
 i60 := by kernel_rfl
 t61 := Tryz.underlying310
 a61 := Tryz.isAgg310
 z61 := Tryz.sizeOf310
 t65 := Tryz.underlying325
 a65 := Tryz.isAgg325
 z65 := Tryz.sizeOf325
 v65 := Tryz.zeroValue325
 i65 := by kernel_rfl
 t66 := Tryz.underlying291
 a66 := Tryz.isAgg291
 z66 := Tryz.sizeOf291
 v66 := Tryz.zeroValue291
 i66 := by kernel_rfl
 t67 := Tryz.underlying64
 a67 := Tryz.isAgg64
 z67 := Tryz.sizeOf64
 v67 := Tryz.zeroValue64
 i67 := by kernel_rfl
 g0 := by kernel_rfl
 m0 := by kernel_rfl
 g1 := by kernel_rfl
 m1 := by kernel_rfl
 g2 := by kernel_rfl
 m2 := by kernel_rfl
 g3 := by kernel_rfl
 m3 := by kernel_rfl
 g4 := by kernel_rfl
 m4 := by kernel_rfl }
open Go.RowKit in
open Go.RowKit in
open Go.RowKit in
open Go.RowKit in
theorem Tryz.strconv_ParseUint_10_at64_ok (s : ByteArray) (hmax : s.size ≤ 9223372036854775806) (u : Nat) (h : Lib.parseUintB 64 s.data.toList = .ok u) (w : World) :
  Calls Tryz.prog 151 #[.string s, .int .i64 10, .int .i64 64] w fun e w' => e = .returned (.tuple #[.int .u64 u, .nilIface]) ∧ (w' = w ∨ w' = Lib.bytesWorld w 5 s) := Any.strconv_ParseUint_10_at64_ok Tryz.laysPu14 s hmax u h w
open Go.RowKit in
open Go.RowKit in
open Go.RowKit in
open Go.RowKit in
open Go.RowKit in
open Go.RowKit in
open Go.RowKit in
open Go.RowKit in
open Go.RowKit in
open Go.RowKit in
open Go.RowKit in
open Go.RowKit Go.Lib in
open Go.RowKit Go.Lib in
open Go.RowKit Go.Lib in
open Go.RowKit Go.Lib in
open Go.RowKit Go.Lib in
open Go.RowKit Go.Lib in
open Go.RowKit Go.Lib in
def Tryz.ajP : Go.Shelf.Ren := ⟨fun | 145 => 104 | 220 => 143 | 219 => 186 | 217 => 213 | 225 => 214 | 224 => 215 | 267 => 216 | 266 => 240 | 314 => 241 | n => n, fun | 9 => 9 | 4 => 4 | 59 => 153 | 3 => 3 | 5 => 5 | 46 => 243 | 146 => 288 | 51 => 287 | n => n, fun | 1 => 3 | n => n⟩
theorem Tryz.lays145 : Go.Proofs.Lays.n145 Tryz.prog Tryz.ajP := {
 mixed := by kernel_rfl
 f145 := Tryz.func104.trans (congrArg some (by kernel_rfl))
 f217 := Tryz.func213.trans (congrArg some (by kernel_rfl))
 f219 := Tryz.func186.trans (congrArg some (by kernel_rfl))
 f220 := Tryz.func143.trans (congrArg some (by kernel_rfl))
 f224 := Tryz.func215.trans (congrArg some (by kernel_rfl))
 f225 := Tryz.func214.trans (congrArg some (by kernel_rfl))
 f266 := Tryz.func240.trans (congrArg some (by kernel_rfl))
 f267 := Tryz.func216.trans (congrArg some (by kernel_rfl))
 f314 := Tryz.func241.trans (congrArg some (by kernel_rfl))
 t3 := Tryz.underlying3
 a3 := Tryz.isAgg3
 z3 := Tryz.sizeOf3
 v3 := Tryz.zeroValue3
 t4 := Tryz.underlying4
 a4 := Tryz.isAgg4
 z4 := Tryz.sizeOf4
 v4 := Tryz.zeroValue4
 t5 := Tryz.underlying5
 a5 := Tryz.isAgg5
 z5 := Tryz.sizeOf5
 v5 := Tryz.zeroValue5
 t9 := Tryz.underlying9
 a9 := Tryz.isAgg9
 z9 := Tryz.sizeOf9
 v9 := Tryz.zeroValue9
 t46 := Tryz.underlying243
 a46 := Tryz.isAgg243
 z46 := Tryz.sizeOf243
 v46 := Tryz.zeroValue243
 t51 := Tryz.underlying287
 a51 := Tryz.isAgg287
 z51 := Tryz.sizeOf287
 v51 := Tryz.zeroValue287
 t59 := Tryz.underlying153
 a59 := Tryz.isAgg153
 z59 := Tryz.sizeOf153
 v59 := Tryz.zeroValue153
 t146 := Tryz.underlying288
 a146 := Tryz.isAgg288
 z146 := Tryz.sizeOf288
 v146 := Tryz.zeroValue288
 g1 := by kernel_rfl }
open Go.RowKit Go.Lib in
theorem Tryz.strings_Cut (s sep : ByteArray) (m : Int) (w : World) (hs : s.size < 4294967281) (hm : w.cell? ⟨3, 0, none⟩ = some (.int .i64 m)) :
  Calls Tryz.prog 104 #[.string s, .string sep] w fun e w' => e = .returned (.tuple #[.string ⟨(Lib.cut s.data.toList sep.data.toList).1.toArray⟩, .string ⟨(Lib.cut s.data.toList sep.data.toList).2.1.toArray⟩, .bool (Lib.cut s.data.toList sep.data.toList).2.2]) ∧ ∃ n, w' = w.drewN n := Any.strings_Cut Tryz.lays145 s sep m w hs hm
open Go.RowKit Go.Lib in
open Go.RowKit Go.Lib in
open Go.RowKit Go.Lib in
open Go.RowKit Go.Lib in
open Go.RowKit Go.Lib in
open Go.RowKit Go.Lib in
open Go.RowKit Go.Lib in
open Go.RowKit Go.Lib in
open Go.RowKit Go.Lib in
open Go.RowKit Go.Lib in
def Tryz.ajS : Go.Shelf.Ren := ⟨fun | 264 => 133 | n => n, fun | 53 => 96 | 46 => 243 | n => n, fun | n => n⟩
theorem Tryz.lays264 : Go.Proofs.Lays.n264 Tryz.prog Tryz.ajS := {
 mixed := by kernel_rfl
 f264 := Tryz.func133.trans (congrArg some (by kernel_rfl))
 t46 := Tryz.underlying243
 a46 := Tryz.isAgg243
 z46 := Tryz.sizeOf243
 v46 := Tryz.zeroValue243
 t53 := Tryz.underlying96
 a53 := Tryz.isAgg96
 z53 := Tryz.sizeOf96
 v53 := Tryz.zeroValue96 }
open Go.RowKit Go.Lib in
theorem Tryz.bits_Mul64 (x y : Nat) (hx : x < 18446744073709551616) (hy : y < 18446744073709551616) (w : World) :
  Calls Tryz.prog 133 #[.int .u64 x, .int .u64 y] w fun e w' => e = .returned (.tuple #[.int .u64 ((x * y / 18446744073709551616 : Nat) : Int), .int .u64 ((x * y % 18446744073709551616 : Nat) : Int)]) ∧ w' = w := Any.bits_Mul64 Tryz.lays264 x y hx hy w
open Go.RowKit Go.Lib in
def Tryz.lays105_ren : Go.Shelf.Ren := ⟨fun | 105 => 172 | 212 => 205 | 99 => 206 | 165 => 207 | 166 => 208 | 170 => 209 | 169 => 210 | 263 => 237 | 264 => 133 | 206 => 185 | 240 => 238 | 241 => 239 | 276 => 255 | 277 => 256 | n => n, fun | 9 => 9 | 3 => 3 | 4 => 4 | 20 => 20 | 0 => 0 | 46 => 243 | 109 => 264 | 5 => 5 | 72 => 268 | 76 => 166 | 51 => 287 | 146 => 288 | 53 => 96 | 148 => 201 | 70 => 266 | 37 => 158 | 75 => 29 | 127 => 290 | 164 => 122 | 80 => 64 | n => n, fun | n => n⟩
theorem Tryz.lays105 : Go.Proofs.Lays.n105 Tryz.prog Tryz.lays105_ren := {
 mixed := by kernel_rfl
 f99 := Tryz.func206.trans (congrArg some (by kernel_rfl))
 f105 := Tryz.func172.trans (congrArg some (by kernel_rfl))
 f165 := Tryz.func207.trans (congrArg some (by kernel_rfl))
 f166 := Tryz.func208.trans (congrArg some (by kernel_rfl))
 f169 := Tryz.func210.trans (congrArg some (by kernel_rfl))
 f170 := Tryz.func209.trans (congrArg some (by kernel_rfl))
 f206 := Tryz.func185.trans (congrArg some (by kernel_rfl))
 f212 := Tryz.func205.trans (congrArg some (by kernel_rfl))
 f240 := Tryz.func238.trans (congrArg some (by kernel_rfl))
 f241 := Tryz.func239.trans (congrArg some (by kernel_rfl))
 f263 := Tryz.func237.trans (congrArg some (by kernel_rfl))
 f264 := Tryz.func133.trans (congrArg some (by kernel_rfl))
 f276 := Tryz.func255.trans (congrArg some (by kernel_rfl))
 f277 := Tryz.func256.trans (congrArg some (by kernel_rfl))
 t0 := Tryz.underlying0
 a0 := Tryz.isAgg0
 z0 := Tryz.sizeOf0
 v0 := Tryz.zeroValue0
 t3 := Tryz.underlying3
 a3 := Tryz.isAgg3
 z3 := Tryz.sizeOf3
 v3 := Tryz.zeroValue3
 t4 := Tryz.underlying4
 a4 := Tryz.isAgg4
 z4 := Tryz.sizeOf4
 v4 := Tryz.zeroValue4
 t5 := Tryz.underlying5
 a5 := Tryz.isAgg5
 z5 := Tryz.sizeOf5
 v5 := Tryz.zeroValue5
 t9 := Tryz.underlying9
 a9 := Tryz.isAgg9
 z9 := Tryz.sizeOf9
 v9 := Tryz.zeroValue9
 t20 := Tryz.underlying20
 a20 := Tryz.isAgg20
 z20 := Tryz.sizeOf20
 v20 := Tryz.zeroValue20
 t37 := Tryz.underlying158
 a37 := Tryz.isAgg158
 z37 := Tryz.sizeOf158
 v37 := Tryz.zeroValue158
 t46 := Tryz.underlying243
 a46 := Tryz.isAgg243
 z46 := Tryz.sizeOf243
 v46 := Tryz.zeroValue243
 t51 := Tryz.underlying287
 a51 := Tryz.isAgg287
 z51 := Tryz.sizeOf287
 v51 := Tryz.zeroValue287
 t53 := Tryz.underlying96
 a53 := Tryz.isAgg96
 z53 := Tryz.sizeOf96
 v53 := Tryz.zeroValue96
 t70 := Tryz.underlying266
 a70 := Tryz.isAgg266
 z70 := Tryz.sizeOf266
 v70 := Tryz.zeroValue266
 t72 := Tryz.underlying268
 a72 := Tryz.isAgg268
 z72 := Tryz.sizeOf268
 v72 := Tryz.zeroValue268
 t75 := Tryz.underlying29
 a75 := Tryz.isAgg29
 z75 := Tryz.sizeOf29
 v75 := Tryz.zeroValue29
 t76 := Tryz.underlying166
 a76 := Tryz.isAgg166
 z76 := Tryz.sizeOf166
 v76 := Tryz.zeroValue166
 t109 := Tryz.underlying264
 a109 := Tryz.isAgg264
 z109 := Tryz.sizeOf264
 v109 := Tryz.zeroValue264
 t127 := Tryz.underlying290
 a127 := Tryz.isAgg290
 z127 := Tryz.sizeOf290
 v127 := Tryz.zeroValue290
 t146 := Tryz.underlying288
 a146 := Tryz.isAgg288
 z146 := Tryz.sizeOf288
 v146 := Tryz.zeroValue288
 t148 := Tryz.underlying201
 a148 := Tryz.isAgg201
 z148 := Tryz.sizeOf201
 v148 := Tryz.zeroValue201
 t164 := Tryz.underlying122
 a164 := Tryz.isAgg122
 z164 := Tryz.sizeOf122
 v164 := Tryz.zeroValue122 }
theorem Tryz.Builder_Extra_105 : Builder.Extra Tryz.prog Tryz.lays105_ren := {
 sizeBuilder := by kernel_rfl
 liesBuilder := by kernel_rfl
 t5 := Tryz.underlying5
 a5 := Tryz.isAgg5
 z5 := Tryz.sizeOf5
 v5 := Tryz.zeroValue5
 infoByte := by kernel_rfl
 cellsByte := by kernel_rfl
 sizeByte := by kernel_rfl
 neB5 := by decide }
open Go.RowKit Go.Lib in
open Go.RowKit Go.Lib in
open Go.RowKit Go.Lib in
open Go.RowKit Go.Lib in
open Go.RowKit Go.Lib in
open Go.RowKit Go.Lib in
open Go.RowKit Go.Lib in
theorem Tryz.strings_Repeat (s : ByteArray) (c : Nat) (w : World) (hc : c ≤ 9223372036854775807) (hlen : s.size * c ≤ 140737488355328) :
  Calls Tryz.prog 172 #[.string s, .int .i64 c] w fun e w' => e = .returned (.string ⟨(Lib.repeatL s.data.toList c).toArray⟩) ∧ Below w.heap.size w w' := Any.strings_Repeat Tryz.lays105 Tryz.Builder_Extra_105 s c w hc hlen
open Go.RowKit Go.Lib in
open Go.RowKit Go.Lib in
open Go.RowKit Go.Lib in
def Tryz.lays112_ren : Go.Shelf.Ren := ⟨fun | 112 => 61 | n => n, fun | 28 => 97 | 3 => 3 | 4 => 4 | 0 => 0 | n => n, fun | n => n⟩
theorem Tryz.lays112 : Go.Proofs.Lays.n112 Tryz.prog Tryz.lays112_ren := {
 mixed := by kernel_rfl
 f112 := Tryz.func61.trans (congrArg some (by kernel_rfl))
 t0 := Tryz.underlying0
 a0 := Tryz.isAgg0
 z0 := Tryz.sizeOf0
 v0 := Tryz.zeroValue0
 t3 := Tryz.underlying3
 a3 := Tryz.isAgg3
 z3 := Tryz.sizeOf3
 v3 := Tryz.zeroValue3
 t4 := Tryz.underlying4
 a4 := Tryz.isAgg4
 z4 := Tryz.sizeOf4
 v4 := Tryz.zeroValue4
 t28 := Tryz.underlying97
 a28 := Tryz.isAgg97
 z28 := Tryz.sizeOf97
 v28 := Tryz.zeroValue97 }
open Go.RowKit Go.Lib Go.Sort in
open Go.RowKit Go.Lib Go.Sort in
theorem Tryz.slices_Reverse_int (blk off cap : Nat) (zs : List Int) (w : World) (hH : Holds (Value.int .i64) w blk off zs.toArray) (hsz : zs.length ≤ 9223372036854775807) :
  Calls Tryz.prog 61 #[.slice (some ⟨blk, off, none⟩) zs.length cap] w fun e w' => e = .returned (.tuple #[]) ∧ ∃ n, w' = putRow (Value.int .i64) (Sort.ahead w n) blk off zs.reverse.toArray := Any.slices_Reverse_int Tryz.lays112 blk off cap zs w hH hsz
open Go.RowKit Go.Lib Go.Sort in
def Tryz.agn : Go.Shelf.Ren := ⟨fun | 17 => 173 | n => n, fun | 24 => 236 | 9 => 9 | 3 => 3 | 4 => 4 | 0 => 0 | n => n, fun | n => n⟩
theorem Tryz.laysNm217 : Go.Proofs.Lays2.n17 Tryz.prog Tryz.agn := {
 mixed := by kernel_rfl
 f17 := Tryz.func173.trans (congrArg some (by kernel_rfl))
 t0 := Tryz.underlying0
 a0 := Tryz.isAgg0
 z0 := Tryz.sizeOf0
 v0 := Tryz.zeroValue0
 t3 := Tryz.underlying3
 a3 := Tryz.isAgg3
 z3 := Tryz.sizeOf3
 v3 := Tryz.zeroValue3
 t4 := Tryz.underlying4
 a4 := Tryz.isAgg4
 z4 := Tryz.sizeOf4
 v4 := Tryz.zeroValue4
 t9 := Tryz.underlying9
 a9 := Tryz.isAgg9
 z9 := Tryz.sizeOf9
 v9 := Tryz.zeroValue9
 t24 := Tryz.underlying236
 a24 := Tryz.isAgg236
 z24 := Tryz.sizeOf236
 v24 := Tryz.zeroValue236 }
open Go.RowKit Go.Lib Go.Sort in
open Go.RowKit Go.Lib Go.Sort in
theorem Tryz.slices_Reverse_string (blk off cap : Nat) (zs : List (List UInt8)) (w : World) (hH : Holds encStr w blk off zs.toArray) (hsz : zs.length ≤ 9223372036854775807) :
  Calls Tryz.prog 173 #[.slice (some ⟨blk, off, none⟩) zs.length cap] w fun e w' => e = .returned (.tuple #[]) ∧ ∃ n, w' = putRow encStr (Sort.ahead w n) blk off zs.reverse.toArray := Any.slices_Reverse_string Tryz.laysNm217 blk off cap zs w hH hsz
open Go.RowKit Go.Lib Go.Sort in
open Go.RowKit Go.Lib Go.Sort in
open Go.RowKit Go.Lib Go.Sort in
def Tryz.Xr : Go.Shelf.Ren := ⟨fun | 41 => 170 | n => n, fun | 22 => 46 | 23 => 96 | 4 => 4 | n => n, fun | n => n⟩
theorem Tryz.SQ : Go.Proofs.SlLaysE0.n41 Tryz.prog Tryz.Xr := {
 mixed := by kernel_rfl
 f41 := ⟨Tryz.f170.name, by decide, Tryz.func170.trans (congrArg some (by kernel_rfl))⟩
 t4 := Tryz.underlying4
 a4 := Tryz.isAgg4
 z4 := Tryz.sizeOf4
 v4 := Tryz.zeroValue4
 t22 := Tryz.underlying46
 a22 := Tryz.isAgg46
 z22 := Tryz.sizeOf46
 v22 := Tryz.zeroValue46 }
open Go.RowKit Go.Lib in
theorem Tryz.slices_Clone (i0 : TypeInfo) (z : Value) (size bytes : Nat) (hi : Tryz.prog.info? 96 = some i0) (hz0 : i0.zero = some z) (hz1 : i0.size = size) (hz2 : i0.bytes = bytes) (hzs : z.cells.size = size) (hsz : 0 < size) (z23 : ∀ w, (Go.sizeOf 96).run Tryz.prog w = .ok size w) (b off n c : Nat) (news : List Value) (w : World) (hl : news.length = n * size) (hn : n ≤ maxLen) (hbig : n * bytes ≤ 140737488355328) (hc : ∀ j u, news[j]? = some u → w.cell? ⟨b, off + j, none⟩ = some u) (h1 : ∀ u ∈ news, u.oneCell' = true) :
  Calls Tryz.prog 170 #[.slice (some ⟨b, off, none⟩) n c] w fun e w' => ∃ v', e = .returned v' ∧ w'.ownsRow w.heap.size 96 size v' n news ∧ v' ≠ .slice none 0 0 ∧ Below w.heap.size w w' := AnyE.slices_Clone Tryz.SQ i0 z size bytes hi hz0 hz1 hz2 hzs hsz z23 b off n c news w hl hn hbig hc h1
open Go.RowKit Go.Lib in
theorem Tryz.slices_Clone_nil (n c : Nat) (w : World) :
  Calls Tryz.prog 170 #[.slice none n c] w fun e w' => e = .returned (.slice none 0 0) ∧ w' = w := AnyE.slices_Clone_nil Tryz.SQ n c w
end Go.Proofs
