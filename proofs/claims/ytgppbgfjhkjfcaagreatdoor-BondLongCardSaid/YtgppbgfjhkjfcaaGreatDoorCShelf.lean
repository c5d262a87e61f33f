/- A part of the proof of planLone_card, bondLong_card. -/
import Derived.Shelf.Strings.Builder1
import Derived.Shelf.Strings.Builder2
import Derived.Shelf.Strings.OnBuilder
import Derived.Shelf.Strings.Trim
import Derived.Shelf.Small.Utf8
import Derived.Shelf.Small.Bits
import Derived.Shelf.Small.Strs
import Derived.Shelf.Small.Wraps
import Derived.Shelf.Strings.BuilderF
import Derived.Shelf.Strings.BuilderK
import Derived.Shelf.Strconv.Itoa0
import Derived.Shelf.Strconv.Itoa1
import Derived.Shelf.LaysM
import Derived.Shelf.Strconv.Itoa2
import Derived.Shelf.Strconv.Itoa3
import Derived.Shelf.Strconv.Lower
import Derived.Shelf.Strconv.ParseUint10b64
import Derived.Ground.MpProg
import Derived.Shelf.Pu.ParseUintPublic10
import Derived.Shelf.Strings.Search1
import Derived.Shelf.Strings.Search2
import Derived.Shelf.Strings.Cut
import Derived.Shelf.Strings.Shaped
import Derived.Shelf.Strings.Prefix
import Derived.Shelf.Unicode.Decode
import Derived.Shelf.Strings.Runes
import Derived.Shelf.Strings.AsciiSet
import Derived.Shelf.Bits.Mul64
import Derived.Shelf.Strings.Repeat
import Derived.Shelf.Unicode.DecodeSlow
import Derived.Shelf.Unicode.DecodeAny
import Derived.Shelf.Unicode.DecodeLast
import Derived.Shelf.Slices.Reverse
import Derived.Ground.Names2Prog
import Derived.Shelf.Slices.ReverseS
import Derived.Shelf.Slices.Cells
import Derived.Ground.SlgnProg
import Derived.Shelf.SlicesE.Clone
import Derived.Test.YtgppbgfjhkjfcaaGreatDoorProg
namespace Go.Proofs
open Go.Shelf
open Go.RowKit in
def Tryz.lays169_ren : Go.Shelf.Ren := ⟨fun | 169 => 208 | n => n, fun | 70 => 265 | 9 => 9 | 0 => 0 | 72 => 268 | 37 => 266 | 127 => 292 | 3 => 3 | 5 => 5 | n => n, fun | n => n⟩
theorem Tryz.lays169 : Go.Proofs.Lays.n169 Tryz.prog Tryz.lays169_ren := {
 mixed := by kernel_rfl
 f169 := Tryz.func208.trans (congrArg some (by kernel_rfl))
 t0 := Tryz.underlying0
 a0 := Tryz.isAgg0
 z0 := Tryz.sizeOf0
 v0 := Tryz.zeroValue0
 t3 := Tryz.underlying3
 a3 := Tryz.isAgg3
 z3 := Tryz.sizeOf3
 v3 := Tryz.zeroValue3
 t9 := Tryz.underlying9
 a9 := Tryz.isAgg9
 z9 := Tryz.sizeOf9
 v9 := Tryz.zeroValue9
 t37 := Tryz.underlying266
 a37 := Tryz.isAgg266
 z37 := Tryz.sizeOf266
 v37 := Tryz.zeroValue266
 t70 := Tryz.underlying265
 a70 := Tryz.isAgg265
 z70 := Tryz.sizeOf265
 v70 := Tryz.zeroValue265
 t72 := Tryz.underlying268
 a72 := Tryz.isAgg268
 z72 := Tryz.sizeOf268
 v72 := Tryz.zeroValue268
 t127 := Tryz.underlying292
 a127 := Tryz.isAgg292
 z127 := Tryz.sizeOf292
 v127 := Tryz.zeroValue292 }
theorem Tryz.Builder_Extra_169 : Builder.Extra Tryz.prog Tryz.lays169_ren := {
 sizeBuilder := by kernel_rfl
 liesBuilder := by kernel_rfl
 t5 := Tryz.underlying5
 a5 := Tryz.isAgg5
 z5 := Tryz.sizeOf5
 v5 := Tryz.zeroValue5
 infoByte := by kernel_rfl
 cellsByte := by kernel_rfl
 sizeByte := by kernel_rfl
 neB5 := by decide }
open Go.RowKit in
theorem Tryz.Builder_String (B b : Nat) (l : List UInt8) (w : World) (h : Lib.IsBuilder 268 5 B b (Lib.byteCells l) w) (h0 : l ≠ []) :
  Calls Tryz.prog 208 #[.pointer (some ⟨b, 0, none⟩)] w fun e w' => e = .returned (.string ⟨l.toArray⟩) ∧ Below B w w' := Any.Builder_String Tryz.lays169 Tryz.Builder_Extra_169 B b l w h h0
open Go.RowKit in
open Go.RowKit in
open Go.RowKit in
open Go.RowKit in
def Tryz.lays156_ren : Go.Shelf.Ren := ⟨fun | 156 => 167 | 165 => 205 | 166 => 206 | 169 => 208 | 240 => 237 | 241 => 238 | 276 => 262 | 277 => 263 | n => n, fun | 31 => 216 | 9 => 9 | 3 => 3 | 4 => 4 | 0 => 0 | 20 => 20 | 72 => 268 | 76 => 41 | 70 => 265 | 37 => 266 | 75 => 31 | 127 => 292 | 164 => 168 | 5 => 5 | 80 => 59 | n => n, fun | n => n⟩
theorem Tryz.lays156 : Go.Proofs.Lays.n156 Tryz.prog Tryz.lays156_ren := {
 mixed := by kernel_rfl
 f156 := Tryz.func167.trans (congrArg some (by kernel_rfl))
 f165 := Tryz.func205.trans (congrArg some (by kernel_rfl))
 f166 := Tryz.func206.trans (congrArg some (by kernel_rfl))
 f169 := Tryz.func208.trans (congrArg some (by kernel_rfl))
 f240 := Tryz.func237.trans (congrArg some (by kernel_rfl))
 f241 := Tryz.func238.trans (congrArg some (by kernel_rfl))
 f276 := Tryz.func262.trans (congrArg some (by kernel_rfl))
 f277 := Tryz.func263.trans (congrArg some (by kernel_rfl))
 t0 := Tryz.underlying0
 a0 := Tryz.isAgg0
 z0 := Tryz.sizeOf0
 v0 := Tryz.zeroValue0
 t3 := Tryz.underlying3
 a3 := Tryz.isAgg3
 z3 := Tryz.sizeOf3
 v3 := Tryz.zeroValue3
 t4 := Tryz.underlying4
 a4 := Tryz.isAgg4
 z4 := Tryz.sizeOf4
 v4 := Tryz.zeroValue4
 t9 := Tryz.underlying9
 a9 := Tryz.isAgg9
 z9 := Tryz.sizeOf9
 v9 := Tryz.zeroValue9
 t20 := Tryz.underlying20
 a20 := Tryz.isAgg20
 z20 := Tryz.sizeOf20
 v20 := Tryz.zeroValue20
 t31 := Tryz.underlying216
 a31 := Tryz.isAgg216
 z31 := Tryz.sizeOf216
 v31 := Tryz.zeroValue216
 t37 := Tryz.underlying266
 a37 := Tryz.isAgg266
 z37 := Tryz.sizeOf266
 v37 := Tryz.zeroValue266
 t70 := Tryz.underlying265
 a70 := Tryz.isAgg265
 z70 := Tryz.sizeOf265
 v70 := Tryz.zeroValue265
 t72 := Tryz.underlying268
 a72 := Tryz.isAgg268
 z72 := Tryz.sizeOf268
 v72 := Tryz.zeroValue268
 t75 := Tryz.underlying31
 a75 := Tryz.isAgg31
 z75 := Tryz.sizeOf31
 v75 := Tryz.zeroValue31
 t76 := Tryz.underlying41
 a76 := Tryz.isAgg41
 z76 := Tryz.sizeOf41
 v76 := Tryz.zeroValue41
 t127 := Tryz.underlying292
 a127 := Tryz.isAgg292
 z127 := Tryz.sizeOf292
 v127 := Tryz.zeroValue292
 t164 := Tryz.underlying168
 a164 := Tryz.isAgg168
 z164 := Tryz.sizeOf168
 v164 := Tryz.zeroValue168 }
theorem Tryz.Builder_Extra_156 : Builder.Extra Tryz.prog Tryz.lays156_ren := {
 sizeBuilder := by kernel_rfl
 liesBuilder := by kernel_rfl
 t5 := Tryz.underlying5
 a5 := Tryz.isAgg5
 z5 := Tryz.sizeOf5
 v5 := Tryz.zeroValue5
 infoByte := by kernel_rfl
 cellsByte := by kernel_rfl
 sizeByte := by kernel_rfl
 neB5 := by decide }
open Go.RowKit in
theorem Tryz.strings_Join_none (a : Option Addr) (c : Nat) (sep : ByteArray) (w : World) :
  Calls Tryz.prog 167 #[.slice a 0 c, .string sep] w fun e w' => e = .returned (.string ⟨#[]⟩) ∧ w' = w := Any.strings_Join_none Tryz.lays156 Tryz.Builder_Extra_156 a c sep w
open Go.RowKit in
theorem Tryz.strings_Join (bk o c : Nat) (xs : List ByteArray) (sep : ByteArray) (w : World) (hcells : ∀ (j : Nat) x, xs[j]? = some x → w.cell? ⟨bk, o + j, none⟩ = some (.string x)) (hbk : bk < w.heap.size) (hN : xs.length ≤ 140737488355328) (hcap : xs.length ≤ c) (hlen : (Lib.join (xs.map (·.data.toList)) sep.data.toList).length ≤ 140737488355328) :
  Calls Tryz.prog 167 #[.slice (some ⟨bk, o, none⟩) xs.length c, .string sep] w fun e w' => e = .returned (.string ⟨(Lib.join (xs.map (·.data.toList)) sep.data.toList).toArray⟩) ∧ Below w.heap.size w w' := Any.strings_Join Tryz.lays156 Tryz.Builder_Extra_156 bk o c xs sep w hcells hbk hN hcap hlen
open Go.RowKit in
open Go.RowKit in
def Tryz.afk : Go.Shelf.Ren := ⟨fun | 161 => 170 | 231 => 210 | 227 => 212 | 233 => 213 | 235 => 215 | 228 => 239 | 197 => 240 | 151 => 241 | 260 => 264 | 152 => 265 | 137 => 274 | 119 => 275 | 224 => 245 | 225 => 244 | 217 => 243 | 266 => 267 | n => n, fun | 9 => 9 | 4 => 4 | 3 => 3 | 5 => 5 | 117 => 274 | 116 => 273 | 0 => 0 | 124 => 277 | 105 => 294 | 21 => 21 | 119 => 327 | 46 => 247 | 139 => 330 | 138 => 329 | n => n, fun | 3 => 8 | 4 => 9 | n => n⟩
theorem Tryz.lays161 : Go.Proofs.Lays.n161 Tryz.prog Tryz.afk := {
 mixed := by kernel_rfl
 f119 := Tryz.func275.trans (congrArg some (by kernel_rfl))
 f137 := Tryz.func274.trans (congrArg some (by kernel_rfl))
 f151 := Tryz.func241.trans (congrArg some (by kernel_rfl))
 f152 := Tryz.func265.trans (congrArg some (by kernel_rfl))
 f161 := Tryz.func170.trans (congrArg some (by kernel_rfl))
 f197 := Tryz.func240.trans (congrArg some (by kernel_rfl))
 f217 := Tryz.func243.trans (congrArg some (by kernel_rfl))
 f224 := Tryz.func245.trans (congrArg some (by kernel_rfl))
 f225 := Tryz.func244.trans (congrArg some (by kernel_rfl))
 f227 := Tryz.func212.trans (congrArg some (by kernel_rfl))
 f228 := Tryz.func239.trans (congrArg some (by kernel_rfl))
 f231 := Tryz.func210.trans (congrArg some (by kernel_rfl))
 f233 := Tryz.func213.trans (congrArg some (by kernel_rfl))
 f235 := Tryz.func215.trans (congrArg some (by kernel_rfl))
 f260 := Tryz.func264.trans (congrArg some (by kernel_rfl))
 f266 := Tryz.func267.trans (congrArg some (by kernel_rfl))
 t0 := Tryz.underlying0
 a0 := Tryz.isAgg0
 z0 := Tryz.sizeOf0
 v0 := Tryz.zeroValue0
 t3 := Tryz.underlying3
 a3 := Tryz.isAgg3
 z3 := Tryz.sizeOf3
 v3 := Tryz.zeroValue3
 t4 := Tryz.underlying4
 a4 := Tryz.isAgg4
 z4 := Tryz.sizeOf4
 v4 := Tryz.zeroValue4
 t5 := Tryz.underlying5
 a5 := Tryz.isAgg5
 z5 := Tryz.sizeOf5
 v5 := Tryz.zeroValue5
 t9 := Tryz.underlying9
 a9 := Tryz.isAgg9
 z9 := Tryz.sizeOf9
 v9 := Tryz.zeroValue9
 t21 := Tryz.underlying21
 a21 := Tryz.isAgg21
 z21 := Tryz.sizeOf21
 v21 := Tryz.zeroValue21
 t46 := Tryz.underlying247
 a46 := Tryz.isAgg247
 z46 := Tryz.sizeOf247
 v46 := Tryz.zeroValue247
 t105 := Tryz.underlying294
 a105 := Tryz.isAgg294
 z105 := Tryz.sizeOf294
 v105 := Tryz.zeroValue294
 t116 := Tryz.underlying273
 a116 := Tryz.isAgg273
 z116 := Tryz.sizeOf273
 t117 := Tryz.underlying274
 a117 := Tryz.isAgg274
 z117 := Tryz.sizeOf274
 v117 := Tryz.zeroValue274
 t119 := Tryz.underlying327
 a119 := Tryz.isAgg327
 z119 := Tryz.sizeOf327
 t124 := Tryz.underlying277
 a124 := Tryz.isAgg277
 z124 := Tryz.sizeOf277
 v124 := Tryz.zeroValue277
 t138 := Tryz.underlying329
 a138 := Tryz.isAgg329
 z138 := Tryz.sizeOf329
 v138 := Tryz.zeroValue329
 t139 := Tryz.underlying330
 a139 := Tryz.isAgg330
 z139 := Tryz.sizeOf330
 v139 := Tryz.zeroValue330
 g3 := by kernel_rfl
 g4 := by kernel_rfl }
open Go.RowKit in
theorem Tryz.strings_TrimLeft_one (s : ByteArray) (c : UInt8) (hc : c.toNat < 128) (w : World) :
  Calls Tryz.prog 170 #[.string s, .string ⟨#[c]⟩] w fun e w' => e = .returned (.string ⟨(Lib.trimLeftB s.data.toList c).toArray⟩) ∧ w' = w := Any.strings_TrimLeft_one Tryz.lays161 s c hc w
def Tryz.afj : Go.Shelf.Ren := ⟨fun | 160 => 169 | 232 => 211 | 231 => 210 | 227 => 212 | 234 => 214 | 233 => 213 | 236 => 216 | 235 => 215 | 228 => 239 | 271 => 242 | 151 => 241 | 197 => 240 | 120 => 266 | 152 => 265 | 260 => 264 | 137 => 274 | 119 => 275 | 224 => 245 | 225 => 244 | 217 => 243 | 266 => 267 | n => n, fun | 9 => 9 | 4 => 4 | 3 => 3 | 5 => 5 | 117 => 274 | 116 => 273 | 0 => 0 | 124 => 277 | 21 => 21 | 105 => 294 | 46 => 247 | 119 => 327 | 139 => 330 | 138 => 329 | n => n, fun | 3 => 8 | 4 => 9 | n => n⟩
theorem Tryz.lays160 : Go.Proofs.Lays.n160 Tryz.prog Tryz.afj := {
 mixed := by kernel_rfl
 f119 := Tryz.func275.trans (congrArg some (by kernel_rfl))
 f120 := Tryz.func266.trans (congrArg some (by kernel_rfl))
 f137 := Tryz.func274.trans (congrArg some (by kernel_rfl))
 f151 := Tryz.func241.trans (congrArg some (by kernel_rfl))
 f152 := Tryz.func265.trans (congrArg some (by kernel_rfl))
 f160 := Tryz.func169.trans (congrArg some (by kernel_rfl))
 f197 := Tryz.func240.trans (congrArg some (by kernel_rfl))
 f217 := Tryz.func243.trans (congrArg some (by kernel_rfl))
 f224 := Tryz.func245.trans (congrArg some (by kernel_rfl))
 f225 := Tryz.func244.trans (congrArg some (by kernel_rfl))
 f227 := Tryz.func212.trans (congrArg some (by kernel_rfl))
 f228 := Tryz.func239.trans (congrArg some (by kernel_rfl))
 f231 := Tryz.func210.trans (congrArg some (by kernel_rfl))
 f232 := Tryz.func211.trans (congrArg some (by kernel_rfl))
 f233 := Tryz.func213.trans (congrArg some (by kernel_rfl))
 f234 := Tryz.func214.trans (congrArg some (by kernel_rfl))
 f235 := Tryz.func215.trans (congrArg some (by kernel_rfl))
 f236 := Tryz.func216.trans (congrArg some (by kernel_rfl))
 f260 := Tryz.func264.trans (congrArg some (by kernel_rfl))
 f266 := Tryz.func267.trans (congrArg some (by kernel_rfl))
 f271 := Tryz.func242.trans (congrArg some (by kernel_rfl))
 t0 := Tryz.underlying0
 a0 := Tryz.isAgg0
 z0 := Tryz.sizeOf0
 v0 := Tryz.zeroValue0
 t3 := Tryz.underlying3
 a3 := Tryz.isAgg3
 z3 := Tryz.sizeOf3
 v3 := Tryz.zeroValue3
 t4 := Tryz.underlying4
 a4 := Tryz.isAgg4
 z4 := Tryz.sizeOf4
 v4 := Tryz.zeroValue4
 t5 := Tryz.underlying5
 a5 := Tryz.isAgg5
 z5 := Tryz.sizeOf5
 v5 := Tryz.zeroValue5
 t9 := Tryz.underlying9
 a9 := Tryz.isAgg9
 z9 := Tryz.sizeOf9
 v9 := Tryz.zeroValue9
 t21 := Tryz.underlying21
 a21 := Tryz.isAgg21
 z21 := Tryz.sizeOf21
 v21 := Tryz.zeroValue21
 t46 := Tryz.underlying247
 a46 := Tryz.isAgg247
 z46 := Tryz.sizeOf247
 v46 := Tryz.zeroValue247
 t105 := Tryz.underlying294
 a105 := Tryz.isAgg294
 z105 := Tryz.sizeOf294
 v105 := Tryz.zeroValue294
 t116 := Tryz.underlying273
 a116 := Tryz.isAgg273
 z116 := Tryz.sizeOf273
 t117 := Tryz.underlying274
 a117 := Tryz.isAgg274
 z117 := Tryz.sizeOf274
 v117 := Tryz.zeroValue274
 t119 := Tryz.underlying327
 a119 := Tryz.isAgg327
 z119 := Tryz.sizeOf327
 t124 := Tryz.underlying277
 a124 := Tryz.isAgg277
 z124 := Tryz.sizeOf277
 v124 := Tryz.zeroValue277
 t138 := Tryz.underlying329
 a138 := Tryz.isAgg329
 z138 := Tryz.sizeOf329
 v138 := Tryz.zeroValue329
 t139 := Tryz.underlying330
 a139 := Tryz.isAgg330
 z139 := Tryz.sizeOf330
 v139 := Tryz.zeroValue330
 g3 := by kernel_rfl
 g4 := by kernel_rfl }
open Go.RowKit in
def Tryz.afh : Go.Shelf.Ren := ⟨fun | 134 => 186 | 129 => 223 | n => n, fun | 53 => 138 | 3 => 3 | 4 => 4 | 46 => 247 | 5 => 5 | 9 => 9 | n => n, fun | n => n⟩
theorem Tryz.amf : Go.Proofs.Lays.n134 Tryz.prog Tryz.afh := {
 mixed := by kernel_rfl
 f129 := Tryz.func223.trans (congrArg some (by kernel_rfl))
 f134 := Tryz.func186.trans (congrArg some (by kernel_rfl))
 t3 := Tryz.underlying3
 a3 := Tryz.isAgg3
 z3 := Tryz.sizeOf3
 v3 := Tryz.zeroValue3
 t4 := Tryz.underlying4
 a4 := Tryz.isAgg4
 z4 := Tryz.sizeOf4
 v4 := Tryz.zeroValue4
 t5 := Tryz.underlying5
 a5 := Tryz.isAgg5
 z5 := Tryz.sizeOf5
 v5 := Tryz.zeroValue5
 t9 := Tryz.underlying9
 a9 := Tryz.isAgg9
 z9 := Tryz.sizeOf9
 v9 := Tryz.zeroValue9
 t46 := Tryz.underlying247
 a46 := Tryz.isAgg247
 z46 := Tryz.sizeOf247
 v46 := Tryz.zeroValue247
 t53 := Tryz.underlying138
 a53 := Tryz.isAgg138
 z53 := Tryz.sizeOf138
 v53 := Tryz.zeroValue138 }
theorem Tryz.bits_LeadingZeros64 (x : Int) (w : World) (h0 : 0 ≤ x) (h1 : x ≤ 18446744073709551615) :
  Calls Tryz.prog 186 #[.int .u64 x] w fun e w' => e = .returned (.int .i64 (64 - (Lib.bitLen x.toNat : Int))) ∧ w' = w := Any.bits_LeadingZeros64 Tryz.amf x w h0 h1
open Go.RowKit in
open Go.RowKit in
def Tryz.afg : Go.Shelf.Ren := ⟨fun | 103 => 168 | 210 => 209 | 206 => 236 | n => n, fun | 9 => 9 | 4 => 4 | 24 => 224 | 3 => 3 | n => n, fun | n => n⟩
theorem Tryz.ame : Go.Proofs.Lays.n103 Tryz.prog Tryz.afg := {
 mixed := by kernel_rfl
 f103 := Tryz.func168.trans (congrArg some (by kernel_rfl))
 f206 := Tryz.func236.trans (congrArg some (by kernel_rfl))
 f210 := Tryz.func209.trans (congrArg some (by kernel_rfl))
 t3 := Tryz.underlying3
 a3 := Tryz.isAgg3
 z3 := Tryz.sizeOf3
 v3 := Tryz.zeroValue3
 t4 := Tryz.underlying4
 a4 := Tryz.isAgg4
 z4 := Tryz.sizeOf4
 v4 := Tryz.zeroValue4
 t9 := Tryz.underlying9
 a9 := Tryz.isAgg9
 z9 := Tryz.sizeOf9
 v9 := Tryz.zeroValue9
 t24 := Tryz.underlying224
 a24 := Tryz.isAgg224
 z24 := Tryz.sizeOf224
 v24 := Tryz.zeroValue224 }
open Go.RowKit in
theorem Tryz.strings_CutPrefix (s p : ByteArray) (w : World) :
  Calls Tryz.prog 168 #[.string s, .string p] w fun e w' => e = .returned (.tuple #[.string ⟨(Lib.trimPrefix s.data.toList p.data.toList).toArray⟩, .bool (Lib.hasPrefix s.data.toList p.data.toList)]) ∧ w' = w := Any.strings_CutPrefix Tryz.ame s p w
open Go.RowKit in
open Go.RowKit in
open Go.RowKit in
open Go.RowKit in
open Go.RowKit in
open Go.RowKit in
open Go.RowKit in
open Go.Lib in
open Go.Lib in
def Tryz.afm : Go.Shelf.Ren := ⟨fun | 283 => 231 | n => n, fun | 3 => 3 | 9 => 9 | 4 => 4 | n => n, fun | n => n⟩
theorem Tryz.lays283 : Go.Proofs.Lays.n283 Tryz.prog Tryz.afm := {
 mixed := by kernel_rfl
 f283 := Tryz.func231.trans (congrArg some (by kernel_rfl))
 t3 := Tryz.underlying3
 a3 := Tryz.isAgg3
 z3 := Tryz.sizeOf3
 v3 := Tryz.zeroValue3
 t4 := Tryz.underlying4
 a4 := Tryz.isAgg4
 z4 := Tryz.sizeOf4
 v4 := Tryz.zeroValue4
 t9 := Tryz.underlying9
 a9 := Tryz.isAgg9
 z9 := Tryz.sizeOf9
 v9 := Tryz.zeroValue9 }
open Go.Lib in
theorem Tryz.internal_strconv_small (i : Nat) (h : i < 100) (w : World) :
  Calls Tryz.prog 231 #[.int .i64 i] w fun e w' => e = .returned (.string ⟨(Lib.decDigits i).toArray⟩) ∧ w' = w := Any.internal_strconv_small Tryz.lays283 i h w
def Tryz.adq : Go.Shelf.Ren := ⟨fun | 284 => 232 | 129 => 223 | 317 => 258 | 318 => 259 | n => n, fun | 53 => 138 | 3 => 3 | 212 => 312 | 0 => 0 | 4 => 4 | 46 => 247 | 5 => 5 | 9 => 9 | n => n, fun | 17 => 5 | n => n⟩
theorem Tryz.laysM284 : Go.Proofs.LaysM.n284 Tryz.prog Tryz.adq := {
 mixed := by kernel_rfl
 f129 := Tryz.func223.trans (congrArg some (by kernel_rfl))
 f284 := Tryz.func232.trans (congrArg some (by kernel_rfl))
 f317 := Tryz.func258.trans (congrArg some (by kernel_rfl))
 f318 := Tryz.func259.trans (congrArg some (by kernel_rfl))
 t0 := Tryz.underlying0
 a0 := Tryz.isAgg0
 z0 := Tryz.sizeOf0
 v0 := Tryz.zeroValue0
 t3 := Tryz.underlying3
 a3 := Tryz.isAgg3
 z3 := Tryz.sizeOf3
 v3 := Tryz.zeroValue3
 t4 := Tryz.underlying4
 a4 := Tryz.isAgg4
 z4 := Tryz.sizeOf4
 v4 := Tryz.zeroValue4
 t5 := Tryz.underlying5
 a5 := Tryz.isAgg5
 z5 := Tryz.sizeOf5
 v5 := Tryz.zeroValue5
 t9 := Tryz.underlying9
 a9 := Tryz.isAgg9
 z9 := Tryz.sizeOf9
 v9 := Tryz.zeroValue9
 t46 := Tryz.underlying247
 a46 := Tryz.isAgg247
 z46 := Tryz.sizeOf247
 v46 := Tryz.zeroValue247
 t53 := Tryz.underlying138
 a53 := Tryz.isAgg138
 z53 := Tryz.sizeOf138
 v53 := Tryz.zeroValue138
 t212 := Tryz.underlying312
 a212 := Tryz.isAgg312
 z212 := Tryz.sizeOf312
 v212 := Tryz.zeroValue312
 g17 := by kernel_rfl
 i0 := by kernel_rfl
 i3 := by kernel_rfl
 i4 := by kernel_rfl
 i5 := by kernel_rfl
 i9 := by kernel_rfl
 i46 := by kernel_rfl
 i53 := by kernel_rfl
 i212 := by kernel_rfl
 m17 := by kernel_rfl }
open Go.Lib in
theorem Tryz.internal_strconv_numDigits (u : Nat) (h1 : 1 ≤ u) (h2 : u < 18446744073709551616) (w : World) (htab : Lib.TabIs Tryz.prog w "internal/strconv.uint64pow10" .u64 Lib.pow10Tab) :
  Calls Tryz.prog 232 #[.int .u64 u] w fun e w' => e = .returned (.int .i64 (Lib.nDigits u)) ∧ w' = w := Any.internal_strconv_numDigits Tryz.laysM284 u h1 h2 w htab
def Tryz.afn : Go.Shelf.Ren := ⟨fun | 285 => 233 | n => n, fun | 37 => 266 | 53 => 138 | 3 => 3 | 4 => 4 | 51 => 289 | 9 => 9 | 5 => 5 | 0 => 0 | n => n, fun | n => n⟩
theorem Tryz.lays285 : Go.Proofs.Lays.n285 Tryz.prog Tryz.afn := {
 mixed := by kernel_rfl
 f285 := Tryz.func233.trans (congrArg some (by kernel_rfl))
 t0 := Tryz.underlying0
 a0 := Tryz.isAgg0
 z0 := Tryz.sizeOf0
 v0 := Tryz.zeroValue0
 t3 := Tryz.underlying3
 a3 := Tryz.isAgg3
 z3 := Tryz.sizeOf3
 v3 := Tryz.zeroValue3
 t4 := Tryz.underlying4
 a4 := Tryz.isAgg4
 z4 := Tryz.sizeOf4
 v4 := Tryz.zeroValue4
 t5 := Tryz.underlying5
 a5 := Tryz.isAgg5
 z5 := Tryz.sizeOf5
 v5 := Tryz.zeroValue5
 t9 := Tryz.underlying9
 a9 := Tryz.isAgg9
 z9 := Tryz.sizeOf9
 v9 := Tryz.zeroValue9
 t37 := Tryz.underlying266
 a37 := Tryz.isAgg266
 z37 := Tryz.sizeOf266
 v37 := Tryz.zeroValue266
 t51 := Tryz.underlying289
 a51 := Tryz.isAgg289
 z51 := Tryz.sizeOf289
 v51 := Tryz.zeroValue289
 t53 := Tryz.underlying138
 a53 := Tryz.isAgg138
 z53 := Tryz.sizeOf138
 v53 := Tryz.zeroValue138 }
open Go.RowKit Go.Sort Go.Lib in
theorem Tryz.internal_strconv_formatBase10 (blk off cap : Nat) (u : Nat) (d : Array UInt8) (w : World) (hH : Holds (fun (b : UInt8) => Value.int .u8 (b.toNat : Int)) w blk off d) (hu : u < 10 ^ d.size) (hu64 : u < 18446744073709551616) (hsz : d.size < 4611686018427387904) :
  Calls Tryz.prog 233 #[.slice (some ⟨blk, off, none⟩) d.size cap, .int .u64 u] w fun e w' =>
   e = .returned (.tuple #[]) ∧ ∃ (n v' : Nat) (dk : Array UInt8), w' = (putRow (fun (b : UInt8) => Value.int .u8 (b.toNat : Int)) w blk off dk).drewN n ∧ FmtInv d.size u 0 v' dk := Any.internal_strconv_formatBase10 Tryz.lays285 blk off cap u d w hH hu hu64 hsz
open Go.RowKit Go.Sort Go.Lib in
open Go.RowKit Go.Sort Go.Lib in
open Go.RowKit Go.Sort Go.Lib in
open Go.RowKit Go.Sort Go.Lib in
def Tryz.adp : Go.Shelf.Ren := ⟨fun | 171 => 201 | 243 => 230 | 246 => 257 | 283 => 231 | 284 => 232 | 285 => 233 | 286 => 234 | 129 => 223 | 317 => 258 | 318 => 259 | 319 => 260 | 320 => 261 | 337 => 273 | 338 => 222 | n => n, fun | 3 => 3 | 9 => 9 | 2 => 2 | 4 => 4 | 171 => 285 | 0 => 0 | 53 => 138 | 37 => 266 | 5 => 5 | 173 => 287 | 212 => 312 | 51 => 289 | 20 => 20 | 213 => 313 | 46 => 247 | 232 => 339 | 233 => 304 | n => n, fun | 17 => 5 | 18 => 10 | 19 => 4 | n => n⟩
theorem Tryz.laysM171 : Go.Proofs.LaysM.n171 Tryz.prog Tryz.adp := {
 mixed := by kernel_rfl
 f129 := Tryz.func223.trans (congrArg some (by kernel_rfl))
 f171 := Tryz.func201.trans (congrArg some (by kernel_rfl))
 f243 := Tryz.func230.trans (congrArg some (by kernel_rfl))
 f246 := Tryz.func257.trans (congrArg some (by kernel_rfl))
 f283 := Tryz.func231.trans (congrArg some (by kernel_rfl))
 f284 := Tryz.func232.trans (congrArg some (by kernel_rfl))
 f285 := Tryz.func233.trans (congrArg some (by kernel_rfl))
 f286 := Tryz.func234.trans (congrArg some (by kernel_rfl))
 f317 := Tryz.func258.trans (congrArg some (by kernel_rfl))
 f318 := Tryz.func259.trans (congrArg some (by kernel_rfl))
 f319 := Tryz.func260.trans (congrArg some (by kernel_rfl))
 f320 := Tryz.func261.trans (congrArg some (by kernel_rfl))
 f337 := Tryz.func273.trans (congrArg some (by kernel_rfl))
 f338 := Tryz.func222.trans (congrArg some (by kernel_rfl))
 t0 := Tryz.underlying0
 a0 := Tryz.isAgg0
 z0 := Tryz.sizeOf0
 v0 := Tryz.zeroValue0
 t2 := Tryz.underlying2
 a2 := Tryz.isAgg2
 z2 := Tryz.sizeOf2
 v2 := Tryz.zeroValue2
 t3 := Tryz.underlying3
 a3 := Tryz.isAgg3
 z3 := Tryz.sizeOf3
 v3 := Tryz.zeroValue3
 t4 := Tryz.underlying4
 a4 := Tryz.isAgg4
 z4 := Tryz.sizeOf4
 v4 := Tryz.zeroValue4
 t5 := Tryz.underlying5
 a5 := Tryz.isAgg5
 z5 := Tryz.sizeOf5
 v5 := Tryz.zeroValue5
 t9 := Tryz.underlying9
 a9 := Tryz.isAgg9
 z9 := Tryz.sizeOf9
 v9 := Tryz.zeroValue9
 t20 := Tryz.underlying20
 a20 := Tryz.isAgg20
 z20 := Tryz.sizeOf20
 v20 := Tryz.zeroValue20
 t37 := Tryz.underlying266
 a37 := Tryz.isAgg266
 z37 := Tryz.sizeOf266
 v37 := Tryz.zeroValue266
 t46 := Tryz.underlying247
 a46 := Tryz.isAgg247
 z46 := Tryz.sizeOf247
 v46 := Tryz.zeroValue247
 t51 := Tryz.underlying289
 a51 := Tryz.isAgg289
 z51 := Tryz.sizeOf289
 v51 := Tryz.zeroValue289
 t53 := Tryz.underlying138
 a53 := Tryz.isAgg138
 z53 := Tryz.sizeOf138
 v53 := Tryz.zeroValue138
 t171 := Tryz.underlying285
 a171 := Tryz.isAgg285
 z171 := Tryz.sizeOf285
 v171 := Tryz.zeroValue285
 t173 := Tryz.underlying287
 a173 := Tryz.isAgg287
 z173 := Tryz.sizeOf287
 v173 := Tryz.zeroValue287
 t212 := Tryz.underlying312
 a212 := Tryz.isAgg312
 z212 := Tryz.sizeOf312
 v212 := Tryz.zeroValue312
 t213 := Tryz.underlying313
 a213 := Tryz.isAgg313
 z213 := Tryz.sizeOf313
 t232 := Tryz.underlying339
 a232 := Tryz.isAgg339
 z232 := Tryz.sizeOf339
 v232 := Tryz.zeroValue339
 t233 := Tryz.underlying304
 a233 := Tryz.isAgg304
 z233 := Tryz.sizeOf304
 v233 := Tryz.zeroValue304
 g17 := by kernel_rfl
 g18 := by kernel_rfl
 g19 := by kernel_rfl
 i0 := by kernel_rfl
 i2 := by kernel_rfl
 i3 := by kernel_rfl
 i4 := by kernel_rfl
 i5 := by kernel_rfl
 i9 := by kernel_rfl
 i20 := by kernel_rfl
 i37 := by kernel_rfl
 i46 := by kernel_rfl
 i51 := by kernel_rfl
 i53 := by kernel_rfl
 i171 := by kernel_rfl
 i173 := by kernel_rfl
 i212 := by kernel_rfl
 i232 := by kernel_rfl
 i233 := by kernel_rfl
 m17 := by kernel_rfl
 m18 := by kernel_rfl
 m19 := by kernel_rfl }
open Go.RowKit Go.Sort Go.Lib in
theorem Tryz.strconv_Itoa (n : Int) (h0 : -9223372036854775808 ≤ n) (h1 : n ≤ 9223372036854775807) (w : World) (htab : Lib.TabIs Tryz.prog w "internal/strconv.uint64pow10" .u64 Lib.pow10Tab) :
  Calls Tryz.prog 201 #[.int .i64 n] w fun e w' => e = .returned (.string ⟨(Lib.itoa n).toArray⟩) ∧ ∃ k os, w' = grow (w.drewN k) os := Any.strconv_Itoa Tryz.laysM171 n h0 h1 w htab
open Go.RowKit Go.Sort Go.Lib in
open Go.RowKit in
open Go.RowKit in
def Tryz.ads : Go.Shelf.Ren := ⟨fun | 14 => 180 | 16 => 220 | 17 => 221 | 19 => 247 | 20 => 248 | 21 => 249 | 22 => 250 | 23 => 251 | 24 => 252 | 25 => 269 | 27 => 201 | 26 => 270 | 28 => 230 | 29 => 257 | 30 => 231 | 31 => 232 | 32 => 233 | 33 => 234 | 35 => 223 | 34 => 258 | 36 => 259 | 37 => 260 | 38 => 261 | 39 => 273 | 40 => 222 | n => n, fun | 9 => 9 | 3 => 3 | 22 => 138 | 24 => 31 | 25 => 245 | 4 => 4 | 34 => 298 | 5 => 5 | 36 => 247 | 37 => 266 | 0 => 0 | 39 => 301 | 21 => 21 | 44 => 321 | 47 => 292 | 50 => 334 | 48 => 332 | 2 => 2 | 52 => 285 | 55 => 287 | 59 => 312 | 60 => 289 | 20 => 20 | 61 => 313 | 65 => 339 | 66 => 304 | 67 => 59 | n => n, fun | 0 => 6 | 1 => 7 | 2 => 5 | 3 => 10 | 4 => 4 | n => n⟩
theorem Tryz.laysPu14 : Go.Proofs.LaysPu.n14 Tryz.prog Tryz.ads := {
 mixed := by kernel_rfl
 f14 := Tryz.func180.trans (congrArg some (by kernel_rfl))
 f16 := Tryz.func220.trans (congrArg some (by kernel_rfl))
 f17 := Tryz.func221.trans (congrArg some (by kernel_rfl))
 f19 := Tryz.func247.trans (congrArg some (by kernel_rfl))
 f20 := Tryz.func248.trans (congrArg some (by kernel_rfl))
 f21 := Tryz.func249.trans (congrArg some (by kernel_rfl))
 f22 := Tryz.func250.trans (congrArg some (by kernel_rfl))
 f23 := Tryz.func251.trans (congrArg some (by kernel_rfl))
 f24 := Tryz.func252.trans (congrArg some (by kernel_rfl))
 f25 := Tryz.func269.trans (congrArg some (by kernel_rfl))
 f26 := Tryz.func270.trans (congrArg some (by kernel_rfl))
 f27 := Tryz.func201.trans (congrArg some (by kernel_rfl))
 f28 := Tryz.func230.trans (congrArg some (by kernel_rfl))
 f29 := Tryz.func257.trans (congrArg some (by kernel_rfl))
 f30 := Tryz.func231.trans (congrArg some (by kernel_rfl))
 f31 := Tryz.func232.trans (congrArg some (by kernel_rfl))
 f32 := Tryz.func233.trans (congrArg some (by kernel_rfl))
 f33 := Tryz.func234.trans (congrArg some (by kernel_rfl))
 f34 := Tryz.func258.trans (congrArg some (by kernel_rfl))
 f35 := Tryz.func223.trans (congrArg some (by kernel_rfl))
 f36 := Tryz.func259.trans (congrArg some (by kernel_rfl))
 f37 := Tryz.func260.trans (congrArg some (by kernel_rfl))
 f38 := Tryz.func261.trans (congrArg some (by kernel_rfl))
 f39 := Tryz.func273.trans (congrArg some (by kernel_rfl))
 f40 := Tryz.func222.trans (congrArg some (by kernel_rfl))
 t0 := Tryz.underlying0
 a0 := Tryz.isAgg0
 z0 := Tryz.sizeOf0
 v0 := Tryz.zeroValue0
 i0 := by kernel_rfl
 t2 := Tryz.underlying2
 a2 := Tryz.isAgg2
 z2 := Tryz.sizeOf2
 v2 := Tryz.zeroValue2
 i2 := by kernel_rfl
 t3 := Tryz.underlying3
 a3 := Tryz.isAgg3
 z3 := Tryz.sizeOf3
 v3 := Tryz.zeroValue3
 i3 := by kernel_rfl
 t4 := Tryz.underlying4
 a4 := Tryz.isAgg4
 z4 := Tryz.sizeOf4
 v4 := Tryz.zeroValue4
 i4 := by kernel_rfl
 t5 := Tryz.underlying5
 a5 := Tryz.isAgg5
 z5 := Tryz.sizeOf5
 v5 := Tryz.zeroValue5
 i5 := by kernel_rfl
 t9 := Tryz.underlying9
 a9 := Tryz.isAgg9
 z9 := Tryz.sizeOf9
 v9 := Tryz.zeroValue9
 i9 := by kernel_rfl
 t20 := Tryz.underlying20
 a20 := Tryz.isAgg20
 z20 := Tryz.sizeOf20
 v20 := Tryz.zeroValue20
 i20 := by kernel_rfl
 t21 := Tryz.underlying21
 a21 := Tryz.isAgg21
 z21 := Tryz.sizeOf21
 v21 := Tryz.zeroValue21
 i21 := by kernel_rfl
 t22 := Tryz.underlying138
 a22 := Tryz.isAgg138
 z22 := Tryz.sizeOf138
 v22 := Tryz.zeroValue138
 i22 := by kernel_rfl
 t24 := Tryz.underlying31
 a24 := Tryz.isAgg31
 z24 := Tryz.sizeOf31
 v24 := Tryz.zeroValue31
 i24 := by kernel_rfl
 t25 := Tryz.underlying245
 a25 := Tryz.isAgg245
 z25 := Tryz.sizeOf245
 v25 := Tryz.zeroValue245
 i25 := by kernel_rfl
 t34 := Tryz.underlying298
 a34 := Tryz.isAgg298
 z34 := Tryz.sizeOf298
 v34 := Tryz.zeroValue298
 i34 := by kernel_rfl
 c34 := by kernel_rfl
 t36 := Tryz.underlying247
 a36 := Tryz.isAgg247
 z36 := Tryz.sizeOf247
 v36 := Tryz.zeroValue247
 i36 := by kernel_rfl
 t37 := Tryz.underlying266
 a37 := Tryz.isAgg266
 z37 := Tryz.sizeOf266
 v37 := Tryz.zeroValue266
 i37 := by kernel_rfl
 t39 := Tryz.underlying301
 a39 := Tryz.isAgg301
 z39 := Tryz.sizeOf301
 v39 := Tryz.zeroValue301
 i39 := by kernel_rfl
 t44 := Tryz.underlying321
 a44 := Tryz.isAgg321
 z44 := Tryz.sizeOf321
 v44 := Tryz.zeroValue321
 i44 := by kernel_rfl
 t47 := Tryz.underlying292
 a47 := Tryz.isAgg292
 z47 := Tryz.sizeOf292
 v47 := Tryz.zeroValue292
 i47 := by kernel_rfl
 t48 := Tryz.underlying332
 a48 := Tryz.isAgg332
 z48 := Tryz.sizeOf332
 v48 := Tryz.zeroValue332
 i48 := by kernel_rfl
 t50 := Tryz.underlying334
 a50 := Tryz.isAgg334
 z50 := Tryz.sizeOf334
 v50 := Tryz.zeroValue334
 i50 := by kernel_rfl
 t52 := Tryz.underlying285
 a52 := Tryz.isAgg285
 z52 := Tryz.sizeOf285
 v52 := Tryz.zeroValue285
 i52 := by kernel_rfl
 t55 := Tryz.underlying287
 a55 := Tryz.isAgg287
 z55 := Tryz.sizeOf287
 v55 := Tryz.zeroValue287
 i55 := by kernel_rfl
 t59 := Tryz.underlying312
 a59 := Tryz.isAgg312
 z59 := Tryz.sizeOf312
 v59 := Tryz.zeroValue312
 i59 := by kernel_rfl
 t60 := Tryz.underlying289
 a60 := Tryz.isAgg289
 z60 := Tryz.sizeOf289
 v60 := Tryz.zeroValue289
 i60 := by kernel_rfl
 t61 := Tryz.underlying313
 a61 := Tryz.isAgg313
 z61 := Tryz.sizeOf313
 t65 := Tryz.underlying339
 a65 := Tryz.isAgg339
 z65 := Tryz.sizeOf339
 v65 := Tryz.zeroValue339
 i65 := by kernel_rfl
 t66 := Tryz.underlying304
 a66 := Tryz.isAgg304
 z66 := Tryz.sizeOf304
 v66 := Tryz.zeroValue304
 i66 := by kernel_rfl
 t67 := Tryz.underlying59
 a67 := Tryz.isAgg59
 z67 := Tryz.sizeOf59
 v67 := Tryz.zeroValue59
 i67 := by kernel_rfl
 g0 := by kernel_rfl
 m0 := by kernel_rfl
 g1 := by kernel_rfl
 m1 := by kernel_rfl
 g2 := by kernel_rfl
 m2 := by kernel_rfl
 g3 := by kernel_rfl
 m3 := by kernel_rfl
 g4 := by kernel_rfl
 m4 := by kernel_rfl }
open Go.RowKit in
open Go.RowKit in
open Go.RowKit in
open Go.RowKit in
theorem Tryz.strconv_ParseUint_10_at64_ok (s : ByteArray) (hmax : s.size ≤ 9223372036854775806) (u : Nat) (h : Lib.parseUintB 64 s.data.toList = .ok u) (w : World) :
  Calls Tryz.prog 180 #[.string s, .int .i64 10, .int .i64 64] w fun e w' => e = .returned (.tuple #[.int .u64 u, .nilIface]) ∧ (w' = w ∨ w' = Lib.bytesWorld w 5 s) := Any.strconv_ParseUint_10_at64_ok Tryz.laysPu14 s hmax u h w
open Go.RowKit in
open Go.RowKit in
open Go.RowKit in
open Go.RowKit in
open Go.RowKit in
open Go.RowKit in
open Go.RowKit in
open Go.RowKit in
open Go.RowKit in
open Go.RowKit in
open Go.RowKit in
open Go.RowKit Go.Lib in
open Go.RowKit Go.Lib in
open Go.RowKit Go.Lib in
open Go.RowKit Go.Lib in
open Go.RowKit Go.Lib in
open Go.RowKit Go.Lib in
open Go.RowKit Go.Lib in
def Tryz.afi : Go.Shelf.Ren := ⟨fun | 145 => 139 | 220 => 179 | 219 => 219 | 217 => 243 | 225 => 244 | 224 => 245 | 267 => 246 | 266 => 267 | 314 => 268 | n => n, fun | 9 => 9 | 4 => 4 | 59 => 188 | 3 => 3 | 5 => 5 | 46 => 247 | 146 => 290 | 51 => 289 | n => n, fun | 1 => 3 | n => n⟩
theorem Tryz.lays145 : Go.Proofs.Lays.n145 Tryz.prog Tryz.afi := {
 mixed := by kernel_rfl
 f145 := Tryz.func139.trans (congrArg some (by kernel_rfl))
 f217 := Tryz.func243.trans (congrArg some (by kernel_rfl))
 f219 := Tryz.func219.trans (congrArg some (by kernel_rfl))
 f220 := Tryz.func179.trans (congrArg some (by kernel_rfl))
 f224 := Tryz.func245.trans (congrArg some (by kernel_rfl))
 f225 := Tryz.func244.trans (congrArg some (by kernel_rfl))
 f266 := Tryz.func267.trans (congrArg some (by kernel_rfl))
 f267 := Tryz.func246.trans (congrArg some (by kernel_rfl))
 f314 := Tryz.func268.trans (congrArg some (by kernel_rfl))
 t3 := Tryz.underlying3
 a3 := Tryz.isAgg3
 z3 := Tryz.sizeOf3
 v3 := Tryz.zeroValue3
 t4 := Tryz.underlying4
 a4 := Tryz.isAgg4
 z4 := Tryz.sizeOf4
 v4 := Tryz.zeroValue4
 t5 := Tryz.underlying5
 a5 := Tryz.isAgg5
 z5 := Tryz.sizeOf5
 v5 := Tryz.zeroValue5
 t9 := Tryz.underlying9
 a9 := Tryz.isAgg9
 z9 := Tryz.sizeOf9
 v9 := Tryz.zeroValue9
 t46 := Tryz.underlying247
 a46 := Tryz.isAgg247
 z46 := Tryz.sizeOf247
 v46 := Tryz.zeroValue247
 t51 := Tryz.underlying289
 a51 := Tryz.isAgg289
 z51 := Tryz.sizeOf289
 v51 := Tryz.zeroValue289
 t59 := Tryz.underlying188
 a59 := Tryz.isAgg188
 z59 := Tryz.sizeOf188
 v59 := Tryz.zeroValue188
 t146 := Tryz.underlying290
 a146 := Tryz.isAgg290
 z146 := Tryz.sizeOf290
 v146 := Tryz.zeroValue290
 g1 := by kernel_rfl }
open Go.RowKit Go.Lib in
theorem Tryz.strings_Cut (s sep : ByteArray) (m : Int) (w : World) (hs : s.size < 4294967281) (hm : w.cell? ⟨3, 0, none⟩ = some (.int .i64 m)) :
  Calls Tryz.prog 139 #[.string s, .string sep] w fun e w' => e = .returned (.tuple #[.string ⟨(Lib.cut s.data.toList sep.data.toList).1.toArray⟩, .string ⟨(Lib.cut s.data.toList sep.data.toList).2.1.toArray⟩, .bool (Lib.cut s.data.toList sep.data.toList).2.2]) ∧ ∃ n, w' = w.drewN n := Any.strings_Cut Tryz.lays145 s sep m w hs hm
open Go.RowKit Go.Lib in
open Go.RowKit Go.Lib in
open Go.RowKit Go.Lib in
open Go.RowKit Go.Lib in
open Go.RowKit Go.Lib in
open Go.RowKit Go.Lib in
open Go.RowKit Go.Lib in
open Go.RowKit Go.Lib in
open Go.RowKit Go.Lib in
open Go.RowKit Go.Lib in
def Tryz.afl : Go.Shelf.Ren := ⟨fun | 264 => 144 | n => n, fun | 53 => 138 | 46 => 247 | n => n, fun | n => n⟩
theorem Tryz.lays264 : Go.Proofs.Lays.n264 Tryz.prog Tryz.afl := {
 mixed := by kernel_rfl
 f264 := Tryz.func144.trans (congrArg some (by kernel_rfl))
 t46 := Tryz.underlying247
 a46 := Tryz.isAgg247
 z46 := Tryz.sizeOf247
 v46 := Tryz.zeroValue247
 t53 := Tryz.underlying138
 a53 := Tryz.isAgg138
 z53 := Tryz.sizeOf138
 v53 := Tryz.zeroValue138 }
open Go.RowKit Go.Lib in
theorem Tryz.bits_Mul64 (x y : Nat) (hx : x < 18446744073709551616) (hy : y < 18446744073709551616) (w : World) :
  Calls Tryz.prog 144 #[.int .u64 x, .int .u64 y] w fun e w' => e = .returned (.tuple #[.int .u64 ((x * y / 18446744073709551616 : Nat) : Int), .int .u64 ((x * y % 18446744073709551616 : Nat) : Int)]) ∧ w' = w := Any.bits_Mul64 Tryz.lays264 x y hx hy w
open Go.RowKit Go.Lib in
def Tryz.lays105_ren : Go.Shelf.Ren := ⟨fun | 105 => 165 | 212 => 203 | 99 => 204 | 165 => 205 | 166 => 206 | 170 => 207 | 169 => 208 | 263 => 235 | 264 => 144 | 206 => 236 | 240 => 237 | 241 => 238 | 276 => 262 | 277 => 263 | n => n, fun | 9 => 9 | 3 => 3 | 4 => 4 | 20 => 20 | 0 => 0 | 46 => 247 | 109 => 262 | 5 => 5 | 72 => 268 | 76 => 41 | 51 => 289 | 146 => 290 | 53 => 138 | 148 => 195 | 70 => 265 | 37 => 266 | 75 => 31 | 127 => 292 | 164 => 168 | 80 => 59 | n => n, fun | n => n⟩
theorem Tryz.lays105 : Go.Proofs.Lays.n105 Tryz.prog Tryz.lays105_ren := {
 mixed := by kernel_rfl
 f99 := Tryz.func204.trans (congrArg some (by kernel_rfl))
 f105 := Tryz.func165.trans (congrArg some (by kernel_rfl))
 f165 := Tryz.func205.trans (congrArg some (by kernel_rfl))
 f166 := Tryz.func206.trans (congrArg some (by kernel_rfl))
 f169 := Tryz.func208.trans (congrArg some (by kernel_rfl))
 f170 := Tryz.func207.trans (congrArg some (by kernel_rfl))
 f206 := Tryz.func236.trans (congrArg some (by kernel_rfl))
 f212 := Tryz.func203.trans (congrArg some (by kernel_rfl))
 f240 := Tryz.func237.trans (congrArg some (by kernel_rfl))
 f241 := Tryz.func238.trans (congrArg some (by kernel_rfl))
 f263 := Tryz.func235.trans (congrArg some (by kernel_rfl))
 f264 := Tryz.func144.trans (congrArg some (by kernel_rfl))
 f276 := Tryz.func262.trans (congrArg some (by kernel_rfl))
 f277 := Tryz.func263.trans (congrArg some (by kernel_rfl))
 t0 := Tryz.underlying0
 a0 := Tryz.isAgg0
 z0 := Tryz.sizeOf0
 v0 := Tryz.zeroValue0
 t3 := Tryz.underlying3
 a3 := Tryz.isAgg3
 z3 := Tryz.sizeOf3
 v3 := Tryz.zeroValue3
 t4 := Tryz.underlying4
 a4 := Tryz.isAgg4
 z4 := Tryz.sizeOf4
 v4 := Tryz.zeroValue4
 t5 := Tryz.underlying5
 a5 := Tryz.isAgg5
 z5 := Tryz.sizeOf5
 v5 := Tryz.zeroValue5
 t9 := Tryz.underlying9
 a9 := Tryz.isAgg9
 z9 := Tryz.sizeOf9
 v9 := Tryz.zeroValue9
 t20 := Tryz.underlying20
 a20 := Tryz.isAgg20
 z20 := Tryz.sizeOf20
 v20 := Tryz.zeroValue20
 t37 := Tryz.underlying266
 a37 := Tryz.isAgg266
 z37 := Tryz.sizeOf266
 v37 := Tryz.zeroValue266
 t46 := Tryz.underlying247
 a46 := Tryz.isAgg247
 z46 := Tryz.sizeOf247
 v46 := Tryz.zeroValue247
 t51 := Tryz.underlying289
 a51 := Tryz.isAgg289
 z51 := Tryz.sizeOf289
 v51 := Tryz.zeroValue289
 t53 := Tryz.underlying138
 a53 := Tryz.isAgg138
 z53 := Tryz.sizeOf138
 v53 := Tryz.zeroValue138
 t70 := Tryz.underlying265
 a70 := Tryz.isAgg265
 z70 := Tryz.sizeOf265
 v70 := Tryz.zeroValue265
 t72 := Tryz.underlying268
 a72 := Tryz.isAgg268
 z72 := Tryz.sizeOf268
 v72 := Tryz.zeroValue268
 t75 := Tryz.underlying31
 a75 := Tryz.isAgg31
 z75 := Tryz.sizeOf31
 v75 := Tryz.zeroValue31
 t76 := Tryz.underlying41
 a76 := Tryz.isAgg41
 z76 := Tryz.sizeOf41
 v76 := Tryz.zeroValue41
 t109 := Tryz.underlying262
 a109 := Tryz.isAgg262
 z109 := Tryz.sizeOf262
 v109 := Tryz.zeroValue262
 t127 := Tryz.underlying292
 a127 := Tryz.isAgg292
 z127 := Tryz.sizeOf292
 v127 := Tryz.zeroValue292
 t146 := Tryz.underlying290
 a146 := Tryz.isAgg290
 z146 := Tryz.sizeOf290
 v146 := Tryz.zeroValue290
 t148 := Tryz.underlying195
 a148 := Tryz.isAgg195
 z148 := Tryz.sizeOf195
 v148 := Tryz.zeroValue195
 t164 := Tryz.underlying168
 a164 := Tryz.isAgg168
 z164 := Tryz.sizeOf168
 v164 := Tryz.zeroValue168 }
theorem Tryz.Builder_Extra_105 : Builder.Extra Tryz.prog Tryz.lays105_ren := {
 sizeBuilder := by kernel_rfl
 liesBuilder := by kernel_rfl
 t5 := Tryz.underlying5
 a5 := Tryz.isAgg5
 z5 := Tryz.sizeOf5
 v5 := Tryz.zeroValue5
 infoByte := by kernel_rfl
 cellsByte := by kernel_rfl
 sizeByte := by kernel_rfl
 neB5 := by decide }
open Go.RowKit Go.Lib in
open Go.RowKit Go.Lib in
open Go.RowKit Go.Lib in
open Go.RowKit Go.Lib in
open Go.RowKit Go.Lib in
open Go.RowKit Go.Lib in
open Go.RowKit Go.Lib in
theorem Tryz.strings_Repeat (s : ByteArray) (c : Nat) (w : World) (hc : c ≤ 9223372036854775807) (hlen : s.size * c ≤ 140737488355328) :
  Calls Tryz.prog 165 #[.string s, .int .i64 c] w fun e w' => e = .returned (.string ⟨(Lib.repeatL s.data.toList c).toArray⟩) ∧ Below w.heap.size w w' := Any.strings_Repeat Tryz.lays105 Tryz.Builder_Extra_105 s c w hc hlen
open Go.RowKit Go.Lib in
open Go.RowKit Go.Lib in
open Go.RowKit Go.Lib in
def Tryz.lays112_ren : Go.Shelf.Ren := ⟨fun | 112 => 36 | n => n, fun | 28 => 40 | 3 => 3 | 4 => 4 | 0 => 0 | n => n, fun | n => n⟩
theorem Tryz.lays112 : Go.Proofs.Lays.n112 Tryz.prog Tryz.lays112_ren := {
 mixed := by kernel_rfl
 f112 := Tryz.func36.trans (congrArg some (by kernel_rfl))
 t0 := Tryz.underlying0
 a0 := Tryz.isAgg0
 z0 := Tryz.sizeOf0
 v0 := Tryz.zeroValue0
 t3 := Tryz.underlying3
 a3 := Tryz.isAgg3
 z3 := Tryz.sizeOf3
 v3 := Tryz.zeroValue3
 t4 := Tryz.underlying4
 a4 := Tryz.isAgg4
 z4 := Tryz.sizeOf4
 v4 := Tryz.zeroValue4
 t28 := Tryz.underlying40
 a28 := Tryz.isAgg40
 z28 := Tryz.sizeOf40
 v28 := Tryz.zeroValue40 }
open Go.RowKit Go.Lib Go.Sort in
open Go.RowKit Go.Lib Go.Sort in
theorem Tryz.slices_Reverse_int (blk off cap : Nat) (zs : List Int) (w : World) (hH : Holds (Value.int .i64) w blk off zs.toArray) (hsz : zs.length ≤ 9223372036854775807) :
  Calls Tryz.prog 36 #[.slice (some ⟨blk, off, none⟩) zs.length cap] w fun e w' => e = .returned (.tuple #[]) ∧ ∃ n, w' = putRow (Value.int .i64) (Sort.ahead w n) blk off zs.reverse.toArray := Any.slices_Reverse_int Tryz.lays112 blk off cap zs w hH hsz
open Go.RowKit Go.Lib Go.Sort in
def Tryz.abK : Go.Shelf.Ren := ⟨fun | 17 => 166 | n => n, fun | 24 => 216 | 9 => 9 | 3 => 3 | 4 => 4 | 0 => 0 | n => n, fun | n => n⟩
theorem Tryz.laysNm217 : Go.Proofs.Lays2.n17 Tryz.prog Tryz.abK := {
 mixed := by kernel_rfl
 f17 := Tryz.func166.trans (congrArg some (by kernel_rfl))
 t0 := Tryz.underlying0
 a0 := Tryz.isAgg0
 z0 := Tryz.sizeOf0
 v0 := Tryz.zeroValue0
 t3 := Tryz.underlying3
 a3 := Tryz.isAgg3
 z3 := Tryz.sizeOf3
 v3 := Tryz.zeroValue3
 t4 := Tryz.underlying4
 a4 := Tryz.isAgg4
 z4 := Tryz.sizeOf4
 v4 := Tryz.zeroValue4
 t9 := Tryz.underlying9
 a9 := Tryz.isAgg9
 z9 := Tryz.sizeOf9
 v9 := Tryz.zeroValue9
 t24 := Tryz.underlying216
 a24 := Tryz.isAgg216
 z24 := Tryz.sizeOf216
 v24 := Tryz.zeroValue216 }
open Go.RowKit Go.Lib Go.Sort in
open Go.RowKit Go.Lib Go.Sort in
theorem Tryz.slices_Reverse_string (blk off cap : Nat) (zs : List (List UInt8)) (w : World) (hH : Holds encStr w blk off zs.toArray) (hsz : zs.length ≤ 9223372036854775807) :
  Calls Tryz.prog 166 #[.slice (some ⟨blk, off, none⟩) zs.length cap] w fun e w' => e = .returned (.tuple #[]) ∧ ∃ n, w' = putRow encStr (Sort.ahead w n) blk off zs.reverse.toArray := Any.slices_Reverse_string Tryz.laysNm217 blk off cap zs w hH hsz
open Go.RowKit Go.Lib Go.Sort in
open Go.RowKit Go.Lib Go.Sort in
open Go.RowKit Go.Lib Go.Sort in
def Tryz.QL : Go.Shelf.Ren := ⟨fun | 41 => 163 | n => n, fun | 22 => 79 | 23 => 138 | 4 => 4 | n => n, fun | n => n⟩
theorem Tryz.LW : Go.Proofs.SlLaysE0.n41 Tryz.prog Tryz.QL := {
 mixed := by kernel_rfl
 f41 := ⟨Tryz.f163.name, by decide, Tryz.func163.trans (congrArg some (by kernel_rfl))⟩
 t4 := Tryz.underlying4
 a4 := Tryz.isAgg4
 z4 := Tryz.sizeOf4
 v4 := Tryz.zeroValue4
 t22 := Tryz.underlying79
 a22 := Tryz.isAgg79
 z22 := Tryz.sizeOf79
 v22 := Tryz.zeroValue79 }
open Go.RowKit Go.Lib in
theorem Tryz.slices_Clone (i0 : TypeInfo) (z : Value) (size bytes : Nat) (hi : Tryz.prog.info? 138 = some i0) (hz0 : i0.zero = some z) (hz1 : i0.size = size) (hz2 : i0.bytes = bytes) (hzs : z.cells.size = size) (hsz : 0 < size) (z23 : ∀ w, (Go.sizeOf 138).run Tryz.prog w = .ok size w) (b off n c : Nat) (news : List Value) (w : World) (hl : news.length = n * size) (hn : n ≤ maxLen) (hbig : n * bytes ≤ 140737488355328) (hc : ∀ j u, news[j]? = some u → w.cell? ⟨b, off + j, none⟩ = some u) (h1 : ∀ u ∈ news, u.oneCell' = true) :
  Calls Tryz.prog 163 #[.slice (some ⟨b, off, none⟩) n c] w fun e w' => ∃ v', e = .returned v' ∧ w'.ownsRow w.heap.size 138 size v' n news ∧ v' ≠ .slice none 0 0 ∧ Below w.heap.size w w' := AnyE.slices_Clone Tryz.LW i0 z size bytes hi hz0 hz1 hz2 hzs hsz z23 b off n c news w hl hn hbig hc h1
open Go.RowKit Go.Lib in
theorem Tryz.slices_Clone_nil (n c : Nat) (w : World) :
  Calls Tryz.prog 163 #[.slice none n c] w fun e w' => e = .returned (.slice none 0 0) ∧ w' = w := AnyE.slices_Clone_nil Tryz.LW n c w
end Go.Proofs
