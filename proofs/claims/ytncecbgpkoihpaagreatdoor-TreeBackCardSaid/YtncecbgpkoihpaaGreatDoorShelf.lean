/- The library's contracts that the walks of this seat call, laid at its program by the kit's own tool. -/
import Derived.Shelf.Strings.Builder1
import Derived.Shelf.Strings.Trim
import Derived.Shelf.Small.Utf8
import Derived.Shelf.Small.Bits
import Derived.Shelf.Small.Strs
import Derived.Shelf.Small.Wraps
import Derived.Shelf.Strings.BuilderF
import Derived.Shelf.Strings.BuilderK
import Derived.Shelf.Utf8.RuneCount
import Derived.Shelf.Strconv.Itoa0
import Derived.Shelf.LaysM
import Derived.Shelf.Strconv.Clone
import Derived.Shelf.Strconv.SyntaxError
import Derived.Shelf.LaysC
import Derived.Shelf.Strconv.ToError
import Derived.Shelf.Strings.Search1
import Derived.Shelf.Strings.Search2
import Derived.Shelf.Strings.Search3
import Derived.Shelf.Strings.Cut
import Derived.Shelf.Strings.Count
import Derived.Shelf.Strings.Shaped
import Derived.Shelf.Strings.Prefix
import Derived.Shelf.Strings.Runes
import Derived.Shelf.Strings.IndexAny
import Derived.Shelf.Strings.AsciiSet
import Derived.Shelf.Strings.IndexAnyAll
import Derived.Shelf.Unicode.DecodeSlow
import Derived.Shelf.Unicode.DecodeAny
import Derived.Shelf.Unicode.DecodeLast
import Derived.Ground.Names2Prog
import Derived.Shelf.Slices.Clone
import Derived.Shelf.Slices.SearchI
import Derived.Ground.SlgnProg
import Derived.Shelf.SlicesE.Clone
import Derived.Test.YtncecbgpkoihpaaGreatDoorProg
namespace Go.Proofs
open Go.Shelf
def Tryz.lays169_ren : Go.Shelf.Ren := ⟨fun | 169 => 122 | n => n, fun | 70 => 207 | 9 => 9 | 0 => 0 | 72 => 209 | 37 => 40 | 127 => 279 | 3 => 3 | 5 => 5 | n => n, fun | n => n⟩
theorem Tryz.lays169 : Go.Proofs.Lays.n169 Tryz.prog Tryz.lays169_ren := {
 mixed := by kernel_rfl
 f169 := Tryz.func122.trans (congrArg some (by kernel_rfl))
 t0 := Tryz.underlying0
 a0 := Tryz.isAgg0
 z0 := Tryz.sizeOf0
 v0 := Tryz.zeroValue0
 t3 := Tryz.underlying3
 a3 := Tryz.isAgg3
 z3 := Tryz.sizeOf3
 v3 := Tryz.zeroValue3
 t9 := Tryz.underlying9
 a9 := Tryz.isAgg9
 z9 := Tryz.sizeOf9
 v9 := Tryz.zeroValue9
 t37 := Tryz.underlying40
 a37 := Tryz.isAgg40
 z37 := Tryz.sizeOf40
 v37 := Tryz.zeroValue40
 t70 := Tryz.underlying207
 a70 := Tryz.isAgg207
 z70 := Tryz.sizeOf207
 v70 := Tryz.zeroValue207
 t72 := Tryz.underlying209
 a72 := Tryz.isAgg209
 z72 := Tryz.sizeOf209
 v72 := Tryz.zeroValue209
 t127 := Tryz.underlying279
 a127 := Tryz.isAgg279
 z127 := Tryz.sizeOf279
 v127 := Tryz.zeroValue279 }
theorem Tryz.Builder_Extra_169 : Builder.Extra Tryz.prog Tryz.lays169_ren := {
 sizeBuilder := by kernel_rfl
 liesBuilder := by kernel_rfl
 t5 := Tryz.underlying5
 a5 := Tryz.isAgg5
 z5 := Tryz.sizeOf5
 v5 := Tryz.zeroValue5
 infoByte := by kernel_rfl
 cellsByte := by kernel_rfl
 sizeByte := by kernel_rfl
 neB5 := by decide }
def Tryz.lays161_ren : Go.Shelf.Ren := ⟨fun | 161 => 371 | 231 => 340 | 227 => 342 | 233 => 343 | 235 => 345 | 228 => 373 | 197 => 295 | 151 => 374 | 260 => 350 | 152 => 391 | 137 => 271 | 119 => 402 | 224 => 292 | 225 => 291 | 217 => 290 | 266 => 348 | n => n, fun | 9 => 9 | 4 => 4 | 3 => 3 | 5 => 5 | 117 => 387 | 116 => 386 | 0 => 0 | 124 => 390 | 105 => 354 | 21 => 21 | 119 => 414 | 46 => 317 | 139 => 417 | 138 => 416 | n => n, fun | 3 => 3 | 4 => 4 | n => n⟩
theorem Tryz.lays161 : Go.Proofs.Lays.n161 Tryz.prog Tryz.lays161_ren := {
 mixed := by kernel_rfl
 f119 := Tryz.func402.trans (congrArg some (by kernel_rfl))
 f137 := Tryz.func271.trans (congrArg some (by kernel_rfl))
 f151 := Tryz.func374.trans (congrArg some (by kernel_rfl))
 f152 := Tryz.func391.trans (congrArg some (by kernel_rfl))
 f161 := Tryz.func371.trans (congrArg some (by kernel_rfl))
 f197 := Tryz.func295.trans (congrArg some (by kernel_rfl))
 f217 := Tryz.func290.trans (congrArg some (by kernel_rfl))
 f224 := Tryz.func292.trans (congrArg some (by kernel_rfl))
 f225 := Tryz.func291.trans (congrArg some (by kernel_rfl))
 f227 := Tryz.func342.trans (congrArg some (by kernel_rfl))
 f228 := Tryz.func373.trans (congrArg some (by kernel_rfl))
 f231 := Tryz.func340.trans (congrArg some (by kernel_rfl))
 f233 := Tryz.func343.trans (congrArg some (by kernel_rfl))
 f235 := Tryz.func345.trans (congrArg some (by kernel_rfl))
 f260 := Tryz.func350.trans (congrArg some (by kernel_rfl))
 f266 := Tryz.func348.trans (congrArg some (by kernel_rfl))
 t0 := Tryz.underlying0
 a0 := Tryz.isAgg0
 z0 := Tryz.sizeOf0
 v0 := Tryz.zeroValue0
 t3 := Tryz.underlying3
 a3 := Tryz.isAgg3
 z3 := Tryz.sizeOf3
 v3 := Tryz.zeroValue3
 t4 := Tryz.underlying4
 a4 := Tryz.isAgg4
 z4 := Tryz.sizeOf4
 v4 := Tryz.zeroValue4
 t5 := Tryz.underlying5
 a5 := Tryz.isAgg5
 z5 := Tryz.sizeOf5
 v5 := Tryz.zeroValue5
 t9 := Tryz.underlying9
 a9 := Tryz.isAgg9
 z9 := Tryz.sizeOf9
 v9 := Tryz.zeroValue9
 t21 := Tryz.underlying21
 a21 := Tryz.isAgg21
 z21 := Tryz.sizeOf21
 v21 := Tryz.zeroValue21
 t46 := Tryz.underlying317
 a46 := Tryz.isAgg317
 z46 := Tryz.sizeOf317
 v46 := Tryz.zeroValue317
 t105 := Tryz.underlying354
 a105 := Tryz.isAgg354
 z105 := Tryz.sizeOf354
 v105 := Tryz.zeroValue354
 t116 := Tryz.underlying386
 a116 := Tryz.isAgg386
 z116 := Tryz.sizeOf386
 t117 := Tryz.underlying387
 a117 := Tryz.isAgg387
 z117 := Tryz.sizeOf387
 v117 := Tryz.zeroValue387
 t119 := Tryz.underlying414
 a119 := Tryz.isAgg414
 z119 := Tryz.sizeOf414
 t124 := Tryz.underlying390
 a124 := Tryz.isAgg390
 z124 := Tryz.sizeOf390
 v124 := Tryz.zeroValue390
 t138 := Tryz.underlying416
 a138 := Tryz.isAgg416
 z138 := Tryz.sizeOf416
 v138 := Tryz.zeroValue416
 t139 := Tryz.underlying417
 a139 := Tryz.isAgg417
 z139 := Tryz.sizeOf417
 v139 := Tryz.zeroValue417
 g3 := by kernel_rfl
 g4 := by kernel_rfl }
def Tryz.lays160_ren : Go.Shelf.Ren := ⟨fun | 160 => 273 | 232 => 341 | 231 => 340 | 227 => 342 | 234 => 344 | 233 => 343 | 236 => 346 | 235 => 345 | 228 => 373 | 271 => 375 | 151 => 374 | 197 => 295 | 120 => 392 | 152 => 391 | 260 => 350 | 137 => 271 | 119 => 402 | 224 => 292 | 225 => 291 | 217 => 290 | 266 => 348 | n => n, fun | 9 => 9 | 4 => 4 | 3 => 3 | 5 => 5 | 117 => 387 | 116 => 386 | 0 => 0 | 124 => 390 | 21 => 21 | 105 => 354 | 46 => 317 | 119 => 414 | 139 => 417 | 138 => 416 | n => n, fun | 3 => 3 | 4 => 4 | n => n⟩
theorem Tryz.lays160 : Go.Proofs.Lays.n160 Tryz.prog Tryz.lays160_ren := {
 mixed := by kernel_rfl
 f119 := Tryz.func402.trans (congrArg some (by kernel_rfl))
 f120 := Tryz.func392.trans (congrArg some (by kernel_rfl))
 f137 := Tryz.func271.trans (congrArg some (by kernel_rfl))
 f151 := Tryz.func374.trans (congrArg some (by kernel_rfl))
 f152 := Tryz.func391.trans (congrArg some (by kernel_rfl))
 f160 := Tryz.func273.trans (congrArg some (by kernel_rfl))
 f197 := Tryz.func295.trans (congrArg some (by kernel_rfl))
 f217 := Tryz.func290.trans (congrArg some (by kernel_rfl))
 f224 := Tryz.func292.trans (congrArg some (by kernel_rfl))
 f225 := Tryz.func291.trans (congrArg some (by kernel_rfl))
 f227 := Tryz.func342.trans (congrArg some (by kernel_rfl))
 f228 := Tryz.func373.trans (congrArg some (by kernel_rfl))
 f231 := Tryz.func340.trans (congrArg some (by kernel_rfl))
 f232 := Tryz.func341.trans (congrArg some (by kernel_rfl))
 f233 := Tryz.func343.trans (congrArg some (by kernel_rfl))
 f234 := Tryz.func344.trans (congrArg some (by kernel_rfl))
 f235 := Tryz.func345.trans (congrArg some (by kernel_rfl))
 f236 := Tryz.func346.trans (congrArg some (by kernel_rfl))
 f260 := Tryz.func350.trans (congrArg some (by kernel_rfl))
 f266 := Tryz.func348.trans (congrArg some (by kernel_rfl))
 f271 := Tryz.func375.trans (congrArg some (by kernel_rfl))
 t0 := Tryz.underlying0
 a0 := Tryz.isAgg0
 z0 := Tryz.sizeOf0
 v0 := Tryz.zeroValue0
 t3 := Tryz.underlying3
 a3 := Tryz.isAgg3
 z3 := Tryz.sizeOf3
 v3 := Tryz.zeroValue3
 t4 := Tryz.underlying4
 a4 := Tryz.isAgg4
 z4 := Tryz.sizeOf4
 v4 := Tryz.zeroValue4
 t5 := Tryz.underlying5
 a5 := Tryz.isAgg5
 z5 := Tryz.sizeOf5
 v5 := Tryz.zeroValue5
 t9 := Tryz.underlying9
 a9 := Tryz.isAgg9
 z9 := Tryz.sizeOf9
 v9 := Tryz.zeroValue9
 t21 := Tryz.underlying21
 a21 := Tryz.isAgg21
 z21 := Tryz.sizeOf21
 v21 := Tryz.zeroValue21
 t46 := Tryz.underlying317
 a46 := Tryz.isAgg317
 z46 := Tryz.sizeOf317
 v46 := Tryz.zeroValue317
 t105 := Tryz.underlying354
 a105 := Tryz.isAgg354
 z105 := Tryz.sizeOf354
 v105 := Tryz.zeroValue354
 t116 := Tryz.underlying386
 a116 := Tryz.isAgg386
 z116 := Tryz.sizeOf386
 t117 := Tryz.underlying387
 a117 := Tryz.isAgg387
 z117 := Tryz.sizeOf387
 v117 := Tryz.zeroValue387
 t119 := Tryz.underlying414
 a119 := Tryz.isAgg414
 z119 := Tryz.sizeOf414
 t124 := Tryz.underlying390
 a124 := Tryz.isAgg390
 z124 := Tryz.sizeOf390
 v124 := Tryz.zeroValue390
 t138 := Tryz.underlying416
 a138 := Tryz.isAgg416
 z138 := Tryz.sizeOf416
 v138 := Tryz.zeroValue416
 t139 := Tryz.underlying417
 a139 := Tryz.isAgg417
 z139 := Tryz.sizeOf417
 v139 := Tryz.zeroValue417
 g3 := by kernel_rfl
 g4 := by kernel_rfl }
def Tryz.lays119_ren : Go.Shelf.Ren := ⟨fun | 119 => 402 | n => n, fun | 21 => 21 | 4 => 4 | n => n, fun | n => n⟩
theorem Tryz.lays119 : Go.Proofs.Lays.n119 Tryz.prog Tryz.lays119_ren := {
 mixed := by kernel_rfl
 f119 := Tryz.func402.trans (congrArg some (by kernel_rfl))
 t4 := Tryz.underlying4
 a4 := Tryz.isAgg4
 z4 := Tryz.sizeOf4
 v4 := Tryz.zeroValue4
 t21 := Tryz.underlying21
 a21 := Tryz.isAgg21
 z21 := Tryz.sizeOf21
 v21 := Tryz.zeroValue21 }
theorem Tryz.utf8_ValidRune (r : Int) (w : World) :
 Calls Tryz.prog 402 #[.int .i32 r] w fun e w' => e = .returned (.bool (Lib.validRune r)) ∧ w' = w := Any.utf8_ValidRune Tryz.lays119 r w
def Tryz.lays137_ren : Go.Shelf.Ren := ⟨fun | 137 => 271 | 217 => 290 | 266 => 348 | n => n, fun | 9 => 9 | 5 => 5 | 3 => 3 | n => n, fun | n => n⟩
theorem Tryz.lays137 : Go.Proofs.Lays.n137 Tryz.prog Tryz.lays137_ren := {
 mixed := by kernel_rfl
 f137 := Tryz.func271.trans (congrArg some (by kernel_rfl))
 f217 := Tryz.func290.trans (congrArg some (by kernel_rfl))
 f266 := Tryz.func348.trans (congrArg some (by kernel_rfl))
 t3 := Tryz.underlying3
 a3 := Tryz.isAgg3
 z3 := Tryz.sizeOf3
 v3 := Tryz.zeroValue3
 t5 := Tryz.underlying5
 a5 := Tryz.isAgg5
 z5 := Tryz.sizeOf5
 v5 := Tryz.zeroValue5
 t9 := Tryz.underlying9
 a9 := Tryz.isAgg9
 z9 := Tryz.sizeOf9
 v9 := Tryz.zeroValue9 }
open Go.RowKit in
theorem Tryz.strings_IndexByte (s : ByteArray) (c : Int) (w : World) :
 Calls Tryz.prog 271 #[.string s, .int .u8 c] w fun e w' => e = .returned (.int .i64 (Lib.indexByte s.data.toList c.toNat.toUInt8)) ∧ w' = w := Any.strings_IndexByte Tryz.lays137 s c w
def Tryz.lays210_ren : Go.Shelf.Ren := ⟨fun | 210 => 333 | 206 => 361 | n => n, fun | 9 => 9 | 4 => 4 | 3 => 3 | n => n, fun | n => n⟩
def Tryz.lays103_ren : Go.Shelf.Ren := ⟨fun | 103 => 267 | 210 => 333 | 206 => 361 | n => n, fun | 9 => 9 | 4 => 4 | 24 => 181 | 3 => 3 | n => n, fun | n => n⟩
theorem Tryz.lays103 : Go.Proofs.Lays.n103 Tryz.prog Tryz.lays103_ren := {
 mixed := by kernel_rfl
 f103 := Tryz.func267.trans (congrArg some (by kernel_rfl))
 f206 := Tryz.func361.trans (congrArg some (by kernel_rfl))
 f210 := Tryz.func333.trans (congrArg some (by kernel_rfl))
 t3 := Tryz.underlying3
 a3 := Tryz.isAgg3
 z3 := Tryz.sizeOf3
 v3 := Tryz.zeroValue3
 t4 := Tryz.underlying4
 a4 := Tryz.isAgg4
 z4 := Tryz.sizeOf4
 v4 := Tryz.zeroValue4
 t9 := Tryz.underlying9
 a9 := Tryz.isAgg9
 z9 := Tryz.sizeOf9
 v9 := Tryz.zeroValue9
 t24 := Tryz.underlying181
 a24 := Tryz.isAgg181
 z24 := Tryz.sizeOf181
 v24 := Tryz.zeroValue181 }
open Go.RowKit in
theorem Tryz.strings_CutPrefix (s p : ByteArray) (w : World) :
 Calls Tryz.prog 267 #[.string s, .string p] w fun e w' => e = .returned (.tuple #[.string ⟨(Lib.trimPrefix s.data.toList p.data.toList).toArray⟩, .bool (Lib.hasPrefix s.data.toList p.data.toList)]) ∧ w' = w := Any.strings_CutPrefix Tryz.lays103 s p w
def Tryz.lays215_ren : Go.Shelf.Ren := ⟨fun | 215 => 247 | n => n, fun | 3 => 3 | 4 => 4 | n => n, fun | n => n⟩
open Go.RowKit in
theorem Tryz.Builder_String_any_k (B b : Nat) (l : List UInt8) (w : World) (h : Lib.IsBuilderF 209 5 B b (Lib.byteCells l) w) (hBw : B ≤ w.heap.size) :
 Calls Tryz.prog 122 #[.pointer (some ⟨b, 0, none⟩)] w fun e w' => e = .returned (.string ⟨l.toArray⟩) ∧ (Lib.IsBuilderF 209 5 B b (Lib.byteCells l) w' ∧ Below B w w' ∧ Lib.OthersKept 5 (some b) w w') := Any.Builder_String_any_k Tryz.lays169 Tryz.Builder_Extra_169 B b l w h hBw
def Tryz.laysC245_ren : Go.Shelf.Ren := ⟨fun | 245 => 353 | 279 => 379 | 280 => 380 | 281 => 381 | 282 => 382 | 316 => 396 | 171 => 398 | 205 => 397 | 243 => 403 | 246 => 300 | 283 => 356 | 284 => 357 | 285 => 358 | 286 => 359 | 129 => 327 | 317 => 383 | 318 => 384 | 319 => 385 | 320 => 386 | 337 => 399 | 338 => 400 | n => n, fun | 9 => 9 | 3 => 3 | 75 => 220 | 167 => 418 | 4 => 4 | 168 => 421 | 210 => 447 | 37 => 40 | 0 => 0 | 127 => 279 | 145 => 451 | 143 => 449 | 2 => 2 | 171 => 399 | 53 => 374 | 5 => 5 | 173 => 401 | 212 => 436 | 51 => 372 | 20 => 20 | 213 => 437 | 46 => 317 | 232 => 452 | 233 => 453 | 80 => 211 | n => n, fun | 15 => 7 | 16 => 1 | 17 => 5 | 18 => 8 | 19 => 9 | n => n⟩
theorem Tryz.laysC245 : Go.Proofs.LaysC.n245 Tryz.prog Tryz.laysC245_ren := {
 mixed := by kernel_rfl
 f129 := Tryz.func327.trans (congrArg some (by kernel_rfl))
 f171 := Tryz.func398.trans (congrArg some (by kernel_rfl))
 f205 := Tryz.func397.trans (congrArg some (by kernel_rfl))
 f243 := Tryz.func403.trans (congrArg some (by kernel_rfl))
 f245 := Tryz.func353.trans (congrArg some (by kernel_rfl))
 f246 := Tryz.func300.trans (congrArg some (by kernel_rfl))
 f279 := Tryz.func379.trans (congrArg some (by kernel_rfl))
 f280 := Tryz.func380.trans (congrArg some (by kernel_rfl))
 f281 := Tryz.func381.trans (congrArg some (by kernel_rfl))
 f282 := Tryz.func382.trans (congrArg some (by kernel_rfl))
 f283 := Tryz.func356.trans (congrArg some (by kernel_rfl))
 f284 := Tryz.func357.trans (congrArg some (by kernel_rfl))
 f285 := Tryz.func358.trans (congrArg some (by kernel_rfl))
 f286 := Tryz.func359.trans (congrArg some (by kernel_rfl))
 f316 := Tryz.func396.trans (congrArg some (by kernel_rfl))
 f317 := Tryz.func383.trans (congrArg some (by kernel_rfl))
 f318 := Tryz.func384.trans (congrArg some (by kernel_rfl))
 f319 := Tryz.func385.trans (congrArg some (by kernel_rfl))
 f320 := Tryz.func386.trans (congrArg some (by kernel_rfl))
 f337 := Tryz.func399.trans (congrArg some (by kernel_rfl))
 f338 := Tryz.func400.trans (congrArg some (by kernel_rfl))
 t0 := Tryz.underlying0
 a0 := Tryz.isAgg0
 z0 := Tryz.sizeOf0
 v0 := Tryz.zeroValue0
 t2 := Tryz.underlying2
 a2 := Tryz.isAgg2
 z2 := Tryz.sizeOf2
 v2 := Tryz.zeroValue2
 t3 := Tryz.underlying3
 a3 := Tryz.isAgg3
 z3 := Tryz.sizeOf3
 v3 := Tryz.zeroValue3
 t4 := Tryz.underlying4
 a4 := Tryz.isAgg4
 z4 := Tryz.sizeOf4
 v4 := Tryz.zeroValue4
 t5 := Tryz.underlying5
 a5 := Tryz.isAgg5
 z5 := Tryz.sizeOf5
 v5 := Tryz.zeroValue5
 t9 := Tryz.underlying9
 a9 := Tryz.isAgg9
 z9 := Tryz.sizeOf9
 v9 := Tryz.zeroValue9
 t20 := Tryz.underlying20
 a20 := Tryz.isAgg20
 z20 := Tryz.sizeOf20
 v20 := Tryz.zeroValue20
 t37 := Tryz.underlying40
 a37 := Tryz.isAgg40
 z37 := Tryz.sizeOf40
 v37 := Tryz.zeroValue40
 t46 := Tryz.underlying317
 a46 := Tryz.isAgg317
 z46 := Tryz.sizeOf317
 v46 := Tryz.zeroValue317
 t51 := Tryz.underlying372
 a51 := Tryz.isAgg372
 z51 := Tryz.sizeOf372
 v51 := Tryz.zeroValue372
 t53 := Tryz.underlying374
 a53 := Tryz.isAgg374
 z53 := Tryz.sizeOf374
 v53 := Tryz.zeroValue374
 t75 := Tryz.underlying220
 a75 := Tryz.isAgg220
 z75 := Tryz.sizeOf220
 v75 := Tryz.zeroValue220
 t127 := Tryz.underlying279
 a127 := Tryz.isAgg279
 z127 := Tryz.sizeOf279
 v127 := Tryz.zeroValue279
 t143 := Tryz.underlying449
 a143 := Tryz.isAgg449
 z143 := Tryz.sizeOf449
 v143 := Tryz.zeroValue449
 t145 := Tryz.underlying451
 a145 := Tryz.isAgg451
 z145 := Tryz.sizeOf451
 v145 := Tryz.zeroValue451
 t167 := Tryz.underlying418
 a167 := Tryz.isAgg418
 z167 := Tryz.sizeOf418
 v167 := Tryz.zeroValue418
 t168 := Tryz.underlying421
 a168 := Tryz.isAgg421
 z168 := Tryz.sizeOf421
 v168 := Tryz.zeroValue421
 t171 := Tryz.underlying399
 a171 := Tryz.isAgg399
 z171 := Tryz.sizeOf399
 v171 := Tryz.zeroValue399
 t173 := Tryz.underlying401
 a173 := Tryz.isAgg401
 z173 := Tryz.sizeOf401
 v173 := Tryz.zeroValue401
 t210 := Tryz.underlying447
 a210 := Tryz.isAgg447
 z210 := Tryz.sizeOf447
 v210 := Tryz.zeroValue447
 t212 := Tryz.underlying436
 a212 := Tryz.isAgg436
 z212 := Tryz.sizeOf436
 v212 := Tryz.zeroValue436
 t213 := Tryz.underlying437
 a213 := Tryz.isAgg437
 z213 := Tryz.sizeOf437
 t232 := Tryz.underlying452
 a232 := Tryz.isAgg452
 z232 := Tryz.sizeOf452
 v232 := Tryz.zeroValue452
 t233 := Tryz.underlying453
 a233 := Tryz.isAgg453
 z233 := Tryz.sizeOf453
 v233 := Tryz.zeroValue453
 g15 := by kernel_rfl
 g16 := by kernel_rfl
 g17 := by kernel_rfl
 g18 := by kernel_rfl
 g19 := by kernel_rfl
 t80 := Tryz.underlying211
 a80 := Tryz.isAgg211
 z80 := Tryz.sizeOf211
 v80 := Tryz.zeroValue211
 i0 := by kernel_rfl
 i2 := by kernel_rfl
 i3 := by kernel_rfl
 i4 := by kernel_rfl
 i5 := by kernel_rfl
 i9 := by kernel_rfl
 i20 := by kernel_rfl
 i37 := by kernel_rfl
 i46 := by kernel_rfl
 i51 := by kernel_rfl
 i53 := by kernel_rfl
 i75 := by kernel_rfl
 i80 := by kernel_rfl
 i127 := by kernel_rfl
 i143 := by kernel_rfl
 i145 := by kernel_rfl
 i167 := by kernel_rfl
 i168 := by kernel_rfl
 i171 := by kernel_rfl
 i173 := by kernel_rfl
 i210 := by kernel_rfl
 i212 := by kernel_rfl
 i232 := by kernel_rfl
 i233 := by kernel_rfl
 m15 := by kernel_rfl
 m16 := by kernel_rfl
 m17 := by kernel_rfl
 m18 := by kernel_rfl
 m19 := by kernel_rfl
 c0 := by kernel_rfl
 c2 := by kernel_rfl
 c3 := by kernel_rfl
 c4 := by kernel_rfl
 c5 := by kernel_rfl
 c9 := by kernel_rfl
 c20 := by kernel_rfl
 c37 := by kernel_rfl
 c46 := by kernel_rfl
 c51 := by kernel_rfl
 c53 := by kernel_rfl
 c75 := by kernel_rfl
 c80 := by kernel_rfl
 c127 := by kernel_rfl
 c143 := by kernel_rfl
 c145 := by kernel_rfl
 c167 := by kernel_rfl
 c168 := by kernel_rfl
 c171 := by kernel_rfl
 c173 := by kernel_rfl
 c210 := by kernel_rfl
 c212 := by kernel_rfl
 c213 := by kernel_rfl
 c232 := by kernel_rfl
 c233 := by kernel_rfl }
open Go.RowKit in
theorem Tryz.strconv_toError_syntax (fn s : ByteArray) (base bits : Int) (ev : Value) (w : World) (hlim : s.size ≤ 281474976710656) (hv : w.cell? ⟨7, 0, none⟩ = some ev) (hev : ev = .nilIface ∨ ∃ te pe, ev = .iface te pe) :
 Calls Tryz.prog 353 #[.string fn, .string s, .int .i64 base, .int .i64 bits, .iface 418 (.int .i64 2)] w fun e w' => ∃ N, e = .returned (.iface 421 (.pointer (some ⟨N, 0, none⟩))) ∧ w.heap.size ≤ N ∧ w'.heap[N]? = some (.cells #[.string fn, .string s, ev] 447 (0, 0)) ∧ Below w.heap.size w w' := Any.strconv_toError_syntax Tryz.laysC245 fn s base bits ev w hlim hv hev
def Tryz.lays219_ren : Go.Shelf.Ren := ⟨fun | 219 => 232 | 217 => 290 | 225 => 291 | 224 => 292 | 267 => 293 | 266 => 348 | 314 => 349 | n => n, fun | 9 => 9 | 3 => 3 | 4 => 4 | 5 => 5 | 46 => 317 | 146 => 392 | 51 => 372 | n => n, fun | 1 => 0 | n => n⟩
def Tryz.lays144_ren : Go.Shelf.Ren := ⟨fun | 144 => 307 | 143 => 235 | 219 => 232 | 217 => 290 | 225 => 291 | 224 => 292 | 267 => 293 | 266 => 348 | 314 => 349 | n => n, fun | 9 => 9 | 4 => 4 | 3 => 3 | 5 => 5 | 46 => 317 | 146 => 392 | 51 => 372 | n => n, fun | 1 => 0 | n => n⟩
theorem Tryz.lays144 : Go.Proofs.Lays.n144 Tryz.prog Tryz.lays144_ren := {
 mixed := by kernel_rfl
 f143 := Tryz.func235.trans (congrArg some (by kernel_rfl))
 f144 := Tryz.func307.trans (congrArg some (by kernel_rfl))
 f217 := Tryz.func290.trans (congrArg some (by kernel_rfl))
 f219 := Tryz.func232.trans (congrArg some (by kernel_rfl))
 f224 := Tryz.func292.trans (congrArg some (by kernel_rfl))
 f225 := Tryz.func291.trans (congrArg some (by kernel_rfl))
 f266 := Tryz.func348.trans (congrArg some (by kernel_rfl))
 f267 := Tryz.func293.trans (congrArg some (by kernel_rfl))
 f314 := Tryz.func349.trans (congrArg some (by kernel_rfl))
 t3 := Tryz.underlying3
 a3 := Tryz.isAgg3
 z3 := Tryz.sizeOf3
 v3 := Tryz.zeroValue3
 t4 := Tryz.underlying4
 a4 := Tryz.isAgg4
 z4 := Tryz.sizeOf4
 v4 := Tryz.zeroValue4
 t5 := Tryz.underlying5
 a5 := Tryz.isAgg5
 z5 := Tryz.sizeOf5
 v5 := Tryz.zeroValue5
 t9 := Tryz.underlying9
 a9 := Tryz.isAgg9
 z9 := Tryz.sizeOf9
 v9 := Tryz.zeroValue9
 t46 := Tryz.underlying317
 a46 := Tryz.isAgg317
 z46 := Tryz.sizeOf317
 v46 := Tryz.zeroValue317
 t51 := Tryz.underlying372
 a51 := Tryz.isAgg372
 z51 := Tryz.sizeOf372
 v51 := Tryz.zeroValue372
 t146 := Tryz.underlying392
 a146 := Tryz.isAgg392
 z146 := Tryz.sizeOf392
 v146 := Tryz.zeroValue392
 g1 := by kernel_rfl }
open Go.RowKit Go.Lib in
theorem Tryz.strings_Contains_one (s : ByteArray) (c : UInt8) (w : World) :
 Calls Tryz.prog 307 #[.string s, .string ⟨#[c]⟩] w fun e w' => e = .returned (.bool (decide (0 ≤ Lib.indexByte s.data.toList c))) ∧ w' = w := Any.strings_Contains_one Tryz.lays144 s c w
def Tryz.lays145_ren : Go.Shelf.Ren := ⟨fun | 145 => 62 | 220 => 145 | 219 => 232 | 217 => 290 | 225 => 291 | 224 => 292 | 267 => 293 | 266 => 348 | 314 => 349 | n => n, fun | 9 => 9 | 4 => 4 | 59 => 120 | 3 => 3 | 5 => 5 | 46 => 317 | 146 => 392 | 51 => 372 | n => n, fun | 1 => 0 | n => n⟩
theorem Tryz.lays145 : Go.Proofs.Lays.n145 Tryz.prog Tryz.lays145_ren := {
 mixed := by kernel_rfl
 f145 := Tryz.func62.trans (congrArg some (by kernel_rfl))
 f217 := Tryz.func290.trans (congrArg some (by kernel_rfl))
 f219 := Tryz.func232.trans (congrArg some (by kernel_rfl))
 f220 := Tryz.func145.trans (congrArg some (by kernel_rfl))
 f224 := Tryz.func292.trans (congrArg some (by kernel_rfl))
 f225 := Tryz.func291.trans (congrArg some (by kernel_rfl))
 f266 := Tryz.func348.trans (congrArg some (by kernel_rfl))
 f267 := Tryz.func293.trans (congrArg some (by kernel_rfl))
 f314 := Tryz.func349.trans (congrArg some (by kernel_rfl))
 t3 := Tryz.underlying3
 a3 := Tryz.isAgg3
 z3 := Tryz.sizeOf3
 v3 := Tryz.zeroValue3
 t4 := Tryz.underlying4
 a4 := Tryz.isAgg4
 z4 := Tryz.sizeOf4
 v4 := Tryz.zeroValue4
 t5 := Tryz.underlying5
 a5 := Tryz.isAgg5
 z5 := Tryz.sizeOf5
 v5 := Tryz.zeroValue5
 t9 := Tryz.underlying9
 a9 := Tryz.isAgg9
 z9 := Tryz.sizeOf9
 v9 := Tryz.zeroValue9
 t46 := Tryz.underlying317
 a46 := Tryz.isAgg317
 z46 := Tryz.sizeOf317
 v46 := Tryz.zeroValue317
 t51 := Tryz.underlying372
 a51 := Tryz.isAgg372
 z51 := Tryz.sizeOf372
 v51 := Tryz.zeroValue372
 t59 := Tryz.underlying120
 a59 := Tryz.isAgg120
 z59 := Tryz.sizeOf120
 v59 := Tryz.zeroValue120
 t146 := Tryz.underlying392
 a146 := Tryz.isAgg392
 z146 := Tryz.sizeOf392
 v146 := Tryz.zeroValue392
 g1 := by kernel_rfl }
open Go.RowKit Go.Lib in
theorem Tryz.strings_Cut (s sep : ByteArray) (m : Int) (w : World) (hs : s.size < 4294967281) (hm : w.cell? ⟨0, 0, none⟩ = some (.int .i64 m)) :
 Calls Tryz.prog 62 #[.string s, .string sep] w fun e w' => e = .returned (.tuple #[.string ⟨(Lib.cut s.data.toList sep.data.toList).1.toArray⟩, .string ⟨(Lib.cut s.data.toList sep.data.toList).2.1.toArray⟩, .bool (Lib.cut s.data.toList sep.data.toList).2.2]) ∧ ∃ n, w' = w.drewN n := Any.strings_Cut Tryz.lays145 s sep m w hs hm
def Tryz.lays99_ren : Go.Shelf.Ren := ⟨fun | 99 => 302 | 206 => 361 | n => n, fun | 9 => 9 | 4 => 4 | 3 => 3 | n => n, fun | n => n⟩
theorem Tryz.lays99 : Go.Proofs.Lays.n99 Tryz.prog Tryz.lays99_ren := {
 mixed := by kernel_rfl
 f99 := Tryz.func302.trans (congrArg some (by kernel_rfl))
 f206 := Tryz.func361.trans (congrArg some (by kernel_rfl))
 t3 := Tryz.underlying3
 a3 := Tryz.isAgg3
 z3 := Tryz.sizeOf3
 v3 := Tryz.zeroValue3
 t4 := Tryz.underlying4
 a4 := Tryz.isAgg4
 z4 := Tryz.sizeOf4
 v4 := Tryz.zeroValue4
 t9 := Tryz.underlying9
 a9 := Tryz.isAgg9
 z9 := Tryz.sizeOf9
 v9 := Tryz.zeroValue9 }
open Go.RowKit Go.Lib in
theorem Tryz.strings_HasPrefix (s p : ByteArray) (w : World) :
 Calls Tryz.prog 302 #[.string s, .string p] w fun e w' => e = .returned (.bool (Lib.hasPrefix s.data.toList p.data.toList)) ∧ w' = w := Any.strings_HasPrefix Tryz.lays99 s p w
def Tryz.lays152_ren : Go.Shelf.Ren := ⟨fun | 152 => 391 | 137 => 271 | 119 => 402 | 224 => 292 | 225 => 291 | 217 => 290 | 266 => 348 | n => n, fun | 9 => 9 | 21 => 21 | 3 => 3 | 4 => 4 | 5 => 5 | 0 => 0 | 46 => 317 | n => n, fun | n => n⟩
theorem Tryz.lays152 : Go.Proofs.Lays.n152 Tryz.prog Tryz.lays152_ren := {
 mixed := by kernel_rfl
 f119 := Tryz.func402.trans (congrArg some (by kernel_rfl))
 f137 := Tryz.func271.trans (congrArg some (by kernel_rfl))
 f152 := Tryz.func391.trans (congrArg some (by kernel_rfl))
 f217 := Tryz.func290.trans (congrArg some (by kernel_rfl))
 f224 := Tryz.func292.trans (congrArg some (by kernel_rfl))
 f225 := Tryz.func291.trans (congrArg some (by kernel_rfl))
 f266 := Tryz.func348.trans (congrArg some (by kernel_rfl))
 t0 := Tryz.underlying0
 a0 := Tryz.isAgg0
 z0 := Tryz.sizeOf0
 v0 := Tryz.zeroValue0
 t3 := Tryz.underlying3
 a3 := Tryz.isAgg3
 z3 := Tryz.sizeOf3
 v3 := Tryz.zeroValue3
 t4 := Tryz.underlying4
 a4 := Tryz.isAgg4
 z4 := Tryz.sizeOf4
 v4 := Tryz.zeroValue4
 t5 := Tryz.underlying5
 a5 := Tryz.isAgg5
 z5 := Tryz.sizeOf5
 v5 := Tryz.zeroValue5
 t9 := Tryz.underlying9
 a9 := Tryz.isAgg9
 z9 := Tryz.sizeOf9
 v9 := Tryz.zeroValue9
 t21 := Tryz.underlying21
 a21 := Tryz.isAgg21
 z21 := Tryz.sizeOf21
 v21 := Tryz.zeroValue21
 t46 := Tryz.underlying317
 a46 := Tryz.isAgg317
 z46 := Tryz.sizeOf317
 v46 := Tryz.zeroValue317 }
open Go.RowKit Go.Lib in
theorem Tryz.strings_IndexRune_ascii (s : ByteArray) (r : Int) (w : World) (h0 : 0 ≤ r) (h1 : r < 128) :
 Calls Tryz.prog 391 #[.string s, .int .i32 r] w fun e w' => e = .returned (.int .i64 (Lib.indexByte s.data.toList r.toNat.toUInt8)) ∧ w' = w := Any.strings_IndexRune_ascii Tryz.lays152 s r w h0 h1
def Tryz.lays226_ren : Go.Shelf.Ren := ⟨fun | 226 => 404 | n => n, fun | 3 => 3 | 4 => 4 | n => n, fun | n => n⟩
theorem Tryz.lays226 : Go.Proofs.Lays.n226 Tryz.prog Tryz.lays226_ren := {
 mixed := by kernel_rfl
 f226 := Tryz.func404.trans (congrArg some (by kernel_rfl))
 t3 := Tryz.underlying3
 a3 := Tryz.isAgg3
 z3 := Tryz.sizeOf3
 v3 := Tryz.zeroValue3
 t4 := Tryz.underlying4
 a4 := Tryz.isAgg4
 z4 := Tryz.sizeOf4
 v4 := Tryz.zeroValue4 }
open Go.RowKit Go.Lib in
theorem Tryz.strings_shouldUseASCIISet (n : Int) (w : World) :
 Calls Tryz.prog 404 #[.int .i64 n] w fun e w' => e = .returned (.bool (decide (8 < n))) ∧ w' = w := Any.strings_shouldUseASCIISet Tryz.lays226 n w
end Go.Proofs
