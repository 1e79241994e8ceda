/- A contract of the library on a generic function, laid at a type of this seat by the kit's own tool. -/
import Derived.Shelf.SlSortCmp.WholeK
import Derived.Ground.SlsfProg
import Derived.Shelf.SlGeneric
import Derived.Test.YtncecbgpkoihpaaGreatDoorProg
namespace Go.Proofs
open Go.Shelf
def Tryz.sortAttr_ren : Go.Shelf.Ren := ⟨fun | 6 => 179 | 15 => 256 | 14 => 255 | 28 => 326 | 29 => 327 | 20 => 318 | 21 => 319 | 22 => 320 | 23 => 321 | 24 => 322 | 25 => 323 | 26 => 324 | 27 => 325 | 46 => 363 | 47 => 364 | 48 => 365 | 49 => 366 | 50 => 367 | 57 => 387 | n => n, fun | 22 => 79 | 24 => 83 | 25 => 257 | 3 => 3 | 39 => 317 | 0 => 0 | 53 => 372 | 55 => 374 | 4 => 4 | 46 => 365 | 45 => 364 | 50 => 369 | 5 => 5 | 9 => 9 | 66 => 405 | 70 => 409 | 76 => 440 | 77 => 441 | n => n, fun | n => n⟩
theorem Tryz.sortAttr : Go.Proofs.SlLaysF0.n6 Tryz.prog Tryz.sortAttr_ren := {
 mixed := by kernel_rfl
 f6 := ⟨Tryz.f179.name, by decide, Tryz.func179.trans (congrArg some (by kernel_rfl))⟩
 f14 := ⟨Tryz.f255.name, by decide, Tryz.func255.trans (congrArg some (by kernel_rfl))⟩
 f15 := Tryz.func256.trans (congrArg some (by kernel_rfl))
 f20 := ⟨Tryz.f318.name, by decide, Tryz.func318.trans (congrArg some (by kernel_rfl))⟩
 f21 := ⟨Tryz.f319.name, by decide, Tryz.func319.trans (congrArg some (by kernel_rfl))⟩
 f22 := ⟨Tryz.f320.name, by decide, Tryz.func320.trans (congrArg some (by kernel_rfl))⟩
 f23 := ⟨Tryz.f321.name, by decide, Tryz.func321.trans (congrArg some (by kernel_rfl))⟩
 f24 := ⟨Tryz.f322.name, by decide, Tryz.func322.trans (congrArg some (by kernel_rfl))⟩
 f25 := ⟨Tryz.f323.name, by decide, Tryz.func323.trans (congrArg some (by kernel_rfl))⟩
 f26 := ⟨Tryz.f324.name, by decide, Tryz.func324.trans (congrArg some (by kernel_rfl))⟩
 f27 := ⟨Tryz.f325.name, by decide, Tryz.func325.trans (congrArg some (by kernel_rfl))⟩
 f28 := Tryz.func326.trans (congrArg some (by kernel_rfl))
 f29 := Tryz.func327.trans (congrArg some (by kernel_rfl))
 f46 := ⟨Tryz.f363.name, by decide, Tryz.func363.trans (congrArg some (by kernel_rfl))⟩
 f47 := Tryz.func364.trans (congrArg some (by kernel_rfl))
 f48 := Tryz.func365.trans (congrArg some (by kernel_rfl))
 f49 := ⟨Tryz.f366.name, by decide, Tryz.func366.trans (congrArg some (by kernel_rfl))⟩
 f50 := ⟨Tryz.f367.name, by decide, Tryz.func367.trans (congrArg some (by kernel_rfl))⟩
 f57 := ⟨Tryz.f387.name, by decide, Tryz.func387.trans (congrArg some (by kernel_rfl))⟩
 t0 := Tryz.underlying0
 a0 := Tryz.isAgg0
 z0 := Tryz.sizeOf0
 v0 := Tryz.zeroValue0
 t3 := Tryz.underlying3
 a3 := Tryz.isAgg3
 z3 := Tryz.sizeOf3
 v3 := Tryz.zeroValue3
 t4 := Tryz.underlying4
 a4 := Tryz.isAgg4
 z4 := Tryz.sizeOf4
 v4 := Tryz.zeroValue4
 t5 := Tryz.underlying5
 a5 := Tryz.isAgg5
 z5 := Tryz.sizeOf5
 v5 := Tryz.zeroValue5
 t9 := Tryz.underlying9
 a9 := Tryz.isAgg9
 z9 := Tryz.sizeOf9
 v9 := Tryz.zeroValue9
 t22 := Tryz.underlying79
 a22 := Tryz.isAgg79
 z22 := Tryz.sizeOf79
 v22 := Tryz.zeroValue79
 t25 := Tryz.underlying257
 a25 := Tryz.isAgg257
 z25 := Tryz.sizeOf257
 v25 := Tryz.zeroValue257
 t39 := Tryz.underlying317
 a39 := Tryz.isAgg317
 z39 := Tryz.sizeOf317
 v39 := Tryz.zeroValue317
 t45 := Tryz.underlying364
 a45 := Tryz.isAgg364
 z45 := Tryz.sizeOf364
 v45 := Tryz.zeroValue364
 t46 := Tryz.underlying365
 a46 := Tryz.isAgg365
 z46 := Tryz.sizeOf365
 v46 := Tryz.zeroValue365
 t50 := Tryz.underlying369
 a50 := Tryz.isAgg369
 z50 := Tryz.sizeOf369
 v50 := Tryz.zeroValue369
 t53 := Tryz.underlying372
 a53 := Tryz.isAgg372
 z53 := Tryz.sizeOf372
 v53 := Tryz.zeroValue372
 t55 := Tryz.underlying374
 a55 := Tryz.isAgg374
 z55 := Tryz.sizeOf374
 v55 := Tryz.zeroValue374
 t66 := Tryz.underlying405
 a66 := Tryz.isAgg405
 z66 := Tryz.sizeOf405
 v66 := Tryz.zeroValue405
 t70 := Tryz.underlying409
 a70 := Tryz.isAgg409
 z70 := Tryz.sizeOf409
 v70 := Tryz.zeroValue409
 t76 := Tryz.underlying440
 a76 := Tryz.isAgg440
 z76 := Tryz.sizeOf440
 v76 := Tryz.zeroValue440
 t77 := Tryz.underlying441
 a77 := Tryz.isAgg441
 z77 := Tryz.sizeOf441
 v77 := Tryz.zeroValue441 }
end Go.Proofs
