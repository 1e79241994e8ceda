/- Facts on the types of this seat, as abstract walks ask for them; printed by a program. -/
import Derived.Test.YtncecbgpkoihpaaGreatDoorAwTwo
import Derived.Test.YtncecbgpkoihpaaGreatDoorProg
import Derived.RowKit
namespace Go.Proofs.YtncecbgpkoihpaaGreatDoor.Aw
theorem ty0 : z18 Tryz.prog 170 = some ([.string ⟨#[]⟩, .slice none 0 0, .string ⟨#[]⟩, .int .i64 0, .int .i64 0, .int .i64 0, .int .i64 0], [(0, 1), (1, 1), (2, 1), (3, 1), (4, 1), (5, 1), (6, 1)]) := by kernel_rfl
theorem ty1 : z18 Tryz.prog 171 = some ([.string ⟨#[]⟩, .string ⟨#[]⟩], [(0, 1), (1, 1)]) := by kernel_rfl
theorem ty2 : z18 Tryz.prog 189 = some ([.slice none 0 0, .int .i64 0, .slice none 0 0, .int .i64 0, .int .i64 0, .int .i64 0], [(0, 1), (1, 1), (2, 1), (3, 1), (4, 1), (5, 1)]) := by kernel_rfl
theorem ty3 : z18 Tryz.prog 68 = some ([.slice none 0 0], [(0, 1)]) := by kernel_rfl
theorem ty4 : z8h Tryz.prog 156 = some (171, 2, 32) := by kernel_rfl
theorem ty5 : z8h Tryz.prog 66 = some (170, 7, 88) := by kernel_rfl
theorem ty6 : z02 Tryz.prog 170 0 = some 0 := by kernel_rfl
theorem ty7 : z02 Tryz.prog 170 1 = some 1 := by kernel_rfl
theorem ty8 : z02 Tryz.prog 170 2 = some 2 := by kernel_rfl
theorem ty9 : z02 Tryz.prog 170 3 = some 3 := by kernel_rfl
theorem ty10 : z02 Tryz.prog 170 4 = some 4 := by kernel_rfl
theorem ty11 : z02 Tryz.prog 170 5 = some 5 := by kernel_rfl
theorem ty12 : z02 Tryz.prog 170 6 = some 6 := by kernel_rfl
theorem ty13 : z02 Tryz.prog 171 0 = some 0 := by kernel_rfl
theorem ty14 : z02 Tryz.prog 189 0 = some 0 := by kernel_rfl
theorem ty15 : z02 Tryz.prog 189 1 = some 1 := by kernel_rfl
theorem ty16 : z02 Tryz.prog 189 2 = some 2 := by kernel_rfl
theorem ty17 : z02 Tryz.prog 189 3 = some 3 := by kernel_rfl
theorem ty18 : z02 Tryz.prog 189 4 = some 4 := by kernel_rfl
theorem ty19 : z02 Tryz.prog 189 5 = some 5 := by kernel_rfl
theorem ty20 : z02 Tryz.prog 192 0 = some 0 := by kernel_rfl
theorem ty21 : z02 Tryz.prog 192 1 = some 1 := by kernel_rfl
theorem ty22 : z02 Tryz.prog 192 2 = some 2 := by kernel_rfl
theorem ty23 : z02 Tryz.prog 192 3 = some 3 := by kernel_rfl
theorem ty24 : z02 Tryz.prog 192 4 = some 4 := by kernel_rfl
theorem ty25 : z02 Tryz.prog 324 0 = some 0 := by kernel_rfl
theorem ty26 : z02 Tryz.prog 324 1 = some 1 := by kernel_rfl
theorem ty27 : z02 Tryz.prog 68 0 = some 0 := by kernel_rfl
theorem ty28 : z0i Tryz.prog 156 = some (none, 2) := by kernel_rfl
theorem ty29 : z0i Tryz.prog 184 = some (none, 5) := by kernel_rfl
theorem ty30 : z0i Tryz.prog 190 = some (none, 3) := by kernel_rfl
theorem ty31 : z0i Tryz.prog 66 = some (none, 7) := by kernel_rfl
theorem ty32 : zcv Tryz.prog 4 = true := by kernel_rfl
theorem ty33 : z3v Tryz.prog 156 = false := by kernel_rfl
theorem ty34 : z3v Tryz.prog 184 = false := by kernel_rfl
theorem ty35 : z3v Tryz.prog 190 = false := by kernel_rfl
theorem ty36 : z3v Tryz.prog 66 = false := by kernel_rfl
theorem ty37 : z3v Tryz.prog 9 = true := by kernel_rfl
theorem ty38 : z1n Tryz.prog 156 = some none := by kernel_rfl
theorem ty39 : z1n Tryz.prog 170 = some (some 7) := by kernel_rfl
theorem ty40 : z1n Tryz.prog 171 = some (some 2) := by kernel_rfl
theorem ty41 : z1n Tryz.prog 184 = some none := by kernel_rfl
theorem ty42 : z1n Tryz.prog 190 = some none := by kernel_rfl
theorem ty43 : z1n Tryz.prog 192 = some (some 5) := by kernel_rfl
theorem ty44 : z1n Tryz.prog 24 = some none := by kernel_rfl
theorem ty45 : z1n Tryz.prog 3 = some none := by kernel_rfl
theorem ty46 : z1n Tryz.prog 5 = some none := by kernel_rfl
theorem ty47 : z1n Tryz.prog 66 = some none := by kernel_rfl
theorem ty48 : z1n Tryz.prog 68 = some (some 1) := by kernel_rfl
theorem ty49 : z1n Tryz.prog 75 = some (some 1) := by kernel_rfl
theorem ty50 : z1n Tryz.prog 9 = some none := by kernel_rfl
theorem ty51 : z2k Tryz.prog 156 = some (171, [.string ⟨#[]⟩, .string ⟨#[]⟩], 2) := by kernel_rfl
theorem ty52 : z2k Tryz.prog 66 = some (170, [.string ⟨#[]⟩, .slice none 0 0, .string ⟨#[]⟩, .int .i64 0, .int .i64 0, .int .i64 0, .int .i64 0], 7) := by kernel_rfl
theorem ty53 : szOf Tryz.prog 170 = some 7 := by kernel_rfl
theorem ty54 : szOf Tryz.prog 171 = some 2 := by kernel_rfl
theorem ty55 : szOf Tryz.prog 192 = some 5 := by kernel_rfl
theorem ty56 : szOf Tryz.prog 24 = some 1 := by kernel_rfl
theorem ty57 : szOf Tryz.prog 3 = some 1 := by kernel_rfl
theorem ty58 : szOf Tryz.prog 66 = some 1 := by kernel_rfl
theorem ty59 : szOf Tryz.prog 68 = some 1 := by kernel_rfl
theorem ty60 : szOf Tryz.prog 75 = some 1 := by kernel_rfl
theorem ty61 : szOf Tryz.prog 9 = some 1 := by kernel_rfl
theorem ty62 : z5d Tryz.prog 170 = some [.string ⟨#[]⟩, .slice none 0 0, .string ⟨#[]⟩, .int .i64 0, .int .i64 0, .int .i64 0, .int .i64 0] := by kernel_rfl
theorem ty63 : z5d Tryz.prog 192 = some [.int .u8 0, .string ⟨#[]⟩, .slice none 0 0, .string ⟨#[]⟩, .int .i64 0] := by kernel_rfl
theorem ty64 : z5d Tryz.prog 68 = some [.slice none 0 0] := by kernel_rfl
theorem ty65 : z5d Tryz.prog 75 = some [.slice none 0 0] := by kernel_rfl
theorem tys : (z18 Tryz.prog 170 = some ([.string ⟨#[]⟩, .slice none 0 0, .string ⟨#[]⟩, .int .i64 0, .int .i64 0, .int .i64 0, .int .i64 0], [(0, 1), (1, 1), (2, 1), (3, 1), (4, 1), (5, 1), (6, 1)])) ∧
 (z18 Tryz.prog 171 = some ([.string ⟨#[]⟩, .string ⟨#[]⟩], [(0, 1), (1, 1)])) ∧
 (z18 Tryz.prog 189 = some ([.slice none 0 0, .int .i64 0, .slice none 0 0, .int .i64 0, .int .i64 0, .int .i64 0], [(0, 1), (1, 1), (2, 1), (3, 1), (4, 1), (5, 1)])) ∧
 (z18 Tryz.prog 68 = some ([.slice none 0 0], [(0, 1)])) ∧
 (z8h Tryz.prog 156 = some (171, 2, 32)) ∧
 (z8h Tryz.prog 66 = some (170, 7, 88)) ∧
 (z02 Tryz.prog 170 0 = some 0) ∧
 (z02 Tryz.prog 170 1 = some 1) ∧
 (z02 Tryz.prog 170 2 = some 2) ∧
 (z02 Tryz.prog 170 3 = some 3) ∧
 (z02 Tryz.prog 170 4 = some 4) ∧
 (z02 Tryz.prog 170 5 = some 5) ∧
 (z02 Tryz.prog 170 6 = some 6) ∧
 (z02 Tryz.prog 171 0 = some 0) ∧
 (z02 Tryz.prog 189 0 = some 0) ∧
 (z02 Tryz.prog 189 1 = some 1) ∧
 (z02 Tryz.prog 189 2 = some 2) ∧
 (z02 Tryz.prog 189 3 = some 3) ∧
 (z02 Tryz.prog 189 4 = some 4) ∧
 (z02 Tryz.prog 189 5 = some 5) ∧
 (z02 Tryz.prog 192 0 = some 0) ∧
 (z02 Tryz.prog 192 1 = some 1) ∧
 (z02 Tryz.prog 192 2 = some 2) ∧
 (z02 Tryz.prog 192 3 = some 3) ∧
 (z02 Tryz.prog 192 4 = some 4) ∧
 (z02 Tryz.prog 324 0 = some 0) ∧
 (z02 Tryz.prog 324 1 = some 1) ∧
 (z02 Tryz.prog 68 0 = some 0) ∧
 (z0i Tryz.prog 156 = some (none, 2)) ∧
 (z0i Tryz.prog 184 = some (none, 5)) ∧
 (z0i Tryz.prog 190 = some (none, 3)) ∧
 (z0i Tryz.prog 66 = some (none, 7)) ∧
 (zcv Tryz.prog 4 = true) ∧
 (z3v Tryz.prog 156 = false) ∧
 (z3v Tryz.prog 184 = false) ∧
 (z3v Tryz.prog 190 = false) ∧
 (z3v Tryz.prog 66 = false) ∧
 (z3v Tryz.prog 9 = true) ∧
 (z1n Tryz.prog 156 = some none) ∧
 (z1n Tryz.prog 170 = some (some 7)) ∧
 (z1n Tryz.prog 171 = some (some 2)) ∧
 (z1n Tryz.prog 184 = some none) ∧
 (z1n Tryz.prog 190 = some none) ∧
 (z1n Tryz.prog 192 = some (some 5)) ∧
 (z1n Tryz.prog 24 = some none) ∧
 (z1n Tryz.prog 3 = some none) ∧
 (z1n Tryz.prog 5 = some none) ∧
 (z1n Tryz.prog 66 = some none) ∧
 (z1n Tryz.prog 68 = some (some 1)) ∧
 (z1n Tryz.prog 75 = some (some 1)) ∧
 (z1n Tryz.prog 9 = some none) ∧
 (z2k Tryz.prog 156 = some (171, [.string ⟨#[]⟩, .string ⟨#[]⟩], 2)) ∧
 (z2k Tryz.prog 66 = some (170, [.string ⟨#[]⟩, .slice none 0 0, .string ⟨#[]⟩, .int .i64 0, .int .i64 0, .int .i64 0, .int .i64 0], 7)) ∧
 (szOf Tryz.prog 170 = some 7) ∧
 (szOf Tryz.prog 171 = some 2) ∧
 (szOf Tryz.prog 192 = some 5) ∧
 (szOf Tryz.prog 24 = some 1) ∧
 (szOf Tryz.prog 3 = some 1) ∧
 (szOf Tryz.prog 66 = some 1) ∧
 (szOf Tryz.prog 68 = some 1) ∧
 (szOf Tryz.prog 75 = some 1) ∧
 (szOf Tryz.prog 9 = some 1) ∧
 (z5d Tryz.prog 170 = some [.string ⟨#[]⟩, .slice none 0 0, .string ⟨#[]⟩, .int .i64 0, .int .i64 0, .int .i64 0, .int .i64 0]) ∧
 (z5d Tryz.prog 192 = some [.int .u8 0, .string ⟨#[]⟩, .slice none 0 0, .string ⟨#[]⟩, .int .i64 0]) ∧
 (z5d Tryz.prog 68 = some [.slice none 0 0]) ∧
 (z5d Tryz.prog 75 = some [.slice none 0 0]) :=
 ⟨ty0, ty1, ty2, ty3, ty4, ty5, ty6, ty7, ty8, ty9, ty10, ty11, ty12, ty13, ty14, ty15, ty16, ty17, ty18, ty19, ty20, ty21, ty22, ty23, ty24, ty25, ty26, ty27, ty28, ty29, ty30, ty31, ty32, ty33, ty34, ty35, ty36, ty37, ty38, ty39, ty40, ty41, ty42, ty43, ty44, ty45, ty46, ty47, ty48, ty49, ty50, ty51, ty52, ty53, ty54, ty55, ty56, ty57, ty58, ty59, ty60, ty61, ty62, ty63, ty64, ty65⟩
end Go.Proofs.YtncecbgpkoihpaaGreatDoor.Aw
