/- Facts on the types of this seat, as abstract walks ask for them; printed by a program. -/
import Derived.Test.YtpjodoipceddpaaGreatDoorAwTwo
import Derived.Test.YtpjodoipceddpaaGreatDoorProg
import Derived.RowKit
namespace Go.Proofs.YtpjodoipceddpaaGreatDoor.Aw
theorem ty0 :(Tryz.prog.underlying 3).isSome=true:=by kernel_rfl
theorem ty1 :(Tryz.prog.underlying 40).isSome=true:=by kernel_rfl
theorem ty2 :(Tryz.prog.underlying 5).isSome=true:=by kernel_rfl
theorem ty3 :(Tryz.prog.underlying 9).isSome=true:=by kernel_rfl
theorem ty4 :buildInfo Tryz.prog 34=some ([.int .u8 0,.int .i64 0,.string ⟨#[]⟩,.int .i64 0,.slice none 0 0],[(0,1),(1,1),(2,1),(3,1),(4,1)]):=by kernel_rfl
theorem ty5 :buildInfo Tryz.prog 49=some ([.int .u8 0,.int .i64 0,.string ⟨#[]⟩,.int .i64 0,.slice none 0 0],[(0,1),(1,1),(2,1),(3,1),(4,1)]):=by kernel_rfl
theorem ty6 :buildInfo Tryz.prog 77=some ([.string ⟨#[]⟩,.string ⟨#[]⟩,.string ⟨#[]⟩,.string ⟨#[]⟩,.string ⟨#[]⟩,.string ⟨#[]⟩,.string ⟨#[]⟩,.string ⟨#[]⟩,.string ⟨#[]⟩,.string ⟨#[]⟩,.string ⟨#[]⟩,.string ⟨#[]⟩,.string ⟨#[]⟩,.string ⟨#[]⟩],[(0,1),(1,1),(2,1),(3,1),(4,1),(5,1),(6,1),(7,1),(8,1),(9,1),(10,1),(11,1),(12,1),(13,1)]):=by kernel_rfl
theorem ty7 :buildInfo Tryz.prog 80=some ([.string ⟨#[]⟩,.string ⟨#[]⟩,.string ⟨#[]⟩,.string ⟨#[]⟩],[(0,1),(1,1),(2,1),(3,1)]):=by kernel_rfl
theorem ty8 :buildInfo Tryz.prog 92=some ([.slice none 0 0,.bool false],[(0,1),(1,1)]):=by kernel_rfl
theorem ty9 :elInfo Tryz.prog 23=some (49,5,64):=by kernel_rfl
theorem ty10 :elInfo Tryz.prog 27=some (34,5,64):=by kernel_rfl
theorem ty11 :elInfo Tryz.prog 32=some (3,1,8):=by kernel_rfl
theorem ty12 :elInfo Tryz.prog 36=some (32,1,24):=by kernel_rfl
theorem ty13 :elInfo Tryz.prog 37=some (9,1,16):=by kernel_rfl
theorem ty14 :elemInfo Tryz.prog 77=some (14,9,1):=by kernel_rfl
theorem ty15 :elemInfo Tryz.prog 80=some (4,9,1):=by kernel_rfl
theorem ty16 :fieldOff Tryz.prog 34 0=some 0:=by kernel_rfl
theorem ty17 :fieldOff Tryz.prog 34 1=some 1:=by kernel_rfl
theorem ty18 :fieldOff Tryz.prog 34 2=some 2:=by kernel_rfl
theorem ty19 :fieldOff Tryz.prog 34 3=some 3:=by kernel_rfl
theorem ty20 :fieldOff Tryz.prog 34 4=some 4:=by kernel_rfl
theorem ty21 :fieldOff Tryz.prog 49 0=some 0:=by kernel_rfl
theorem ty22 :fieldOff Tryz.prog 49 1=some 1:=by kernel_rfl
theorem ty23 :fieldOff Tryz.prog 49 2=some 2:=by kernel_rfl
theorem ty24 :fieldOff Tryz.prog 49 3=some 3:=by kernel_rfl
theorem ty25 :fieldOff Tryz.prog 49 4=some 4:=by kernel_rfl
theorem ty26 :fieldOff Tryz.prog 92 0=some 0:=by kernel_rfl
theorem ty27 :fieldOff Tryz.prog 92 1=some 1:=by kernel_rfl
theorem ty28 :idxInfo Tryz.prog 23=some (none,5):=by kernel_rfl
theorem ty29 :idxInfo Tryz.prog 27=some (none,5):=by kernel_rfl
theorem ty30 :idxInfo Tryz.prog 32=some (none,1):=by kernel_rfl
theorem ty31 :idxInfo Tryz.prog 36=some (none,1):=by kernel_rfl
theorem ty32 :idxInfo Tryz.prog 37=some (none,1):=by kernel_rfl
theorem ty33 :idxInfo Tryz.prog 40=some (none,1):=by kernel_rfl
theorem ty34 :idxInfo Tryz.prog 77=some (some 14,1):=by kernel_rfl
theorem ty35 :idxInfo Tryz.prog 80=some (some 4,1):=by kernel_rfl
theorem ty36 :intKindOf Tryz.prog 3=some .i64:=by kernel_rfl
theorem ty37 :intKindOf Tryz.prog 40=none:=by kernel_rfl
theorem ty38 :intKindOf Tryz.prog 5=some .u8:=by kernel_rfl
theorem ty39 :intKindOf Tryz.prog 9=none:=by kernel_rfl
theorem ty40 :isBool Tryz.prog 4=true:=by kernel_rfl
theorem ty41 :isBytes Tryz.prog 40=true:=by kernel_rfl
theorem ty42 :isStr Tryz.prog 23=false:=by kernel_rfl
theorem ty43 :isStr Tryz.prog 27=false:=by kernel_rfl
theorem ty44 :isStr Tryz.prog 3=false:=by kernel_rfl
theorem ty45 :isStr Tryz.prog 32=false:=by kernel_rfl
theorem ty46 :isStr Tryz.prog 36=false:=by kernel_rfl
theorem ty47 :isStr Tryz.prog 37=false:=by kernel_rfl
theorem ty48 :isStr Tryz.prog 40=false:=by kernel_rfl
theorem ty49 :isStr Tryz.prog 5=false:=by kernel_rfl
theorem ty50 :isStr Tryz.prog 77=false:=by kernel_rfl
theorem ty51 :isStr Tryz.prog 80=false:=by kernel_rfl
theorem ty52 :isStr Tryz.prog 9=true:=by kernel_rfl
theorem ty53 :rowSz Tryz.prog 2=some none:=by kernel_rfl
theorem ty54 :rowSz Tryz.prog 3=some none:=by kernel_rfl
theorem ty55 :rowSz Tryz.prog 32=some none:=by kernel_rfl
theorem ty56 :rowSz Tryz.prog 34=some (some 5):=by kernel_rfl
theorem ty57 :rowSz Tryz.prog 4=some none:=by kernel_rfl
theorem ty58 :rowSz Tryz.prog 49=some (some 5):=by kernel_rfl
theorem ty59 :rowSz Tryz.prog 5=some none:=by kernel_rfl
theorem ty60 :rowSz Tryz.prog 67=some none:=by kernel_rfl
theorem ty61 :rowSz Tryz.prog 77=some (some 14):=by kernel_rfl
theorem ty62 :rowSz Tryz.prog 80=some (some 4):=by kernel_rfl
theorem ty63 :rowSz Tryz.prog 9=some none:=by kernel_rfl
theorem ty64 :rowSz Tryz.prog 92=some (some 2):=by kernel_rfl
theorem ty65 :sliceInfo Tryz.prog 23=some (49,[.int .u8 0,.int .i64 0,.string ⟨#[]⟩,.int .i64 0,.slice none 0 0],5):=by kernel_rfl
theorem ty66 :sliceInfo Tryz.prog 27=some (34,[.int .u8 0,.int .i64 0,.string ⟨#[]⟩,.int .i64 0,.slice none 0 0],5):=by kernel_rfl
theorem ty67 :sliceInfo Tryz.prog 32=some (3,[.int .i64 0],1):=by kernel_rfl
theorem ty68 :sliceInfo Tryz.prog 36=some (32,[.slice none 0 0],1):=by kernel_rfl
theorem ty69 :sliceInfo Tryz.prog 37=some (9,[.string ⟨#[]⟩],1):=by kernel_rfl
theorem ty70 :sliceInfo Tryz.prog 40=some (5,[.int .u8 0],1):=by kernel_rfl
theorem ty71 :szOf Tryz.prog 3=some 1:=by kernel_rfl
theorem ty72 :szOf Tryz.prog 32=some 1:=by kernel_rfl
theorem ty73 :szOf Tryz.prog 34=some 5:=by kernel_rfl
theorem ty74 :szOf Tryz.prog 49=some 5:=by kernel_rfl
theorem ty75 :szOf Tryz.prog 5=some 1:=by kernel_rfl
theorem ty76 :szOf Tryz.prog 77=some 14:=by kernel_rfl
theorem ty77 :szOf Tryz.prog 80=some 4:=by kernel_rfl
theorem ty78 :szOf Tryz.prog 9=some 1:=by kernel_rfl
theorem ty79 :szOf Tryz.prog 92=some 2:=by kernel_rfl
theorem ty80 :zeroOf Tryz.prog 34=some [.int .u8 0,.int .i64 0,.string ⟨#[]⟩,.int .i64 0,.slice none 0 0]:=by kernel_rfl
theorem ty81 :zeroOf Tryz.prog 49=some [.int .u8 0,.int .i64 0,.string ⟨#[]⟩,.int .i64 0,.slice none 0 0]:=by kernel_rfl
theorem ty82 :zeroOf Tryz.prog 65=some [.pointer none,.slice none 0 0]:=by kernel_rfl
theorem ty83 :zeroOf Tryz.prog 77=some [.string ⟨#[]⟩,.string ⟨#[]⟩,.string ⟨#[]⟩,.string ⟨#[]⟩,.string ⟨#[]⟩,.string ⟨#[]⟩,.string ⟨#[]⟩,.string ⟨#[]⟩,.string ⟨#[]⟩,.string ⟨#[]⟩,.string ⟨#[]⟩,.string ⟨#[]⟩,.string ⟨#[]⟩,.string ⟨#[]⟩]:=by kernel_rfl
theorem ty84 :zeroOf Tryz.prog 80=some [.string ⟨#[]⟩,.string ⟨#[]⟩,.string ⟨#[]⟩,.string ⟨#[]⟩]:=by kernel_rfl
theorem ty85 :zeroOf Tryz.prog 92=some [.slice none 0 0,.bool false]:=by kernel_rfl
theorem tys :((Tryz.prog.underlying 3).isSome=true)∧
 ((Tryz.prog.underlying 40).isSome=true)∧
 ((Tryz.prog.underlying 5).isSome=true)∧
 ((Tryz.prog.underlying 9).isSome=true)∧
 (buildInfo Tryz.prog 34=some ([.int .u8 0,.int .i64 0,.string ⟨#[]⟩,.int .i64 0,.slice none 0 0],[(0,1),(1,1),(2,1),(3,1),(4,1)]))∧
 (buildInfo Tryz.prog 49=some ([.int .u8 0,.int .i64 0,.string ⟨#[]⟩,.int .i64 0,.slice none 0 0],[(0,1),(1,1),(2,1),(3,1),(4,1)]))∧
 (buildInfo Tryz.prog 77=some ([.string ⟨#[]⟩,.string ⟨#[]⟩,.string ⟨#[]⟩,.string ⟨#[]⟩,.string ⟨#[]⟩,.string ⟨#[]⟩,.string ⟨#[]⟩,.string ⟨#[]⟩,.string ⟨#[]⟩,.string ⟨#[]⟩,.string ⟨#[]⟩,.string ⟨#[]⟩,.string ⟨#[]⟩,.string ⟨#[]⟩],[(0,1),(1,1),(2,1),(3,1),(4,1),(5,1),(6,1),(7,1),(8,1),(9,1),(10,1),(11,1),(12,1),(13,1)]))∧
 (buildInfo Tryz.prog 80=some ([.string ⟨#[]⟩,.string ⟨#[]⟩,.string ⟨#[]⟩,.string ⟨#[]⟩],[(0,1),(1,1),(2,1),(3,1)]))∧
 (buildInfo Tryz.prog 92=some ([.slice none 0 0,.bool false],[(0,1),(1,1)]))∧
 (elInfo Tryz.prog 23=some (49,5,64))∧
 (elInfo Tryz.prog 27=some (34,5,64))∧
 (elInfo Tryz.prog 32=some (3,1,8))∧
 (elInfo Tryz.prog 36=some (32,1,24))∧
 (elInfo Tryz.prog 37=some (9,1,16))∧
 (elemInfo Tryz.prog 77=some (14,9,1))∧
 (elemInfo Tryz.prog 80=some (4,9,1))∧
 (fieldOff Tryz.prog 34 0=some 0)∧
 (fieldOff Tryz.prog 34 1=some 1)∧
 (fieldOff Tryz.prog 34 2=some 2)∧
 (fieldOff Tryz.prog 34 3=some 3)∧
 (fieldOff Tryz.prog 34 4=some 4)∧
 (fieldOff Tryz.prog 49 0=some 0)∧
 (fieldOff Tryz.prog 49 1=some 1)∧
 (fieldOff Tryz.prog 49 2=some 2)∧
 (fieldOff Tryz.prog 49 3=some 3)∧
 (fieldOff Tryz.prog 49 4=some 4)∧
 (fieldOff Tryz.prog 92 0=some 0)∧
 (fieldOff Tryz.prog 92 1=some 1)∧
 (idxInfo Tryz.prog 23=some (none,5))∧
 (idxInfo Tryz.prog 27=some (none,5))∧
 (idxInfo Tryz.prog 32=some (none,1))∧
 (idxInfo Tryz.prog 36=some (none,1))∧
 (idxInfo Tryz.prog 37=some (none,1))∧
 (idxInfo Tryz.prog 40=some (none,1))∧
 (idxInfo Tryz.prog 77=some (some 14,1))∧
 (idxInfo Tryz.prog 80=some (some 4,1))∧
 (intKindOf Tryz.prog 3=some .i64)∧
 (intKindOf Tryz.prog 40=none)∧
 (intKindOf Tryz.prog 5=some .u8)∧
 (intKindOf Tryz.prog 9=none)∧
 (isBool Tryz.prog 4=true)∧
 (isBytes Tryz.prog 40=true)∧
 (isStr Tryz.prog 23=false)∧
 (isStr Tryz.prog 27=false)∧
 (isStr Tryz.prog 3=false)∧
 (isStr Tryz.prog 32=false)∧
 (isStr Tryz.prog 36=false)∧
 (isStr Tryz.prog 37=false)∧
 (isStr Tryz.prog 40=false)∧
 (isStr Tryz.prog 5=false)∧
 (isStr Tryz.prog 77=false)∧
 (isStr Tryz.prog 80=false)∧
 (isStr Tryz.prog 9=true)∧
 (rowSz Tryz.prog 2=some none)∧
 (rowSz Tryz.prog 3=some none)∧
 (rowSz Tryz.prog 32=some none)∧
 (rowSz Tryz.prog 34=some (some 5))∧
 (rowSz Tryz.prog 4=some none)∧
 (rowSz Tryz.prog 49=some (some 5))∧
 (rowSz Tryz.prog 5=some none)∧
 (rowSz Tryz.prog 67=some none)∧
 (rowSz Tryz.prog 77=some (some 14))∧
 (rowSz Tryz.prog 80=some (some 4))∧
 (rowSz Tryz.prog 9=some none)∧
 (rowSz Tryz.prog 92=some (some 2))∧
 (sliceInfo Tryz.prog 23=some (49,[.int .u8 0,.int .i64 0,.string ⟨#[]⟩,.int .i64 0,.slice none 0 0],5))∧
 (sliceInfo Tryz.prog 27=some (34,[.int .u8 0,.int .i64 0,.string ⟨#[]⟩,.int .i64 0,.slice none 0 0],5))∧
 (sliceInfo Tryz.prog 32=some (3,[.int .i64 0],1))∧
 (sliceInfo Tryz.prog 36=some (32,[.slice none 0 0],1))∧
 (sliceInfo Tryz.prog 37=some (9,[.string ⟨#[]⟩],1))∧
 (sliceInfo Tryz.prog 40=some (5,[.int .u8 0],1))∧
 (szOf Tryz.prog 3=some 1)∧
 (szOf Tryz.prog 32=some 1)∧
 (szOf Tryz.prog 34=some 5)∧
 (szOf Tryz.prog 49=some 5)∧
 (szOf Tryz.prog 5=some 1)∧
 (szOf Tryz.prog 77=some 14)∧
 (szOf Tryz.prog 80=some 4)∧
 (szOf Tryz.prog 9=some 1)∧
 (szOf Tryz.prog 92=some 2)∧
 (zeroOf Tryz.prog 34=some [.int .u8 0,.int .i64 0,.string ⟨#[]⟩,.int .i64 0,.slice none 0 0])∧
 (zeroOf Tryz.prog 49=some [.int .u8 0,.int .i64 0,.string ⟨#[]⟩,.int .i64 0,.slice none 0 0])∧
 (zeroOf Tryz.prog 65=some [.pointer none,.slice none 0 0])∧
 (zeroOf Tryz.prog 77=some [.string ⟨#[]⟩,.string ⟨#[]⟩,.string ⟨#[]⟩,.string ⟨#[]⟩,.string ⟨#[]⟩,.string ⟨#[]⟩,.string ⟨#[]⟩,.string ⟨#[]⟩,.string ⟨#[]⟩,.string ⟨#[]⟩,.string ⟨#[]⟩,.string ⟨#[]⟩,.string ⟨#[]⟩,.string ⟨#[]⟩])∧
 (zeroOf Tryz.prog 80=some [.string ⟨#[]⟩,.string ⟨#[]⟩,.string ⟨#[]⟩,.string ⟨#[]⟩])∧
 (zeroOf Tryz.prog 92=some [.slice none 0 0,.bool false]):=
 ⟨ty0,ty1,ty2,ty3,ty4,ty5,ty6,ty7,ty8,ty9,ty10,ty11,ty12,ty13,ty14,ty15,ty16,ty17,ty18,ty19,ty20,ty21,ty22,ty23,ty24,ty25,ty26,ty27,ty28,ty29,ty30,ty31,ty32,ty33,ty34,ty35,ty36,ty37,ty38,ty39,ty40,ty41,ty42,ty43,ty44,ty45,ty46,ty47,ty48,ty49,ty50,ty51,ty52,ty53,ty54,ty55,ty56,ty57,ty58,ty59,ty60,ty61,ty62,ty63,ty64,ty65,ty66,ty67,ty68,ty69,ty70,ty71,ty72,ty73,ty74,ty75,ty76,ty77,ty78,ty79,ty80,ty81,ty82,ty83,ty84,ty85⟩
end Go.Proofs.YtpjodoipceddpaaGreatDoor.Aw
