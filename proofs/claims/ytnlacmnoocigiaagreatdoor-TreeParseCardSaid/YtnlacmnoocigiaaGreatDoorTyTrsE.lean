/- Facts on the types of this seat, as abstract walks ask for them; printed by a program. -/
import Derived.Test.YtnlacmnoocigiaaGreatDoorAwTwo
import Derived.Test.YtnlacmnoocigiaaGreatDoorProg
import Derived.RowKit
import Derived.Test.YtnlacmnoocigiaaGreatDoorAwThr
import Derived.Test.YtnlacmnoocigiaaGreatDoorTrePq
import Derived.Laws.StructEq
import Derived.Shelf.SlicesE.Kit
namespace Go.Proofs.YtnlacmnoocigiaaGreatDoor.Aw
theorem ty0 :z1e Tryz.prog 25=some ([.slice none 0 0],[(0,1)]):=by kernel_rfl
theorem ty1 :z1e Tryz.prog 47=some ([.string ⟨#[]⟩,.string ⟨#[]⟩],[(0,1),(1,1)]):=by kernel_rfl
theorem ty2 :z1e Tryz.prog 60=some ([.slice none 0 0,.int .i64 0,.slice none 0 0,.int .i64 0,.int .i64 0,.int .i64 0],[(0,1),(1,1),(2,1),(3,1),(4,1),(5,1)]):=by kernel_rfl
theorem ty3 :z1e Tryz.prog 79=some ([.string ⟨#[]⟩,.slice none 0 0,.string ⟨#[]⟩,.int .i64 0,.int .i64 0,.int .i64 0,.int .i64 0],[(0,1),(1,1),(2,1),(3,1),(4,1),(5,1),(6,1)]):=by kernel_rfl
theorem ty4 :z1e Tryz.prog 80=some ([.string ⟨#[]⟩,.string ⟨#[]⟩],[(0,1),(1,1)]):=by kernel_rfl
theorem ty5 :za2 Tryz.prog 23=some (79,7,88):=by kernel_rfl
theorem ty6 :za2 Tryz.prog 77=some (80,2,32):=by kernel_rfl
theorem ty7 :z02 Tryz.prog 132 0=some 0:=by kernel_rfl
theorem ty8 :z02 Tryz.prog 132 1=some 1:=by kernel_rfl
theorem ty9 :z02 Tryz.prog 25 0=some 0:=by kernel_rfl
theorem ty10 :z02 Tryz.prog 31 0=some 0:=by kernel_rfl
theorem ty11 :z02 Tryz.prog 45 0=some 0:=by kernel_rfl
theorem ty12 :z02 Tryz.prog 45 1=some 1:=by kernel_rfl
theorem ty13 :z02 Tryz.prog 45 2=some 2:=by kernel_rfl
theorem ty14 :z02 Tryz.prog 45 3=some 3:=by kernel_rfl
theorem ty15 :z02 Tryz.prog 45 4=some 4:=by kernel_rfl
theorem ty16 :z02 Tryz.prog 45 5=some 5:=by kernel_rfl
theorem ty17 :z02 Tryz.prog 45 6=some 6:=by kernel_rfl
theorem ty18 :z02 Tryz.prog 47 0=some 0:=by kernel_rfl
theorem ty19 :z02 Tryz.prog 47 1=some 1:=by kernel_rfl
theorem ty20 :z02 Tryz.prog 60 0=some 0:=by kernel_rfl
theorem ty21 :z02 Tryz.prog 60 1=some 1:=by kernel_rfl
theorem ty22 :z02 Tryz.prog 60 2=some 2:=by kernel_rfl
theorem ty23 :z02 Tryz.prog 60 3=some 3:=by kernel_rfl
theorem ty24 :z02 Tryz.prog 60 4=some 4:=by kernel_rfl
theorem ty25 :z02 Tryz.prog 60 5=some 5:=by kernel_rfl
theorem ty26 :z02 Tryz.prog 63 0=some 0:=by kernel_rfl
theorem ty27 :z02 Tryz.prog 63 1=some 1:=by kernel_rfl
theorem ty28 :z02 Tryz.prog 63 2=some 2:=by kernel_rfl
theorem ty29 :z02 Tryz.prog 63 3=some 3:=by kernel_rfl
theorem ty30 :z02 Tryz.prog 63 4=some 4:=by kernel_rfl
theorem ty31 :z02 Tryz.prog 79 0=some 0:=by kernel_rfl
theorem ty32 :z02 Tryz.prog 79 1=some 1:=by kernel_rfl
theorem ty33 :z02 Tryz.prog 79 2=some 2:=by kernel_rfl
theorem ty34 :z02 Tryz.prog 79 3=some 3:=by kernel_rfl
theorem ty35 :z02 Tryz.prog 79 4=some 4:=by kernel_rfl
theorem ty36 :z02 Tryz.prog 79 5=some 5:=by kernel_rfl
theorem ty37 :z02 Tryz.prog 79 6=some 6:=by kernel_rfl
theorem ty38 :z02 Tryz.prog 80 0=some 0:=by kernel_rfl
theorem ty39 :z0m Tryz.prog 23=some (none,7):=by kernel_rfl
theorem ty40 :z0m Tryz.prog 29=some (none,7):=by kernel_rfl
theorem ty41 :z0m Tryz.prog 40=some (none,1):=by kernel_rfl
theorem ty42 :z0m Tryz.prog 43=some (none,2):=by kernel_rfl
theorem ty43 :z0m Tryz.prog 55=some (none,5):=by kernel_rfl
theorem ty44 :z0m Tryz.prog 61=some (none,3):=by kernel_rfl
theorem ty45 :z0m Tryz.prog 77=some (none,2):=by kernel_rfl
theorem ty46 :zf6 Tryz.prog 4=true:=by kernel_rfl
theorem ty47 :z3s Tryz.prog 23=false:=by kernel_rfl
theorem ty48 :z3s Tryz.prog 29=false:=by kernel_rfl
theorem ty49 :z3s Tryz.prog 40=false:=by kernel_rfl
theorem ty50 :z3s Tryz.prog 43=false:=by kernel_rfl
theorem ty51 :z3s Tryz.prog 55=false:=by kernel_rfl
theorem ty52 :z3s Tryz.prog 61=false:=by kernel_rfl
theorem ty53 :z3s Tryz.prog 77=false:=by kernel_rfl
theorem ty54 :z3s Tryz.prog 9=true:=by kernel_rfl
theorem ty55 :z1o Tryz.prog 23=some none:=by kernel_rfl
theorem ty56 :z1o Tryz.prog 25=some (some 1):=by kernel_rfl
theorem ty57 :z1o Tryz.prog 26=some none:=by kernel_rfl
theorem ty58 :z1o Tryz.prog 29=some none:=by kernel_rfl
theorem ty59 :z1o Tryz.prog 3=some none:=by kernel_rfl
theorem ty60 :z1o Tryz.prog 31=some (some 1):=by kernel_rfl
theorem ty61 :z1o Tryz.prog 43=some none:=by kernel_rfl
theorem ty62 :z1o Tryz.prog 45=some (some 7):=by kernel_rfl
theorem ty63 :z1o Tryz.prog 47=some (some 2):=by kernel_rfl
theorem ty64 :z1o Tryz.prog 5=some none:=by kernel_rfl
theorem ty65 :z1o Tryz.prog 55=some none:=by kernel_rfl
theorem ty66 :z1o Tryz.prog 61=some none:=by kernel_rfl
theorem ty67 :z1o Tryz.prog 63=some (some 5):=by kernel_rfl
theorem ty68 :z1o Tryz.prog 77=some none:=by kernel_rfl
theorem ty69 :z1o Tryz.prog 79=some (some 7):=by kernel_rfl
theorem ty70 :z1o Tryz.prog 80=some (some 2):=by kernel_rfl
theorem ty71 :z1o Tryz.prog 9=some none:=by kernel_rfl
theorem ty72 :z3t Tryz.prog 23=some (79,[.string ⟨#[]⟩,.slice none 0 0,.string ⟨#[]⟩,.int .i64 0,.int .i64 0,.int .i64 0,.int .i64 0],7):=by kernel_rfl
theorem ty73 :z3t Tryz.prog 77=some (80,[.string ⟨#[]⟩,.string ⟨#[]⟩],2):=by kernel_rfl
theorem ty74 :szOf Tryz.prog 23=some 1:=by kernel_rfl
theorem ty75 :szOf Tryz.prog 25=some 1:=by kernel_rfl
theorem ty76 :szOf Tryz.prog 26=some 1:=by kernel_rfl
theorem ty77 :szOf Tryz.prog 3=some 1:=by kernel_rfl
theorem ty78 :szOf Tryz.prog 31=some 1:=by kernel_rfl
theorem ty79 :szOf Tryz.prog 45=some 7:=by kernel_rfl
theorem ty80 :szOf Tryz.prog 47=some 2:=by kernel_rfl
theorem ty81 :szOf Tryz.prog 63=some 5:=by kernel_rfl
theorem ty82 :szOf Tryz.prog 77=some 1:=by kernel_rfl
theorem ty83 :szOf Tryz.prog 79=some 7:=by kernel_rfl
theorem ty84 :szOf Tryz.prog 80=some 2:=by kernel_rfl
theorem ty85 :szOf Tryz.prog 9=some 1:=by kernel_rfl
theorem ty86 :z5h Tryz.prog 25=some [.slice none 0 0]:=by kernel_rfl
theorem ty87 :z5h Tryz.prog 31=some [.slice none 0 0]:=by kernel_rfl
theorem ty88 :z5h Tryz.prog 45=some [.string ⟨#[]⟩,.slice none 0 0,.string ⟨#[]⟩,.int .i64 0,.int .i64 0,.int .i64 0,.int .i64 0]:=by kernel_rfl
theorem ty89 :z5h Tryz.prog 63=some [.int .u8 0,.string ⟨#[]⟩,.slice none 0 0,.string ⟨#[]⟩,.int .i64 0]:=by kernel_rfl
theorem ty90 :z5h Tryz.prog 79=some [.string ⟨#[]⟩,.slice none 0 0,.string ⟨#[]⟩,.int .i64 0,.int .i64 0,.int .i64 0,.int .i64 0]:=by kernel_rfl
theorem tys :(z1e Tryz.prog 25=some ([.slice none 0 0],[(0,1)]))∧
 (z1e Tryz.prog 47=some ([.string ⟨#[]⟩,.string ⟨#[]⟩],[(0,1),(1,1)]))∧
 (z1e Tryz.prog 60=some ([.slice none 0 0,.int .i64 0,.slice none 0 0,.int .i64 0,.int .i64 0,.int .i64 0],[(0,1),(1,1),(2,1),(3,1),(4,1),(5,1)]))∧
 (z1e Tryz.prog 79=some ([.string ⟨#[]⟩,.slice none 0 0,.string ⟨#[]⟩,.int .i64 0,.int .i64 0,.int .i64 0,.int .i64 0],[(0,1),(1,1),(2,1),(3,1),(4,1),(5,1),(6,1)]))∧
 (z1e Tryz.prog 80=some ([.string ⟨#[]⟩,.string ⟨#[]⟩],[(0,1),(1,1)]))∧
 (za2 Tryz.prog 23=some (79,7,88))∧
 (za2 Tryz.prog 77=some (80,2,32))∧
 (z02 Tryz.prog 132 0=some 0)∧
 (z02 Tryz.prog 132 1=some 1)∧
 (z02 Tryz.prog 25 0=some 0)∧
 (z02 Tryz.prog 31 0=some 0)∧
 (z02 Tryz.prog 45 0=some 0)∧
 (z02 Tryz.prog 45 1=some 1)∧
 (z02 Tryz.prog 45 2=some 2)∧
 (z02 Tryz.prog 45 3=some 3)∧
 (z02 Tryz.prog 45 4=some 4)∧
 (z02 Tryz.prog 45 5=some 5)∧
 (z02 Tryz.prog 45 6=some 6)∧
 (z02 Tryz.prog 47 0=some 0)∧
 (z02 Tryz.prog 47 1=some 1)∧
 (z02 Tryz.prog 60 0=some 0)∧
 (z02 Tryz.prog 60 1=some 1)∧
 (z02 Tryz.prog 60 2=some 2)∧
 (z02 Tryz.prog 60 3=some 3)∧
 (z02 Tryz.prog 60 4=some 4)∧
 (z02 Tryz.prog 60 5=some 5)∧
 (z02 Tryz.prog 63 0=some 0)∧
 (z02 Tryz.prog 63 1=some 1)∧
 (z02 Tryz.prog 63 2=some 2)∧
 (z02 Tryz.prog 63 3=some 3)∧
 (z02 Tryz.prog 63 4=some 4)∧
 (z02 Tryz.prog 79 0=some 0)∧
 (z02 Tryz.prog 79 1=some 1)∧
 (z02 Tryz.prog 79 2=some 2)∧
 (z02 Tryz.prog 79 3=some 3)∧
 (z02 Tryz.prog 79 4=some 4)∧
 (z02 Tryz.prog 79 5=some 5)∧
 (z02 Tryz.prog 79 6=some 6)∧
 (z02 Tryz.prog 80 0=some 0)∧
 (z0m Tryz.prog 23=some (none,7))∧
 (z0m Tryz.prog 29=some (none,7))∧
 (z0m Tryz.prog 40=some (none,1))∧
 (z0m Tryz.prog 43=some (none,2))∧
 (z0m Tryz.prog 55=some (none,5))∧
 (z0m Tryz.prog 61=some (none,3))∧
 (z0m Tryz.prog 77=some (none,2))∧
 (zf6 Tryz.prog 4=true)∧
 (z3s Tryz.prog 23=false)∧
 (z3s Tryz.prog 29=false)∧
 (z3s Tryz.prog 40=false)∧
 (z3s Tryz.prog 43=false)∧
 (z3s Tryz.prog 55=false)∧
 (z3s Tryz.prog 61=false)∧
 (z3s Tryz.prog 77=false)∧
 (z3s Tryz.prog 9=true)∧
 (z1o Tryz.prog 23=some none)∧
 (z1o Tryz.prog 25=some (some 1))∧
 (z1o Tryz.prog 26=some none)∧
 (z1o Tryz.prog 29=some none)∧
 (z1o Tryz.prog 3=some none)∧
 (z1o Tryz.prog 31=some (some 1))∧
 (z1o Tryz.prog 43=some none)∧
 (z1o Tryz.prog 45=some (some 7))∧
 (z1o Tryz.prog 47=some (some 2))∧
 (z1o Tryz.prog 5=some none)∧
 (z1o Tryz.prog 55=some none)∧
 (z1o Tryz.prog 61=some none)∧
 (z1o Tryz.prog 63=some (some 5))∧
 (z1o Tryz.prog 77=some none)∧
 (z1o Tryz.prog 79=some (some 7))∧
 (z1o Tryz.prog 80=some (some 2))∧
 (z1o Tryz.prog 9=some none)∧
 (z3t Tryz.prog 23=some (79,[.string ⟨#[]⟩,.slice none 0 0,.string ⟨#[]⟩,.int .i64 0,.int .i64 0,.int .i64 0,.int .i64 0],7))∧
 (z3t Tryz.prog 77=some (80,[.string ⟨#[]⟩,.string ⟨#[]⟩],2))∧
 (szOf Tryz.prog 23=some 1)∧
 (szOf Tryz.prog 25=some 1)∧
 (szOf Tryz.prog 26=some 1)∧
 (szOf Tryz.prog 3=some 1)∧
 (szOf Tryz.prog 31=some 1)∧
 (szOf Tryz.prog 45=some 7)∧
 (szOf Tryz.prog 47=some 2)∧
 (szOf Tryz.prog 63=some 5)∧
 (szOf Tryz.prog 77=some 1)∧
 (szOf Tryz.prog 79=some 7)∧
 (szOf Tryz.prog 80=some 2)∧
 (szOf Tryz.prog 9=some 1)∧
 (z5h Tryz.prog 25=some [.slice none 0 0])∧
 (z5h Tryz.prog 31=some [.slice none 0 0])∧
 (z5h Tryz.prog 45=some [.string ⟨#[]⟩,.slice none 0 0,.string ⟨#[]⟩,.int .i64 0,.int .i64 0,.int .i64 0,.int .i64 0])∧
 (z5h Tryz.prog 63=some [.int .u8 0,.string ⟨#[]⟩,.slice none 0 0,.string ⟨#[]⟩,.int .i64 0])∧
 (z5h Tryz.prog 79=some [.string ⟨#[]⟩,.slice none 0 0,.string ⟨#[]⟩,.int .i64 0,.int .i64 0,.int .i64 0,.int .i64 0]):=
 ⟨ty0,ty1,ty2,ty3,ty4,ty5,ty6,ty7,ty8,ty9,ty10,ty11,ty12,ty13,ty14,ty15,ty16,ty17,ty18,ty19,ty20,ty21,ty22,ty23,ty24,ty25,ty26,ty27,ty28,ty29,ty30,ty31,ty32,ty33,ty34,ty35,ty36,ty37,ty38,ty39,ty40,ty41,ty42,ty43,ty44,ty45,ty46,ty47,ty48,ty49,ty50,ty51,ty52,ty53,ty54,ty55,ty56,ty57,ty58,ty59,ty60,ty61,ty62,ty63,ty64,ty65,ty66,ty67,ty68,ty69,ty70,ty71,ty72,ty73,ty74,ty75,ty76,ty77,ty78,ty79,ty80,ty81,ty82,ty83,ty84,ty85,ty86,ty87,ty88,ty89,ty90⟩
end Go.Proofs.YtnlacmnoocigiaaGreatDoor.Aw
namespace Go.Proofs.YtnlacmnoocigiaaGreatDoor.Aw
open Go.RowKit Go.Lib
def encA (a:z0b):List AV:=[.sc (.string a.1),.sc (.string a.2)]
def encN (x:NodeM):List AV:=[.sc (.string x.name),.ro (x.attrs.map encA),.sc (.string x.text),.sc (.int .i64 x.parent),.sc (.int .i64 x.first),.sc (.int .i64 x.next),.sc (.int .i64 x.at_)]
def z16 (n:Nat):List AV:=List.replicate n .dead
def sp0 :Spec:=⟨fun _ _=>none,fun t a b=>if t=80 then(match a,b with
 |[.string x,.string y],[.string x',.string y']=>some (decide (x=x') && decide (y=y'))
 |_,_=>none) else none,fun _ _ _=>none,[],0⟩
theorem zf5 {x y x' y':ByteArray}:sp0.eqs 80 [.string x,.string y] [.string x',.string y']=some (decide (x=x') && decide (y=y')):=by simp[sp0]
theorem zwv (a b c d:ByteArray)(w:World):(Op.equal 80 (.agg #[.string a,.string b]) (.agg #[.string c,.string d])).run Tryz.prog w=.ok (decide (a=c) && decide (b=d)) w:=by
 have u3:=Tryz.underlying9;have a3:=Tryz.isAgg9;have z3:=Tryz.sizeOf9;have hS:Tryz.prog.underlying 80=some (.struct (Tryz.prog.fieldsOf 80)):=by kernel_rfl
 have hp:Tryz.prog.stoodInHeld 80=false:=by kernel_rfl
 show (Op.equalIn (9999+1) 80 _ _).run Tryz.prog w=_;rw[run_equalIn_agg w 9999 80 _ _ hS hp];simp only[Program.fieldsOf,Tryz.underlying80];rw[←bytes_beq,←bytes_beq];go_simp;by_cases h1:a.toList=c.toList<;>by_cases h2:b.toList=d.toList<;>simp[h1,h2]
theorem zu7 :zrc Tryz.prog sp0:=fun t a b r h w=>by
 unfold sp0 at h;simp only at h;split at h<;>try (cases h;done)
 rename_i ht;subst ht;split at h<;>try (cases h;done)
 cases h;exact⟨fun op x y=>run_eqGuard_agg w op 80 x y _ _ (by kernel_rfl),zwv _ _ _ _ w⟩
theorem zy0 (w:World):SpecOk Tryz.prog sp0 w (fun _=>False):=⟨zu7,fun f args c r rs h=>(by cases h),fun f args rows c r rs h=>by cases h⟩
end Go.Proofs.YtnlacmnoocigiaaGreatDoor.Aw
