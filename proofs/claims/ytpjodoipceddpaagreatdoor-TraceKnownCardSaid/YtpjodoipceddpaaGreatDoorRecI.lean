/- Records in memory. -/
import Derived.Test.YtpjodoipceddpaaGreatDoorRecRt
import Derived.Test.YtpjodoipceddpaaGreatDoorBase
import Derived.Test.YtpjodoipceddpaaGreatDoorProg
namespace Go.Proofs.YtpjodoipceddpaaGreatDoor.Rc
open Go.RowKit Go.Lib Go.Proofs.YtpjodoipceddpaaGreatDoor
def intC :Cod Int where
 size:=1
 cells x:=[.int .i64 x]
 len _:=rfl
 one x u hu:=by rw[List.mem_singleton] at hu;subst hu;rfl
 pos:=by decide
structure RecV where
 op:Int
 at_:Int
 name:ByteArray
 arg:Int
 A:Option Addr
 m:Nat
 c:Nat
def recC :Cod RecV where
 size:=5
 cells x:=[.int .u8 x.op,.int .i64 x.at_,.string x.name,.int .i64 x.arg,.slice x.A x.m x.c]
 len _:=rfl
 one x u hu:=by simp only[List.mem_cons,List.not_mem_nil,or_false] at hu;rcases hu with rfl|rfl|rfl|rfl|rfl<;>rfl
 pos:=by decide
structure RecX where
 t:RecV
 oa:Option Nat
 m:RecM
def RecOk (w:World) (x:RecX):Prop:=
 x.t.op=x.m.op∧x.t.at_=x.m.at_∧x.t.name=⟨x.m.name.toArray⟩∧x.t.arg=x.m.arg∧x.t.m=x.m.list.length∧Own intC w 3 (.slice x.t.A x.t.m x.t.c) x.oa x.m.list
structure RecL (w:World) (base:Nat) (v:Value) (o:Option Nat) (X:List RecX):Prop where
 own:Own recC w 34 v o (X.map (·.t))
 ok:∀x∈X,RecOk w x
 new:∀k,o=some k→base≤k∧k<w.heap.size
 newa:∀x∈X,∀k,x.oa=some k→base≤k∧k<w.heap.size∧o≠some k
end Go.Proofs.YtpjodoipceddpaaGreatDoor.Rc
