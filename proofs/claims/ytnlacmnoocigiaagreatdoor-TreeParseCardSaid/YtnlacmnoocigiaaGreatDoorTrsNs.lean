/- tree: from what is read in memory to what the abstract walks take; the law's same, called. -/
import Derived.Test.YtnlacmnoocigiaaGreatDoorTrsMo
import Derived.Test.YtnlacmnoocigiaaGreatDoorTrlEf
import Derived.Test.YtnlacmnoocigiaaGreatDoorAwThr
import Derived.Test.YtnlacmnoocigiaaGreatDoorTrnAb
import Derived.Test.YtnlacmnoocigiaaGreatDoorTyTrsE
namespace Go.Proofs.YtnlacmnoocigiaaGreatDoor
open Go.RowKit Go.Lib
namespace Aw
def vecOf {α:Type}(C:Cod α)(x:α):Vec C.size:=⟨C.cells x,C.len x,C.one x⟩
theorem flat_vec {α:Type}(C:Cod α)(l:List α):(vecC C.size C.pos).flat (l.map (vecOf C))=C.flat l:=by unfold Cod.flat;rw[List.flatMap_map];rfl
theorem rd_vec {α:Type}{C:Cod α}{w:World}{S:Nat→Prop}{v:Value}{l:List α}(h:Rd C w S v l):Rd (vecC C.size C.pos) w S v (l.map (vecOf C)):=by obtain⟨A,cap,h1,h2,h3,h4,h5⟩:=h;refine⟨A,cap,by rw[List.length_map];exact h1,by rw[List.length_map];exact h2,h3,h4,fun hl=> ?_⟩;rw[List.length_map] at hl;obtain⟨g,off,a1,a2,a3⟩:=h5 hl;exact⟨g,off,a1,a2,fun j u hj=>a3 j u (by rw[←flat_vec];exact hj)⟩
theorem vc_ro {α β:Type}{C:Cod α}{w:World}{S:Nat→Prop}{v:Value}{X:List β}(f:β→α)(h:Rd C w S v (X.map f))(enc:β→List AV)(hl:∀x,(enc x).length=C.size)(ho:∀x∈X,∀(j:Nat) y u,(enc x)[j]? =some y→(C.cells (f x))[j]? =some u→VC S w y u):VC S w (.ro (X.map enc)) v:=by
 refine .ro _ C.size C.pos ((X.map f).map (vecOf C)) v (rd_vec h) (by simp) (fun i e he=> ?_) (fun i j e c x u h1 h2 h3 h4=> ?_)
 · rw[List.getElem?_map] at he
   cases hx:X[i]? with
   |none=>rw[hx] at he;cases he
   |some x=>rw[hx] at he;cases he;exact hl x
 · rw[List.getElem?_map] at h1 h2;rw[List.getElem?_map] at h2
   cases hx:X[i]? with
   |none=>rw[hx] at h1;cases h1
   |some z=>rw[hx] at h1 h2;cases h1;cases h2;exact ho z (List.mem_of_getElem? hx) j x u h3 h4
theorem vc_attrs {w:World}{S:Nat→Prop}{v:Value}{l:List z0b}(h:Rd pairC w S v l):VC S w (.ro (l.map encA)) v:=
 vc_ro id (by rw[List.map_id];exact h) encA (fun x=>rfl) (fun x hx j y u h1 h2=>by
  match j with
  |0=>cases h1;cases h2;exact .sc _
  |1=>cases h1;cases h2;exact .sc _
  |j+2=>simp[encA] at h1)
theorem vc_nodes {w:World}{S:Nat→Prop}{v:Value}{X:List NodeX}(h:NodesRd w S v X):VC S w (.ro ((X.map (·.model)).map encN)) v:=by
 rw[List.map_map];refine vc_ro NodeX.v h.rd (encN∘NodeX.model) (fun x=>rfl) (fun x hx j y u h1 h2=> ?_)
 match j with
 |0=>cases h1;cases h2;exact .sc _
 |1=>cases h1;cases h2;exact vc_attrs (h.ok x hx)
 |2=>cases h1;cases h2;exact .sc _
 |3=>cases h1;cases h2;exact .sc _
 |4=>cases h1;cases h2;exact .sc _
 |5=>cases h1;cases h2;exact .sc _
 |6=>cases h1;cases h2;exact .sc _
 |j+7=>simp[encN] at h1
end Aw
theorem zr5 {N M:List NodeM}{A B:Option Addr}{n m c d:Nat}(at_:Bool)(w:World)(hN:Tr N w A n c)(hM:Tr M w B m d):
 Calls Tryz.prog 8 #[.agg #[.slice A n c],.agg #[.slice B m d],.bool at_] w fun e w'=>e=.returned (.bool (zr4 at_ N M))∧Fr (fun _=>False) w w':=by
 obtain⟨X,S,h1,h2,rfl⟩:=hN;obtain⟨Y,S',k1,k2,rfl⟩:=hM;have vx:=(Aw.vc_nodes h1).keep (S':=fun k=>S k∨S' k) (fun k hk=>.inl hk) (fun _ _=>rfl);have vy:=(Aw.vc_nodes k1).keep (S':=fun k=>S k∨S' k) (fun k hk=>.inr hk) (fun _ _=>rfl)
 have agg1:∀{x:Aw.AV} {v:Value},v.oneCell'=true→Aw.VC (fun k=>S k∨S' k) w x v→Aw.VC (fun k=>S k∨S' k) w (.agg [x]) (.agg #[v]):=fun {x v} ho h=>
  .agg [x] [v] rfl (fun u hu=>by rw[List.mem_singleton] at hu;subst hu;exact ho) (fun i y u h1 h2=>by
   match i with
   |0=>cases h1;cases h2;exact h
   |i+1=>simp at h1)
 refine(Aw.same_con (Φ:=fun _=>True) (X.map (·.model)) (Y.map (·.model)) at_ w trivial (fun k=>S k∨S' k) [.agg #[.slice A n c],.agg #[.slice B m d],.bool at_] (fun k hk=>hk.elim (h2 k) (k2 k)) rfl (fun i x v a1 a2=> ?_)).mono (fun e w' h=> ?_)
 · match i with
   |0=>cases a1;cases a2;exact agg1 rfl vx
   |1=>cases a1;cases a2;exact agg1 rfl vy
   |2=>cases a1;cases a2;exact .sc _
   |i+3=>simp at a1
 · obtain⟨v,I',rfl,hm,hv⟩:=h;rw[hv.sc_inv];exact⟨rfl,hm.fr⟩
end Go.Proofs.YtnlacmnoocigiaaGreatDoor
namespace Go.Proofs.YtnlacmnoocigiaaGreatDoor
open Go.RowKit Go.Lib
namespace Aw
def decL {α:Type}(d:List AV→Option α):List (List AV)→Option (List α)
 |[]=>some []
 |e::l=>match d e,decL d l with
  |some x,some m=>some (x::m)
  |_,_=>none
end Aw
end Go.Proofs.YtnlacmnoocigiaaGreatDoor
namespace Go.Proofs.YtnlacmnoocigiaaGreatDoor
open Go.RowKit Go.Lib
namespace Aw
theorem enters_of {P:Program}{g:FuncId}{fn:Func}(h:P.funcs[g]? =some fn)(h1:(fn.name== "runtime.NumGoroutine")=false)(h2:fn.body.isNone=false):za0 P g:=⟨fn,h,h1,h2⟩
end Aw
end Go.Proofs.YtnlacmnoocigiaaGreatDoor
