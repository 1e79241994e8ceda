/- tree: the law's same, walked abstractly. -/
import Derived.Test.YtncecbgpkoihpaaGreatDoorAwThr
import Derived.Test.YtncecbgpkoihpaaGreatDoorTy
import Derived.Test.YtncecbgpkoihpaaGreatDoorTreNo
import Derived.Test.YtncecbgpkoihpaaGreatDoorTrsE
namespace Go.Proofs.YtncecbgpkoihpaaGreatDoor
def zjl (at_ : Bool) (x y : NodeM) : Bool := eqN x y && (!at_ || (x.at_ == y.at_))
theorem z1c (at_ : Bool) (x y : NodeM) : zjl at_ x y = true ↔ x.name = y.name ∧ x.attrs = y.attrs ∧ x.text = y.text ∧ x.parent = y.parent ∧ x.first = y.first ∧ x.next = y.next ∧ (at_ = true → x.at_ = y.at_) := by
 unfold zjl eqN eqL
 rw [Aw.bytes_beq, Aw.bytes_beq]
 simp only [Bool.and_eq_true, decide_eq_true_eq, beq_iff_eq, Bool.or_eq_true, Bool.not_eq_true']
 cases at_ <;> simp [and_assoc]
def z68 (at_ : Bool) : List NodeM → List NodeM → Bool
 | x :: a, y :: b => zjl at_ x y && z68 at_ a b
 | _, _ => true
def zgm (at_ : Bool) (N M : List NodeM) : Bool := decide (N.length = M.length) && z68 at_ N M
theorem zgn {at_ : Bool} {N M : List NodeM} {k : Nat} (h1 : k < N.length) (h2 : k < M.length) : z68 at_ (N.drop k) (M.drop k) = (zjl at_ N[k] M[k] && z68 at_ (N.drop (k + 1)) (M.drop (k + 1))) := by
 rw [List.drop_eq_getElem_cons h1, List.drop_eq_getElem_cons h2, z68]
theorem z8d : ∀ (N M : List NodeM), zgm false N M = eqNs N M
 | [], [] => rfl
 | [], _ :: _ => rfl
 | _ :: _, [] => rfl
 | x :: a, y :: b => by
   have ih := z8d a b
   unfold zgm at ih ⊢
   rw [eqNs, ← ih, z68]
   unfold zjl
   simp only [List.length_cons, Nat.add_right_cancel_iff, Bool.not_false, Bool.true_or, Bool.and_true]
   cases eqN x y <;> simp
end Go.Proofs.YtncecbgpkoihpaaGreatDoor
namespace Go.Proofs.YtncecbgpkoihpaaGreatDoor.Aw
open Go.RowKit Go.Lib
set_option maxHeartbeats 4000000 in
set_option maxRecDepth 100000 in
theorem zq0 {Φ : World → Prop} (N M : List NodeM) (at_ : Bool) : Con Tryz.prog Φ 42 [.agg [.ro (N.map encN)], .agg [.ro (M.map encN)], .sc (.bool at_)] (.sc (.bool (zgm at_ N M))) [] := by
 have hres : zgm at_ N M = (decide (N.length = M.length) && z68 at_ N M) := rfl
 rw [hres]
 refine zd8 [(6, [(12, [5, 6, 7, 8, 9])])] (fun w _ => zt8 w) (by kernel_rfl) Tryz.func42 rfl ?_
 intro hlen
 have hNM : ∀ L : List NodeM, zkp 6 (.agg [.ro (L.map encN)]) → L.length ≤ 9223372036854775807 ∧ ∀ x ∈ L, x.attrs.length ≤ 9223372036854775807 := fun L h => by
  have h1 := h (.ro (L.map encN)) (by simp)
  refine ⟨by simpa using h1.1, fun x hx => ?_⟩
  have h2 := h1.2 (encN x) (List.mem_map_of_mem hx) (.ro (x.attrs.map encA)) (by simp [encN])
  simpa using h2.1
 obtain ⟨hN1, hN2⟩ := hNM N (hlen _ (by simp))
 clear hNM hlen
 simp only [Tryz.ntmps42]
 simp only [List.length_cons, List.length_nil, Nat.reduceAdd, Nat.reduceSub, List.replicate_succ, List.replicate_zero, List.cons_append, List.nil_append]
 by_cases hl : ¬ N.length = M.length
 · have hl2 : ((N.length : Int) != M.length) = true := by simp; omega
   simp (maxSteps := 2000000) only [↓awA, awB, evA, envE, ofV, putE, z03, setRow, spl, oneP, z0w, frzA, mapO, z1i, z0j, z0b, z0d, z1o, z29, Nat.reduceAdd, reduceIte, reduceCtorEq, Nat.reduceLT, Nat.reduceLeDiff, Nat.reduceEqDiff, Nat.reduceSub, tys,  hl2, Tryz.results42]
   simp [hl]
 have hl : N.length = M.length := Classical.not_not.mp hl
 have hl2 : ((N.length : Int) != M.length) = false := by simp; omega
 simp (maxSteps := 2000000) only [↓awA, awB, evA, envE, ofV, putE, z03, setRow, spl, oneP, z0w, frzA, mapO, z1i, z0j, z0b, z0d, z1o, z29, Nat.reduceAdd, reduceIte, reduceCtorEq, Nat.reduceLT, Nat.reduceLeDiff, Nat.reduceEqDiff, Nat.reduceSub, tys,  hl2]
 rw [decide_eq_true hl, Bool.true_and]
 refine zf4 (fun k : Nat => [.dead, .dead, .sc (.bool at_), .ptr 0 0, .ptr 1 0, .dead, .dead, .sc (.int .i64 (k : Int))] ++ z8c 97) (fun _ => [.var [.ro (N.map encN)] 68, .var [.ro (M.map encN)] 68])
  (fun k => k ≤ N.length ∧ z68 at_ (N.drop k) (M.drop k) = z68 at_ N M) (fun k => N.length - k) 0 ?_ ⟨Nat.zero_le _, rfl⟩ ?_
 · simp [Weak, z8u, zam, zal, okA, z03, z8c]
 rintro k ⟨hk, hs⟩
 simp only [z8c, List.replicate_succ, List.replicate_zero, List.cons_append, List.nil_append]
 by_cases hlt : ¬ k < N.length
 · simp (maxSteps := 2000000) only [↓awA, awB, evA, envE, ofV, putE, z03, setRow, spl, oneP, z0w, frzA, mapO, z1i, z0j, z0b, z0d, z1o, z29, Nat.reduceAdd, reduceIte, reduceCtorEq, Nat.reduceLT, Nat.reduceLeDiff, Nat.reduceEqDiff, Nat.reduceSub, tys,  hlt, Tryz.results42]
   rw [← hs, List.drop_of_length_le (by omega)]
   rfl
 have hlt : k < N.length := Classical.not_not.mp hlt
 have hlt2 : k < M.length := by omega
 rw [zgn hlt hlt2] at hs
 have hxa := hN2 _ (List.getElem_mem hlt)
 generalize hx : N[k] = x at hs hxa
 generalize hy : M[k] = y at hs
 simp (maxSteps := 2000000) only [↓awA, awB, evA, envE, ofV, putE, z03, setRow, spl, oneP, z0w, frzA, mapO, z1i, z0j, z0b, z0d, z1o, z29, Nat.reduceAdd, reduceIte, reduceCtorEq, Nat.reduceLT, Nat.reduceLeDiff, Nat.reduceEqDiff, Nat.reduceSub, tys,  hlt, hlt2, hx, hy, encN]
 refine ⟨zf0 (by kernel_rfl), ?_⟩
 have hno : zjl at_ x y = false → z68 at_ N M = false := fun e => by rw [← hs, e]; rfl
 cases h1 : decide (x.name = y.name)
 case false =>
  rw [hno (Bool.eq_false_iff.2 fun e => absurd ((z1c _ _ _).1 e).1 (of_decide_eq_false h1))]
  simp (maxSteps := 2000000) only [↓awA, awB, evA, envE, ofV, putE, z03, setRow, spl, oneP, z0w, frzA, mapO, z1i, z0j, z0b, z0d, z1o, z29, Nat.reduceAdd, reduceIte, reduceCtorEq, Nat.reduceLT, Nat.reduceLeDiff, Nat.reduceEqDiff, Nat.reduceSub, tys,  h1, Tryz.results42]
 cases h2 : decide (x.text = y.text)
 case false =>
  rw [hno (Bool.eq_false_iff.2 fun e => absurd ((z1c _ _ _).1 e).2.2.1 (of_decide_eq_false h2))]
  simp (maxSteps := 2000000) only [↓awA, awB, evA, envE, ofV, putE, z03, setRow, spl, oneP, z0w, frzA, mapO, z1i, z0j, z0b, z0d, z1o, z29, Nat.reduceAdd, reduceIte, reduceCtorEq, Nat.reduceLT, Nat.reduceLeDiff, Nat.reduceEqDiff, Nat.reduceSub, tys,  h1, h2, Tryz.results42]
 cases h3 : (x.parent != y.parent)
 case true =>
  rw [hno (Bool.eq_false_iff.2 fun e => absurd ((z1c _ _ _).1 e).2.2.2.1 (by simpa using h3))]
  simp (maxSteps := 2000000) only [↓awA, awB, evA, envE, ofV, putE, z03, setRow, spl, oneP, z0w, frzA, mapO, z1i, z0j, z0b, z0d, z1o, z29, Nat.reduceAdd, reduceIte, reduceCtorEq, Nat.reduceLT, Nat.reduceLeDiff, Nat.reduceEqDiff, Nat.reduceSub, tys,  h1, h2, h3, Tryz.results42]
 cases h4 : (x.first != y.first)
 case true =>
  rw [hno (Bool.eq_false_iff.2 fun e => absurd ((z1c _ _ _).1 e).2.2.2.2.1 (by simpa using h4))]
  simp (maxSteps := 2000000) only [↓awA, awB, evA, envE, ofV, putE, z03, setRow, spl, oneP, z0w, frzA, mapO, z1i, z0j, z0b, z0d, z1o, z29, Nat.reduceAdd, reduceIte, reduceCtorEq, Nat.reduceLT, Nat.reduceLeDiff, Nat.reduceEqDiff, Nat.reduceSub, tys,  h1, h2, h3, h4, Tryz.results42]
 cases h5 : (x.next != y.next)
 case true =>
  rw [hno (Bool.eq_false_iff.2 fun e => absurd ((z1c _ _ _).1 e).2.2.2.2.2.1 (by simpa using h5))]
  simp (maxSteps := 2000000) only [↓awA, awB, evA, envE, ofV, putE, z03, setRow, spl, oneP, z0w, frzA, mapO, z1i, z0j, z0b, z0d, z1o, z29, Nat.reduceAdd, reduceIte, reduceCtorEq, Nat.reduceLT, Nat.reduceLeDiff, Nat.reduceEqDiff, Nat.reduceSub, tys,  h1, h2, h3, h4, h5, Tryz.results42]
 cases h6 : ((x.attrs.length : Int) != y.attrs.length)
 case true =>
  rw [hno (Bool.eq_false_iff.2 fun e => absurd (congrArg (fun l => (List.length l : Int)) ((z1c _ _ _).1 e).2.1) (by simpa using h6))]
  simp (maxSteps := 2000000) only [↓awA, awB, evA, envE, ofV, putE, z03, setRow, spl, oneP, z0w, frzA, mapO, z1i, z0j, z0b, z0d, z1o, z29, Nat.reduceAdd, reduceIte, reduceCtorEq, Nat.reduceLT, Nat.reduceLeDiff, Nat.reduceEqDiff, Nat.reduceSub, tys,  h1, h2, h3, h4, h5, h6, Tryz.results42]
 cases at_
 case true =>
  cases h7 : (x.at_ != y.at_)
  case true =>
   rw [hno (Bool.eq_false_iff.2 fun e => absurd (((z1c _ _ _).1 e).2.2.2.2.2.2 rfl) (by simpa using h7))]
   simp (maxSteps := 2000000) only [↓awA, awB, evA, envE, ofV, putE, z03, setRow, spl, oneP, z0w, frzA, mapO, z1i, z0j, z0b, z0d, z1o, z29, Nat.reduceAdd, reduceIte, reduceCtorEq, Nat.reduceLT, Nat.reduceLeDiff, Nat.reduceEqDiff, Nat.reduceSub, tys,  h1, h2, h3, h4, h5, h6, h7, Tryz.results42]
  simp (maxSteps := 2000000) only [↓awA, awB, evA, envE, ofV, putE, z03, setRow, spl, oneP, z0w, frzA, mapO, z1i, z0j, z0b, z0d, z1o, z29, Nat.reduceAdd, reduceIte, reduceCtorEq, Nat.reduceLT, Nat.reduceLeDiff, Nat.reduceEqDiff, Nat.reduceSub, tys,  h1, h2, h3, h4, h5, h6, h7]
  have hal : x.attrs.length = y.attrs.length := by
   have h := h6
   simp only [bne_eq_false_iff_eq] at h
   omega
  refine zf4 (fun j : Nat => [.dead, .dead, .sc (.bool true), .ptr 0 0, .ptr 1 0, .dead, .dead, .sc (.int .i64 (k : Int)), .ptr 2 0, .ptr 3 0, .sc (.int .i64 (j : Int))] ++ z8c 94)
   (fun _ => [.var [.ro (N.map encN)] 68, .var [.ro (M.map encN)] 68,
    .var [.sc (.string x.name), .ro (x.attrs.map encA), .sc (.string x.text), .sc (.int .i64 x.parent), .sc (.int .i64 x.first), .sc (.int .i64 x.next), .sc (.int .i64 x.at_)] 170,
    .var [.sc (.string y.name), .ro (y.attrs.map encA), .sc (.string y.text), .sc (.int .i64 y.parent), .sc (.int .i64 y.first), .sc (.int .i64 y.next), .sc (.int .i64 y.at_)] 170])
   (fun j => j ≤ x.attrs.length ∧ x.attrs.take j = y.attrs.take j) (fun j => x.attrs.length - j) 0 ?_ ⟨Nat.zero_le _, rfl⟩ ?_
  · simp [Weak, z8u, zam, zal, okA, z03, z8c]
  rintro j ⟨hj, ht⟩
  simp only [z8c, List.replicate_succ, List.replicate_zero, List.cons_append, List.nil_append]
  by_cases hjl : ¬ j < x.attrs.length
  · simp (maxSteps := 2000000) only [↓awA, awB, evA, envE, ofV, putE, z03, setRow, spl, oneP, z0w, frzA, mapO, z1i, z0j, z0b, z0d, z1o, z29, Nat.reduceAdd, reduceIte, reduceCtorEq, Nat.reduceLT, Nat.reduceLeDiff, Nat.reduceEqDiff, Nat.reduceSub, tys,  hjl]
    have hat : x.attrs = y.attrs := by
     rw [List.take_of_length_le (by omega), List.take_of_length_le (by omega)] at ht
     exact ht
    refine z5v (k + 1) ?_ ⟨by omega, ?_⟩ (by omega)
    · have hwr : IntKind.i64.wrap ((k : Int) + 1) = ((k + 1 : Nat) : Int) := by rw [IntWalk.i64_in _ (by omega)]; omega
      rw [hwr]
      simp [Weak, z8u, zam, zal, okA, z03, z8c]
    · rw [← hs, (z1c true x y).2 ⟨of_decide_eq_true h1, hat, of_decide_eq_true h2, by simpa using h3, by simpa using h4, by simpa using h5, fun _ => by simpa using h7⟩, Bool.true_and]
  have hjl : j < x.attrs.length := Classical.not_not.mp hjl
  have hjl2 : j < y.attrs.length := by omega
  have hnx : x.attrs[j] = y.attrs[j] → x.attrs.take (j + 1) = y.attrs.take (j + 1) := fun e => by
   rw [List.take_succ_eq_append_getElem hjl, List.take_succ_eq_append_getElem hjl2, ht, e]
  have hnn : x.attrs[j] ≠ y.attrs[j] → x.attrs ≠ y.attrs := fun e h => e (by simp only [h])
  generalize ha : x.attrs[j] = a at hnx hnn
  generalize hb : y.attrs[j] = b at hnx hnn
  cases hab : (decide (a.1 = b.1) && decide (a.2 = b.2))
  case false =>
   rw [hno (Bool.eq_false_iff.2 fun e => hnn (fun e2 => by rw [e2] at hab; simp at hab) ((z1c _ _ _).1 e).2.1)]
   simp (maxSteps := 2000000) only [↓awA, awB, evA, envE, ofV, putE, z03, setRow, spl, oneP, z0w, frzA, mapO, z1i, z0j, z0b, z0d, z1o, z29, Nat.reduceAdd, reduceIte, reduceCtorEq, Nat.reduceLT, Nat.reduceLeDiff, Nat.reduceEqDiff, Nat.reduceSub, tys,  hjl, hjl2, ha, hb, encA, zcu, hab, Tryz.results42]
   exact zf0 (by kernel_rfl)
  simp (maxSteps := 2000000) only [↓awA, awB, evA, envE, ofV, putE, z03, setRow, spl, oneP, z0w, frzA, mapO, z1i, z0j, z0b, z0d, z1o, z29, Nat.reduceAdd, reduceIte, reduceCtorEq, Nat.reduceLT, Nat.reduceLeDiff, Nat.reduceEqDiff, Nat.reduceSub, tys,  hjl, hjl2, ha, hb, encA, zcu, hab]
  refine ⟨zf0 (by kernel_rfl), ?_⟩
  refine z5v (j + 1) ?_ ⟨by omega, hnx (by simp only [Bool.and_eq_true, decide_eq_true_eq] at hab; exact Prod.ext hab.1 hab.2)⟩ (by omega)
  have hwr : IntKind.i64.wrap ((j : Int) + 1) = ((j + 1 : Nat) : Int) := by rw [IntWalk.i64_in _ (by omega)]; omega
  rw [hwr]
  simp [Weak, z8u, zam, zal, okA, z03, z8c]
 simp (maxSteps := 2000000) only [↓awA, awB, evA, envE, ofV, putE, z03, setRow, spl, oneP, z0w, frzA, mapO, z1i, z0j, z0b, z0d, z1o, z29, Nat.reduceAdd, reduceIte, reduceCtorEq, Nat.reduceLT, Nat.reduceLeDiff, Nat.reduceEqDiff, Nat.reduceSub, tys,  h1, h2, h3, h4, h5, h6]
 have hal : x.attrs.length = y.attrs.length := by
  have h := h6
  simp only [bne_eq_false_iff_eq] at h
  omega
 refine zf4 (fun j : Nat => [.dead, .dead, .sc (.bool false), .ptr 0 0, .ptr 1 0, .dead, .dead, .sc (.int .i64 (k : Int)), .ptr 2 0, .ptr 3 0, .sc (.int .i64 (j : Int))] ++ z8c 94)
  (fun _ => [.var [.ro (N.map encN)] 68, .var [.ro (M.map encN)] 68,
   .var [.sc (.string x.name), .ro (x.attrs.map encA), .sc (.string x.text), .sc (.int .i64 x.parent), .sc (.int .i64 x.first), .sc (.int .i64 x.next), .sc (.int .i64 x.at_)] 170,
   .var [.sc (.string y.name), .ro (y.attrs.map encA), .sc (.string y.text), .sc (.int .i64 y.parent), .sc (.int .i64 y.first), .sc (.int .i64 y.next), .sc (.int .i64 y.at_)] 170])
  (fun j => j ≤ x.attrs.length ∧ x.attrs.take j = y.attrs.take j) (fun j => x.attrs.length - j) 0 ?_ ⟨Nat.zero_le _, rfl⟩ ?_
 · simp [Weak, z8u, zam, zal, okA, z03, z8c]
 rintro j ⟨hj, ht⟩
 simp only [z8c, List.replicate_succ, List.replicate_zero, List.cons_append, List.nil_append]
 by_cases hjl : ¬ j < x.attrs.length
 · simp (maxSteps := 2000000) only [↓awA, awB, evA, envE, ofV, putE, z03, setRow, spl, oneP, z0w, frzA, mapO, z1i, z0j, z0b, z0d, z1o, z29, Nat.reduceAdd, reduceIte, reduceCtorEq, Nat.reduceLT, Nat.reduceLeDiff, Nat.reduceEqDiff, Nat.reduceSub, tys,  hjl]
   have hat : x.attrs = y.attrs := by
    rw [List.take_of_length_le (by omega), List.take_of_length_le (by omega)] at ht
    exact ht
   refine z5v (k + 1) ?_ ⟨by omega, ?_⟩ (by omega)
   · have hwr : IntKind.i64.wrap ((k : Int) + 1) = ((k + 1 : Nat) : Int) := by rw [IntWalk.i64_in _ (by omega)]; omega
     rw [hwr]
     simp [Weak, z8u, zam, zal, okA, z03, z8c]
   · rw [← hs, (z1c false x y).2 ⟨of_decide_eq_true h1, hat, of_decide_eq_true h2, by simpa using h3, by simpa using h4, by simpa using h5, fun h => by cases h⟩, Bool.true_and]
 have hjl : j < x.attrs.length := Classical.not_not.mp hjl
 have hjl2 : j < y.attrs.length := by omega
 have hnx : x.attrs[j] = y.attrs[j] → x.attrs.take (j + 1) = y.attrs.take (j + 1) := fun e => by
  rw [List.take_succ_eq_append_getElem hjl, List.take_succ_eq_append_getElem hjl2, ht, e]
 have hnn : x.attrs[j] ≠ y.attrs[j] → x.attrs ≠ y.attrs := fun e h => e (by simp only [h])
 generalize ha : x.attrs[j] = a at hnx hnn
 generalize hb : y.attrs[j] = b at hnx hnn
 cases hab : (decide (a.1 = b.1) && decide (a.2 = b.2))
 case false =>
  rw [hno (Bool.eq_false_iff.2 fun e => hnn (fun e2 => by rw [e2] at hab; simp at hab) ((z1c _ _ _).1 e).2.1)]
  simp (maxSteps := 2000000) only [↓awA, awB, evA, envE, ofV, putE, z03, setRow, spl, oneP, z0w, frzA, mapO, z1i, z0j, z0b, z0d, z1o, z29, Nat.reduceAdd, reduceIte, reduceCtorEq, Nat.reduceLT, Nat.reduceLeDiff, Nat.reduceEqDiff, Nat.reduceSub, tys,  hjl, hjl2, ha, hb, encA, zcu, hab, Tryz.results42]
  exact zf0 (by kernel_rfl)
 simp (maxSteps := 2000000) only [↓awA, awB, evA, envE, ofV, putE, z03, setRow, spl, oneP, z0w, frzA, mapO, z1i, z0j, z0b, z0d, z1o, z29, Nat.reduceAdd, reduceIte, reduceCtorEq, Nat.reduceLT, Nat.reduceLeDiff, Nat.reduceEqDiff, Nat.reduceSub, tys,  hjl, hjl2, ha, hb, encA, zcu, hab]
 refine ⟨zf0 (by kernel_rfl), ?_⟩
 refine z5v (j + 1) ?_ ⟨by omega, hnx (by simp only [Bool.and_eq_true, decide_eq_true_eq] at hab; exact Prod.ext hab.1 hab.2)⟩ (by omega)
 have hwr : IntKind.i64.wrap ((j : Int) + 1) = ((j + 1 : Nat) : Int) := by rw [IntWalk.i64_in _ (by omega)]; omega
 rw [hwr]
 simp [Weak, z8u, zam, zal, okA, z03, z8c]
end Go.Proofs.YtncecbgpkoihpaaGreatDoor.Aw
