/- token: the cutter's attr. -/
import Derived.Test.YtalbehjjgdedcaaGreatDoorTokA
namespace Go.Proofs.YtalbehjjgdedcaaGreatDoor
open Go.RowKit Go.Lib
attribute [local go_sem ↓] Go.wp_at_zero Go.wp_at_succ

theorem indexByte_mem (l : List UInt8) (c : UInt8) : decide (0 ≤ Lib.indexByte l c) = decide (c ∈ l) := by
  congr 1
  rw [eq_iff_iff]
  have h0 := Lib.indexByte_ge l c
  constructor
  · intro h
    obtain ⟨o, ho⟩ : ∃ o : Nat, Lib.indexByte l c = o := ⟨(Lib.indexByte l c).toNat, by omega⟩
    exact List.mem_of_getElem? (Lib.indexByte_some ho).1
  · intro h
    rcases (show Lib.indexByte l c < 0 ∨ 0 ≤ Lib.indexByte l c by omega) with h1 | h1
    · obtain ⟨i, hi, he⟩ := List.getElem_of_mem h
      exact absurd (by rw [List.getElem?_eq_getElem hi, he]) (Lib.indexByte_none (show Lib.indexByte l c = -1 by omega) i)
    · exact h1
theorem takeWhile_first {q : UInt8} {a r : List UInt8} (h : q ∉ a) : (a ++ q :: r).takeWhile (· != q) = a := by
  rw [List.takeWhile_append_of_pos (fun b hb => by simp only [bne_iff_ne, ne_eq]; intro e; exact h (e ▸ hb)), List.takeWhile_cons, if_neg (by simp), List.append_nil]
theorem cut_mem {q : UInt8} {l : List UInt8} (h : q ∈ l) : cut l [q] = (l.takeWhile (· != q), l.drop ((l.takeWhile (· != q)).length + 1), true) := by
  obtain ⟨a, r, rfl, ha⟩ := mem_split_first h
  rw [cut_one ha, takeWhile_first ha, ← List.drop_drop, List.drop_left]
  rfl
theorem hasPrefix_one (l : List UInt8) (x : UInt8) : hasPrefix l [x] = true ↔ l[0]? = some x := by
  cases l with
  | nil => simp [hasPrefix, List.isPrefixOf]
  | cons b l =>
    simp only [hasPrefix, List.isPrefixOf, Bool.and_true, beq_iff_eq, List.getElem?_cons_zero, Option.some.injEq]
    exact eq_comm

def preEq (l : List UInt8) : List UInt8 := (l.drop (beginN l)).drop (nB (l.drop (beginN l)))
def preMark (l : List UInt8) : List UInt8 := ((preEq l).drop 1).drop (nB ((preEq l).drop 1))
theorem preMark_at (l : List UInt8) : preMark l = l.drop (markAt l) := by
  unfold preMark preEq markAt
  simp only [List.drop_drop, Nat.add_assoc]
theorem attrP_cases (l : List UInt8) :
    (beginN l = 0 ∧ attrP l = none) ∨
    (0 < beginN l ∧ hasPrefix (preEq l) [61] = false ∧ attrP l = none) ∨
    (0 < beginN l ∧ hasPrefix (preEq l) [61] = true ∧ preMark l = [] ∧ attrP l = none) ∨
    (∃ q l5, 0 < beginN l ∧ hasPrefix (preEq l) [61] = true ∧ preMark l = q :: l5 ∧ ((¬ (q = 34 ∨ q = 39) ∧ attrP l = none) ∨ ((q = 34 ∨ q = 39) ∧ ((q ∉ l5 ∧ attrP l = none) ∨ (q ∈ l5 ∧ (((60 : UInt8) ∈ l5.takeWhile (· != q) ∧ attrP l = none) ∨
      ((60 : UInt8) ∉ l5.takeWhile (· != q) ∧ ∃ k, attrP l = some (⟨l.take (beginN l), l5.takeWhile (· != q), l.length - l5.length⟩, k) ∧ l.drop k = l5.drop ((l5.takeWhile (· != q)).length + 1)))))))) := by
  have hE : hasPrefix (preEq l) [61] = true ↔ l[beginN l + nB (l.drop (beginN l))]? = some 61 := by
    rw [hasPrefix_one]
    unfold preEq
    rw [List.getElem?_drop, List.getElem?_drop, Nat.add_zero]
  have hno : ∀ {P : Prop}, (∀ a k, attrP l = some (a, k) → P) → ¬ P → attrP l = none := fun h hp => by
    cases ha : attrP l with
    | none => rfl
    | some x => exact absurd (h x.1 x.2 ha) hp
  rcases Nat.eq_zero_or_pos (beginN l) with h0 | h0
  · exact .inl ⟨h0, hno (fun a k h => by obtain ⟨q, r, h1, _⟩ := attrP_iff.1 h; exact h1) (by omega)⟩
  · cases h1 : hasPrefix (preEq l) [61] with
    | false => exact .inr (.inl ⟨h0, rfl, hno (fun a k h => by obtain ⟨q, r, _, h2, _⟩ := attrP_iff.1 h; exact hE.2 h2) (by rw [h1]; decide)⟩)
    | true =>
      have h1' := hE.1 h1
      cases h2 : preMark l with
      | nil => exact .inr (.inr (.inl ⟨h0, rfl, rfl, hno (fun a k h => by obtain ⟨q, r, _, _, h3, _⟩ := attrP_iff.1 h; rw [← preMark_at, h2] at h3; exact (List.cons_ne_nil _ _ h3.symm).elim) (fun h => h)⟩))
      | cons q l5 =>
        refine .inr (.inr (.inr ⟨q, l5, h0, rfl, rfl, ?_⟩))
        have hd : l.drop (markAt l) = q :: l5 := by rw [← preMark_at]; exact h2
        have hq : ∀ a k, attrP l = some (a, k) → (q = 34 ∨ q = 39) ∧ q ∈ l5 ∧ (60 : UInt8) ∉ l5.takeWhile (· != q) := fun a k h => by
          obtain ⟨q', r, _, _, h3, h4, h5, h6, _⟩ := attrP_iff.1 h
          rw [hd] at h3
          injection h3 with e1 e2
          subst e1 e2
          exact ⟨h4, h5, h6⟩
        by_cases c1 : q = 34 ∨ q = 39
        · refine .inr ⟨c1, ?_⟩
          by_cases c2 : q ∈ l5
          · refine .inr ⟨c2, ?_⟩
            by_cases c3 : (60 : UInt8) ∈ l5.takeWhile (· != q)
            · exact .inl ⟨c3, hno (fun a k h => (hq a k h).2.2) (fun h => h c3)⟩
            · refine .inr ⟨c3, markAt l + 1 + (l5.takeWhile (· != q)).length + 1, attrP_iff.2 ⟨q, l5, h0, h1', hd, c1, c2, c3, ?_, rfl⟩, ?_⟩
              · have := congrArg List.length hd
                rw [List.length_drop, List.length_cons] at this
                congr 1
                omega
              · have h5 : l.drop (markAt l + 1) = l5 := by rw [← List.drop_drop, hd]; rfl
                rw [show markAt l + 1 + (l5.takeWhile (· != q)).length + 1 = (markAt l + 1) + ((l5.takeWhile (· != q)).length + 1) by omega, ← List.drop_drop, h5]
          · exact .inl ⟨c2, hno (fun a k h => (hq a k h).2.1) c2⟩
        · exact .inl ⟨c1, hno (fun a k h => (hq a k h).1) c1⟩

/-- what attr answers -/
def AttrPost (b n : Nat) (l : List UInt8) (w : World) (e : Ending) (w' : World) : Prop :=
  ∃ r' : ByteArray, CutAt w' b n r' ∧ Fr (fun k => k = b) w w' ∧
   match attrP l with
   | some (a, k) => e = .returned (.tuple #[.agg #[.string ⟨a.name.toArray⟩, .string ⟨a.value.toArray⟩, .int .i64 ((n - l.length + a.off : Nat) : Int)], .bool true]) ∧ r' = ⟨(l.drop k).toArray⟩
   | none => ∃ (x y : ByteArray) (z : Int), e = .returned (.tuple #[.agg #[.string x, .string y, .int .i64 z], .bool false])
theorem AttrPost.no {b n : Nat} {l : List UInt8} {w : World} {x y : ByteArray} {z : Int} {w' : World} {r' : ByteArray} (h : attrP l = none) (hc : CutAt w' b n r') (hf : Fr (fun k => k = b) w w') : AttrPost b n l w (.returned (.tuple #[.agg #[.string x, .string y, .int .i64 z], .bool false])) w' := by
  refine ⟨r', hc, hf, ?_⟩
  rw [h]
  exact ⟨x, y, z, rfl⟩
theorem AttrPost.yes {b n : Nat} {l : List UInt8} {w : World} {a : RawA} {k : Nat} {w' : World} {x y r' : ByteArray} {i : Int} (h : attrP l = some (a, k)) (hc : CutAt w' b n r') (hf : Fr (fun k => k = b) w w')
    (hr : r' = ⟨(l.drop k).toArray⟩) (hx : x = ⟨a.name.toArray⟩) (hy : y = ⟨a.value.toArray⟩) (hi : i = ((n - l.length + a.off : Nat) : Int)) : AttrPost b n l w (.returned (.tuple #[.agg #[.string x, .string y, .int .i64 i], .bool true])) w' := by
  refine ⟨r', hc, hf, ?_⟩
  rw [h]
  subst hx hy hi
  exact ⟨rfl, hr⟩

/-- blocks that hold no variable of the package -/
def Free (b : Nat) : Prop := b ≠ 0 ∧ b ≠ 1 ∧ b ≠ 4
theorem St.fr {w w' : World} {fp : Nat → Prop} (h : St w) (f : Fr fp w w') (hs : ∀ k, fp k → Free k) : St w' where
  ub := by
    intro j x hx
    have := h.ub j x hx
    rw [f.cell (World.block_lt_of_cell? w _ this) (fun hf => (hs _ hf).1 rfl)]
    exact this
  ml := by
    obtain ⟨m, hm⟩ := h.ml
    exact ⟨m, by rw [f.cell (World.block_lt_of_cell? w _ hm) (fun hf => (hs _ hf).2.1 rfl)]; exact hm⟩
  es := by
    obtain ⟨t, p, hm⟩ := h.es
    exact ⟨t, p, by rw [f.cell (World.block_lt_of_cell? w _ hm) (fun hf => (hs _ hf).2.2 rfl)]; exact hm⟩
theorem St.free {w : World} (h : St w) {b : Nat} (hb : w.heap.size ≤ b) : Free b := by
  refine ⟨?_, ?_, ?_⟩
  · rintro rfl
    have := World.block_lt_of_cell? w _ (h.ub 0 9 (by rfl))
    simp only at this
    omega
  · rintro rfl
    obtain ⟨m, hm⟩ := h.ml
    have := World.block_lt_of_cell? w _ hm
    simp only at this
    omega
  · rintro rfl
    obtain ⟨t, p, hm⟩ := h.es
    have := World.block_lt_of_cell? w _ hm
    simp only at this
    omega

theorem Fr.set_b (w : World) (b i : Nat) (v : Value) : Fr (fun k => k = b) w (w.setCell ⟨b, i, none⟩ v) := Fr.setCell (fp := fun k => k = b) (p := ⟨b, i, none⟩) (Fr.refl _ w) (.inl rfl) v
theorem Fr.alloc_then {fp : Nat → Prop} {w w' : World} {o : Obj} (f : Fr fp (w.alloc o) w') : Fr fp w w' := ((Fr.refl fp w).alloc o).trans f
/-- the two boxes of attr: its result, and its variable -/
structure TwoB (b : Nat) (w : World) (B1 B2 : Nat) (x y z : Value) : Prop where
  r1 : w.heap[B1]? = some (.cells #[.string ⟨#[]⟩, .string ⟨#[]⟩, .int .i64 0] 171 (0, 0))
  r2 : w.heap[B2]? = some (.cells #[x, y, z] 171 (0, 0))
  n1 : b ≠ B1
  n2 : b ≠ B2
  n12 : B1 ≠ B2
namespace TwoB
variable {b : Nat} {w w' : World} {B1 B2 : Nat} {x y z : Value}
theorem start {w w1 w2 : World} {b : Nat} (hb : b < w.heap.size) (f1 : Fr (fun k => k = b) (w.alloc (.cells #[.string ⟨#[]⟩, .string ⟨#[]⟩, .int .i64 0] 171)) w1)
    (f2 : Fr (fun k => k = b) (w1.alloc (.cells #[x, y, z] 171)) w2) : TwoB b w2 w.heap.size w1.heap.size x y z := by
  have s1 : w.heap.size + 1 ≤ w1.heap.size := by have := f1.size; simpa using this
  refine ⟨?_, ?_, by omega, by omega, by omega⟩
  · rw [f2.block _ (by simp; omega) (by omega), Below.heap_alloc w1 _ _ (by omega), f1.block _ (by simp) (by omega)]
    exact heap_alloc_new w _
  · rw [f2.block _ (by simp) (by omega)]
    exact heap_alloc_new w1 _
theorem fr (h : TwoB b w B1 B2 x y z) (f : Fr (fun k => k = b) w w') : TwoB b w' B1 B2 x y z :=
  ⟨(f.block B1 (Array.getElem?_eq_some_iff.1 h.r1).1 (fun e => h.n1 e.symm)).trans h.r1, (f.block B2 (Array.getElem?_eq_some_iff.1 h.r2).1 (fun e => h.n2 e.symm)).trans h.r2, h.n1, h.n2, h.n12⟩
theorem facts (h : TwoB b w B1 B2 x y z) : w.cell? ⟨B1, 0, none⟩ = some (.string ⟨#[]⟩) ∧ w.cell? ⟨B1, 1, none⟩ = some (.string ⟨#[]⟩) ∧ w.cell? ⟨B1, 2, none⟩ = some (.int .i64 0) ∧
    w.cell? ⟨B2, 0, none⟩ = some x ∧ w.cell? ⟨B2, 1, none⟩ = some y ∧ w.cell? ⟨B2, 2, none⟩ = some z ∧
    (∀ i, w.frozen? ⟨B1, i, none⟩ = false) ∧ (∀ i, w.frozen? ⟨B2, i, none⟩ = false) ∧ ¬ B1 = B2 ∧ ¬ B2 = B1 ∧ ¬ b = B1 ∧ ¬ B1 = b ∧ ¬ b = B2 ∧ ¬ B2 = b := by
  refine ⟨?_, ?_, ?_, ?_, ?_, ?_, fun i => frozen_of_row w B1 i _ _ h.r1, fun i => frozen_of_row w B2 i _ _ h.r2, h.n12, fun e => h.n12 e.symm, h.n1, fun e => h.n1 e.symm, h.n2, fun e => h.n2 e.symm⟩
  · rw [cell_of_row w B1 0 _ _ _ h.r1]; rfl
  · rw [cell_of_row w B1 1 _ _ _ h.r1]; rfl
  · rw [cell_of_row w B1 2 _ _ _ h.r1]; rfl
  · rw [cell_of_row w B2 0 _ _ _ h.r2]; rfl
  · rw [cell_of_row w B2 1 _ _ _ h.r2]; rfl
  · rw [cell_of_row w B2 2 _ _ _ h.r2]; rfl
theorem store3 (h : TwoB b w B1 B2 x y z) (u0 u1 u2 : Value) : ∃ W, ((w.setCell ⟨B1, 0, none⟩ u0).setCell ⟨B1, 1, none⟩ u1).setCell ⟨B1, 2, none⟩ u2 = W ∧ W.cell? ⟨B1, 0, none⟩ = some u0 ∧ W.cell? ⟨B1, 1, none⟩ = some u1 ∧ W.cell? ⟨B1, 2, none⟩ = some u2 ∧ Fr (fun k => k = B1) w W := by
  have e1 := heap_setCell_same w B1 0 _ _ u0 h.r1
  have e2 := heap_setCell_same _ B1 1 _ _ u1 e1
  have e3 := heap_setCell_same _ B1 2 _ _ u2 e2
  refine ⟨_, rfl, ?_, ?_, ?_, ((Fr.set_b w B1 0 u0).trans (Fr.set_b _ B1 1 u1)).trans (Fr.set_b _ B1 2 u2)⟩
  · rw [cell_of_row _ B1 0 _ _ _ e3]; rfl
  · rw [cell_of_row _ B1 1 _ _ _ e3]; rfl
  · rw [cell_of_row _ B1 2 _ _ _ e3]; rfl
end TwoB
theorem lt_alloc {fp : Nat → Prop} {w w1 : World} {o : Obj} (f : Fr fp (w.alloc o) w1) : w.heap.size < w1.heap.size := by
  have := f.size
  simp at this
  omega
/-- attr's last stores: the place, the value, and what is left -/
theorem TwoB.fin {b n B1 B2 : Nat} {w : World} {x y z : Value} {r : ByteArray} (h : TwoB b w B1 B2 x y z) (hc : CutAt w b n r) (i : Int) (m : Nat) (v rest : ByteArray) (hr : rest.size ≤ n) :
    ∃ W, (((w.setCell ⟨B2, 2, none⟩ (.int .i64 i)).drewN m).setCell ⟨B2, 1, none⟩ (.string v)).setCell ⟨b, 1, none⟩ (.string rest) = W ∧ TwoB b W B1 B2 x (.string v) (.int .i64 i) ∧ CutAt W b n rest ∧ Fr (fun k => k = b ∨ k = B2) w W := by
  have e1 := heap_setCell_same w B2 2 _ _ (.int .i64 i) h.r2
  have e2 : (((w.setCell ⟨B2, 2, none⟩ (.int .i64 i)).drewN m).setCell ⟨B2, 1, none⟩ (.string v)).heap[B2]? = _ := heap_setCell_same ((w.setCell ⟨B2, 2, none⟩ (.int .i64 i)).drewN m) B2 1 _ _ (.string v) e1
  have f1 := ((Fr.set_b w B2 2 (.int .i64 i)).drewN m).trans (Fr.set_b ((w.setCell ⟨B2, 2, none⟩ (.int .i64 i)).drewN m) B2 1 (.string v))
  have c1 := hc.fr f1 h.n2
  have f2 := Fr.set_b (((w.setCell ⟨B2, 2, none⟩ (.int .i64 i)).drewN m).setCell ⟨B2, 1, none⟩ (.string v)) b 1 (.string rest)
  refine ⟨_, rfl, ⟨?_, ?_, h.n1, h.n2, h.n12⟩, c1.set hr, ?_⟩
  · rw [f2.block B1 (Nat.lt_of_lt_of_le (Array.getElem?_eq_some_iff.1 h.r1).1 f1.size) (fun e => h.n1 e.symm), f1.block B1 (Array.getElem?_eq_some_iff.1 h.r1).1 h.n12]
    exact h.r1
  · rw [f2.block B2 (Array.getElem?_eq_some_iff.1 e2).1 (fun e => h.n2 e.symm)]
    exact e2
  · exact (f1.mono (fun k h => Or.inr h)).trans (f2.mono (fun k h => Or.inl h))
theorem fr_start {w w1 w2 : World} {b : Nat} {o o' : Obj} (f1 : Fr (fun k => k = b) (w.alloc o) w1) (f2 : Fr (fun k => k = b) (w1.alloc o') w2) : Fr (fun k => k = b) w w2 := f1.alloc_then.trans f2.alloc_then
end Go.Proofs.YtalbehjjgdedcaaGreatDoor
