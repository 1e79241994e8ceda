/- The pool: what an event is, what a pool is in memory; the small functions. -/
import Derived.Test.YthfihlojpmhagaaRows
import Derived.Test.YthfihlojpmhagaaBase
import Derived.Deep.QuietTactic
import Derived.BigQuiet
namespace Go.Proofs.Ythfihlojpmhagaa
open Go.RowKit

structure Ev where
  kind : Int
  name : ByteArray
  arg : Int
  at_ : Int

def evC : Cod Ev where
  size := 4
  cells e := [.int .u8 e.kind, .string e.name, .int .i64 e.arg, .int .i64 e.at_]
  len _ := rfl
  one x u hu := by
    simp only [List.mem_cons, List.not_mem_nil, or_false] at hu
    rcases hu with rfl | rfl | rfl | rfl <;> rfl
  pos := by decide
def Ev.val (e : Ev) : Value := .agg #[.int .u8 e.kind, .string e.name, .int .i64 e.arg, .int .i64 e.at_]

def mayB (e : Ev) : Bool :=
  if e.kind = 1 ∨ e.kind = 3 then decide (0 ≤ e.at_ ∧ e.name.data.toList = [] ∧ e.arg = 0)
  else if e.kind = 2 then decide (e.name.data.toList ≠ [] ∧ e.at_ = 0) else false

structure PSt where
  room : Int
  L : Nat → List Ev
def PSt.tot (s : PSt) : Nat := (s.L 0).length + (s.L 1).length + (s.L 2).length
theorem PSt.le_tot (s : PSt) {i : Nat} (hi : i < 3) : (s.L i).length ≤ s.tot := by
  unfold PSt.tot
  rcases i with _ | _ | _ | i <;> (try simp only [Nat.zero_add, Nat.reduceAdd]) <;> omega
def upd {α : Type} (f : Nat → α) (i : Nat) (x : α) : Nat → α := fun j => if j = i then x else f j
theorem upd_same {α : Type} (f : Nat → α) (i : Nat) (x : α) : upd f i x i = x := by simp [upd]
theorem upd_other {α : Type} (f : Nat → α) {i j : Nat} (x : α) (h : j ≠ i) : upd f i x j = f j := by simp [upd, h]

def Dj (o o' : Option Nat) : Prop := ∀ k, o = some k → o' ≠ some k
theorem Dj.symm {o o' : Option Nat} (h : Dj o o') : Dj o' o := fun k hk hk' => h k hk' hk

/-- a pool at block b, its type T, its events' type E: what it holds -/
structure PoolR (T E : TypeId) (w : World) (b : Nat) (s : PSt) (vs : Nat → Value) (os : Nat → Option Nat) : Prop where
  blk : w.heap[b]? = some (.cells #[.int .i64 s.room, vs 0, vs 1, vs 2] T (0, 0))
  own : ∀ i, i < 3 → Own evC w E (vs i) (os i) (s.L i)
  dj : ∀ i j, i < 3 → j < 3 → i ≠ j → Dj (os i) (os j)

/-- all that it owns lies in F -/
def PoolAt (T E : TypeId) (w : World) (b : Nat) (s : PSt) (F : Nat → Prop) : Prop :=
  ∃ vs os, PoolR T E w b s vs os ∧ F b ∧ (∀ i, i < 3 → ∀ k, os i = some k → F k) ∧ (∀ k, F k → k < w.heap.size)

theorem Own.ne_blk {α : Type} {C : Cod α} {w : World} {E T : TypeId} {v : Value} {o : Option Nat} {l : List α} {b : Nat} {cs : Array Value} (h : Own C w E v o l) (hb : w.heap[b]? = some (.cells cs T (0, 0))) (hne : T ≠ E) : o ≠ some b := by
  rcases h with ⟨A, h1, h2, h3⟩ | ⟨g, off, cap, cur, h1, h2, h3, h4⟩
  · rw [h2]; simp
  · rintro hk
    rw [h2] at hk
    injection hk with hk
    subst hk
    rw [hb] at h3
    injection h3 with h3
    injection h3 with _ h3
    exact hne h3

namespace PoolR
variable {T E : TypeId} {w w1 : World} {b : Nat} {s : PSt} {vs : Nat → Value} {os : Nat → Option Nat}
theorem lt (h : PoolR T E w b s vs os) : b < w.heap.size := (Array.getElem?_eq_some_iff.1 h.blk).1
theorem cell0 (h : PoolR T E w b s vs os) : w.cell? ⟨b, 0, none⟩ = some (.int .i64 s.room) := by rw [cell_of_row w b 0 _ _ _ h.blk]; rfl
theorem cell (h : PoolR T E w b s vs os) {i : Nat} (hi : i < 3) : w.cell? ⟨b, 1 + i, none⟩ = some (vs i) := by
  rw [cell_of_row w b _ _ _ _ h.blk]
  rcases i with _ | _ | _ | i
  · rfl
  · rfl
  · rfl
  · omega
theorem frozen (h : PoolR T E w b s vs os) (i : Nat) : w.frozen? ⟨b, i, none⟩ = false := frozen_of_row w b _ _ _ h.blk
theorem fr {fp : Nat → Prop} (h : PoolR T E w b s vs os) (hf : Fr fp w w1) (hb : ¬ fp b) (ho : ∀ i, i < 3 → ∀ k, os i = some k → ¬ fp k) : PoolR T E w1 b s vs os :=
  ⟨(hf.block b h.lt hb).trans h.blk, fun i hi => (h.own i hi).fr hf (ho i hi), h.dj⟩
theorem same (h : PoolR T E w b s vs os) (hf : Fr (fun _ => False) w w1) : PoolR T E w1 b s vs os := h.fr hf (fun h => h) (fun _ _ _ _ h => h)
/-- row i has turned: its block, and what is new; then its cell is written -/
theorem upd_ (h : PoolR T E w b s vs os) {i : Nat} (hi : i < 3) (hne : T ≠ E) (hf : Fr (fun k => os i = some k) w w1) {v' : Value} {o' : Option Nat} {l' : List Ev}
    (hown : Own evC w1 E v' o' l') (ho : ∀ k, o' = some k → os i = some k ∨ w.heap.size ≤ k) :
    PoolR T E (w1.setCell ⟨b, 1 + i, none⟩ v') b ⟨s.room, upd s.L i l'⟩ (upd vs i v') (upd os i o') := by
  have hnb : ∀ j, j < 3 → os j ≠ some b := fun j hj => (h.own j hj).ne_blk h.blk hne
  have hb1 : w1.heap[b]? = some (.cells #[.int .i64 s.room, vs 0, vs 1, vs 2] T (0, 0)) := (hf.block b h.lt (hnb i hi)).trans h.blk
  have hkeep : ∀ k, k ≠ b → (w1.setCell ⟨b, 1 + i, none⟩ v').heap[k]? = w1.heap[k]? := fun k hk => Below.heap_setCell w1 _ v' k hk
  have hob : o' ≠ some b := fun e => by
    rcases ho b e with h1 | h1
    · exact hnb i hi h1
    · have := h.lt; omega
  refine ⟨?_, fun j hj => ?_, fun j k hj hk hjk => ?_⟩
  · rw [heap_setCell_same w1 b (1 + i) _ T v' hb1]
    rcases i with _ | _ | _ | i
    · simp [upd]
    · simp [upd]
    · simp [upd]
    · omega
  · by_cases hji : j = i
    · subst hji
      simp only [upd_same]
      exact hown.keep fun k hk => hkeep k (fun e => hob (by rw [← e]; exact hk))
    · rw [upd_other _ _ hji, upd_other _ _ hji]
      show Own evC _ E (vs j) (os j) (upd s.L i l' j)
      rw [upd_other _ _ hji]
      refine ((h.own j hj).fr hf (fun k hk => h.dj j i hj hi hji k hk)).keep fun k hk => hkeep k (fun e => hnb j hj (by rw [← e]; exact hk))
  · by_cases hji : j = i
    · subst hji
      rw [upd_same, upd_other _ _ (Ne.symm hjk)]
      intro x hx hx'
      rcases ho x hx with h1 | h1
      · exact h.dj j k hj hk hjk x h1 hx'
      · have := (h.own k hk).lt x hx'; omega
    · by_cases hki : k = i
      · subst hki
        rw [upd_same, upd_other _ _ hji]
        intro x hx hx'
        rcases ho x hx' with h1 | h1
        · exact h.dj j k hj hk hjk x hx h1
        · have := (h.own j hj).lt x hx; omega
      · rw [upd_other _ _ hji, upd_other _ _ hki]
        exact h.dj j k hj hk hjk
end PoolR

theorem ByteArray_toList_nil (s : ByteArray) : s.toList = [] ↔ s.data.toList = [] := by
  rw [ByteArray.toList_eq]

theorem ByteArray_isEmpty (s : ByteArray) (h : ¬ s.data = #[]) : s.toList.isEmpty = false := by
  rw [ByteArray.toList_eq]
  simpa using h

set_option maxHeartbeats 400000 in
theorem may_any (k : Int) (s : ByteArray) (a t : Int) (w : World) :
    Calls Try.prog 33 #[.agg #[.int .u8 k, .string s, .int .i64 a, .int .i64 t]] w fun e w' => e = .returned (.bool (mayB ⟨k, s, a, t⟩)) ∧ Below w.heap.size w w' := by
  go_enter Try.func33, Try.ntmps33
  go_wp2
  all_goals go_ret
  all_goals refine ⟨?_, by go_grown⟩
  all_goals simp_all [mayB, ByteArray_toList_nil]
  all_goals first | omega | (rw [ByteArray_isEmpty _ (by assumption)]; simp [Bool.beq_eq_decide_eq])
set_option maxHeartbeats 400000 in
theorem rmay_any (k : Int) (s : ByteArray) (a t : Int) (w : World) :
    Calls Try.prog 34 #[.agg #[.int .u8 k, .string s, .int .i64 a, .int .i64 t]] w fun e w' => e = .returned (.bool (mayB ⟨k, s, a, t⟩)) ∧ Below w.heap.size w w' := by
  go_enter Try.func34, Try.ntmps34
  go_wp2
  all_goals go_ret
  all_goals refine ⟨?_, by go_grown⟩
  all_goals simp_all [mayB, ByteArray_toList_nil]
  all_goals first | omega | (rw [ByteArray_isEmpty _ (by assumption)]; simp [Bool.beq_eq_decide_eq])
set_option maxHeartbeats 400000 in
theorem conv_any (k : Int) (s : ByteArray) (a t : Int) (w : World) :
    Calls Try.prog 29 #[.agg #[.int .u8 k, .string s, .int .i64 a, .int .i64 t]] w fun e w' => e = .returned (.agg #[.int .u8 k, .string s, .int .i64 a, .int .i64 t]) ∧ Below w.heap.size w w' := by
  go_enter Try.func29, Try.ntmps29
  go_wp2
  go_returns
  refine ⟨?_, by go_grown⟩
  rfl

def newRoom (n : Int) : Int := if n < 1 then 1 else if 256 < n then 256 else n
set_option maxHeartbeats 400000 in
theorem new_any (n : Int) (w : World) :
    Calls Try.prog 11 #[.int .i64 n] w fun e w' => e = .returned (.pointer (some ⟨w.heap.size, 0, none⟩)) ∧ PoolAt 59 31 w' w.heap.size ⟨newRoom n, fun _ => []⟩ (fun k => k = w.heap.size) ∧ Fr (fun _ => False) w w' ∧ w'.heap.size = w.heap.size + 1 := by
  go_enter Try.func11, Try.ntmps11
  go_wp2
  all_goals go_ret
  all_goals refine ⟨rfl, ⟨fun _ => .slice none 0 0, fun _ => none, ⟨?_, fun _ _ => Own.nil_ _ _ _ none, fun _ _ _ _ _ k hk => (by cases hk)⟩, rfl, fun _ _ k hk => (by cases hk), fun k hk => ?_⟩, Fr.alloc (Fr.refl _ _) _, by simp⟩
  all_goals first | (subst hk; simp; done) | skip
  all_goals rw [heap_alloc_new]; simp [newRoom]
  all_goals omega
set_option maxHeartbeats 400000 in
theorem len_any (b : Nat) (s : PSt) (F : Nat → Prop) (w : World) (h : PoolAt 59 31 w b s F) (ht : s.tot ≤ 1000000) :
    Calls Try.prog 21 #[.pointer (some ⟨b, 0, none⟩)] w fun e w' => e = .returned (.int .i64 s.tot) ∧ w = w' := by
  obtain ⟨vs, os, h, -⟩ := h
  obtain ⟨A0, c0, e0, -, -⟩ := (h.own 0 (by omega)).form
  obtain ⟨A1, c1, e1, -, -⟩ := (h.own 1 (by omega)).form
  obtain ⟨A2, c2, e2, -, -⟩ := (h.own 2 (by omega)).form
  have k1 := h.cell (i := 0) (by omega)
  have k2 := h.cell (i := 1) (by omega)
  have k3 := h.cell (i := 2) (by omega)
  rw [e0] at k1; rw [e1] at k2; rw [e2] at k3
  simp only [Nat.reduceAdd] at k1 k2 k3
  unfold PSt.tot at *
  generalize (s.L 0).length = n0 at *
  generalize (s.L 1).length = n1 at *
  generalize (s.L 2).length = n2 at *
  clear h e0 e1 e2
  have i0 : ∀ w, (Instr.index 57 (.agg #[.slice A0 n0 c0, .slice A1 n1 c1, .slice A2 n2 c2]) (.int .i64 0)).run Try.prog w = .ok (.slice A0 n0 c0) w := fun _ => by kernel_rfl
  have i1 : ∀ w, (Instr.index 57 (.agg #[.slice A0 n0 c0, .slice A1 n1 c1, .slice A2 n2 c2]) (.int .i64 1)).run Try.prog w = .ok (.slice A1 n1 c1) w := fun _ => by kernel_rfl
  have i2 : ∀ w, (Instr.index 57 (.agg #[.slice A0 n0 c0, .slice A1 n1 c1, .slice A2 n2 c2]) (.int .i64 2)).run Try.prog w = .ok (.slice A2 n2 c2) w := fun _ => by kernel_rfl
  go_enter Try.func21, Try.ntmps21
  go_wp2
  go_rounds 4
  go_ret
  exact ⟨by simp, rfl⟩
end Go.Proofs.Ythfihlojpmhagaa
