/- The pool: Gone, by slices.DeleteFunc. -/
import Derived.Test.YthfihlojpmhagaaPool5
namespace Go.Proofs.Ythfihlojpmhagaa
open Go.RowKit
attribute [local go_sem ↓] Go.wp_at_zero Go.wp_at_succ

/-- is an event of this kind and place? -/
def isOf (kd pl : Int) (e : Ev) : Bool := decide (e.kind = kd) && decide (e.at_ = pl)

set_option maxHeartbeats 400000 in
theorem gone1_any (g1 g2 : Nat) (kd pl : Int) (k : Int) (nm : ByteArray) (a t : Int) (w : World) (h1 : w.cell? ⟨g1, 0, none⟩ = some (.int .u8 kd)) (h2 : w.cell? ⟨g2, 0, none⟩ = some (.int .i64 pl)) :
    Calls Try.prog 41 #[.agg #[.int .u8 k, .string nm, .int .i64 a, .int .i64 t], .pointer (some ⟨g1, 0, none⟩), .pointer (some ⟨g2, 0, none⟩)] w fun e w' => e = .returned (.bool (isOf kd pl ⟨k, nm, a, t⟩)) ∧ Below w.heap.size w w' := by
  have hw1 : g1 < w.heap.size := World.block_lt_of_cell? w _ h1
  have hw2 : g2 < w.heap.size := World.block_lt_of_cell? w _ h2
  by_cases e1 : k = kd
  all_goals by_cases e2 : t = pl
  all_goals
    have f1 : (k == kd) = decide (k = kd) := rfl
    have f2 : (t == pl) = decide (t = pl) := rfl
    have hr : isOf kd pl ⟨k, nm, a, t⟩ = (decide (k = kd) && decide (t = pl)) := rfl
    rw [hr]
    simp only [e1, e2, decide_true, decide_false, Bool.and_true, Bool.and_false] at f1 f2 ⊢
    clear hr e1 e2
    go_enter Try.func41, Try.ntmps41
    go_wp2
    go_ret
    exact ⟨rfl, by go_grown⟩

/-- the first one of a kind and place; -1: none -/
def firstOf (kd pl : Int) (l : List Ev) : Int := match l.findIdx? (isOf kd pl) with | some i => (i : Int) | none => -1
def closV (g1 g2 : Nat) : Value := .func (.func 41) #[] #[.pointer (some ⟨g1, 0, none⟩), .pointer (some ⟨g2, 0, none⟩)]

set_option maxHeartbeats 1000000 in
theorem indexF_any (g1 g2 : Nat) (kd pl : Int) (S : Nat → Prop) (v : Value) (l : List Ev) (w : World) (h1 : w.cell? ⟨g1, 0, none⟩ = some (.int .u8 kd)) (h2 : w.cell? ⟨g2, 0, none⟩ = some (.int .i64 pl))
    (h : Rd evC w S v l) (hS : ∀ k, S k → k < w.heap.size) (hl : l.length ≤ 1000000) :
    Calls Try.prog 44 #[v, closV g1 g2] w fun e w' => e = .returned (.int .i64 (firstOf kd pl l)) ∧ Below w.heap.size w w' := by
  have hw1 : g1 < w.heap.size := World.block_lt_of_cell? w _ h1
  have hw2 : g2 < w.heap.size := World.block_lt_of_cell? w _ h2
  have H := hide h
  have H12 := hide (And.intro h1 h2)
  have HS := hide hS
  obtain ⟨A, cap, rfl, hlc, hcm, -⟩ := h
  unfold closV
  clear hS hcm h1 h2
  go_enter Try.func44, Try.ntmps44
  go_wp2_with fail
  go_loopw [8] (fun i wr => ∃ k : Nat, k ≤ l.length ∧ i = .int .i64 k ∧ Below w.heap.size w wr ∧ Hid (∀ x ∈ l.take k, isOf kd pl x = false)) (fun i _ => l.length - (intOf i).toNat)
  case atStart => exact ⟨0, Nat.zero_le _, rfl, Below.refl _ _, by simp [Hid]⟩
  case round =>
    obtain ⟨k, hk, rfl, hbl, hno⟩ := hrel
    by_cases hlt : k < l.length
    · obtain ⟨g, off, cap', hv, -, -, hg, hc⟩ := H.out.at_ hlt
      simp only [Value.slice.injEq, true_and] at hv
      obtain ⟨rfl, rfl⟩ := hv
      have hgw := HS.out g hg
      have q0 := (hbl.cell (p := ⟨g, off + (k * 4 + 0), none⟩) hgw).trans (hc 0 (by decide))
      have q1 := (hbl.cell (p := ⟨g, off + (k * 4 + 1), none⟩) hgw).trans (hc 1 (by decide))
      have q2 := (hbl.cell (p := ⟨g, off + (k * 4 + 2), none⟩) hgw).trans (hc 2 (by decide))
      have q3 := (hbl.cell (p := ⟨g, off + (k * 4 + 3), none⟩) hgw).trans (hc 3 (by decide))
      have p1 := (hbl.cell (p := ⟨g1, 0, none⟩) hw1).trans H12.out.1
      have p2 := (hbl.cell (p := ⟨g2, 0, none⟩) hw2).trans H12.out.2
      have HX := hide (show l[k]? = some l[k] from List.getElem?_eq_getElem hlt)
      generalize l[k] = x at *
      obtain ⟨ek, en, ea, et⟩ := x
      simp only [evC, Nat.add_zero, List.getElem?_cons_zero, List.getElem?_cons_succ, ← Nat.add_assoc] at q0 q1 q2 q3
      have HB := hide hbl
      clear hc hbl
      go_wp2_with fail
      refine (gone1_any g1 g2 kd pl _ _ _ _ _ p1 p2).mono ?_
      rintro e w1 ⟨rfl, hb1⟩
      have HB1 := hide ((HB.out).trans (hb1.mono HB.out.size))
      have HI := hide (show l[k]? = some _ ∧ isOf kd pl ⟨ek, en, ea, et⟩ = isOf kd pl ⟨ek, en, ea, et⟩ from ⟨HX.out, rfl⟩)
      clear hb1 p1 p2 q0 q1 q2 q3
      cases hb : isOf kd pl ⟨ek, en, ea, et⟩ with
      | false =>
        have HF := hide hb
        clear hb
        go_wp2_with fail
        go_roundw
        case rel =>
          refine ⟨k + 1, by omega, by go_num, HB1.out, ?_⟩
          intro x hx
          rw [List.take_add_one, HX.out] at hx
          simp only [Option.toList_some, List.mem_append, List.mem_singleton] at hx
          rcases hx with hx | rfl
          · exact hno x hx
          · exact HF.out
        case measure => simp [intOf]; omega
      | true =>
        have HF := hide hb
        clear hb
        go_wp2_with fail
        go_ret
        refine ⟨?_, HB1.out⟩
        have : l.findIdx? (isOf kd pl) = some k := by
          rw [List.findIdx?_eq_some_iff_getElem]
          refine ⟨hlt, ?_, fun j hj => ?_⟩
          · have := HX.out
            rw [List.getElem?_eq_getElem hlt] at this
            injection this with this
            rw [this]
            exact HF.out
          · have := hno l[j] (by rw [List.mem_take_iff_getElem]; exact ⟨j, by omega, rfl⟩)
            simp [this]
        simp [firstOf, this]
    · have hkl : k = l.length := by omega
      subst hkl
      go_wp2_with fail
      go_ret
      refine ⟨?_, hbl⟩
      have : l.findIdx? (isOf kd pl) = none := by
        rw [List.findIdx?_eq_none_iff]
        intro x hx
        have := hno x (by simpa using hx)
        simp [this]
      simp [firstOf, this]
end Go.Proofs.Ythfihlojpmhagaa
