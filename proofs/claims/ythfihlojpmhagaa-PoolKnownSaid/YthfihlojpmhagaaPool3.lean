/- The pool: functions of slices, at events. -/
import Derived.Test.YthfihlojpmhagaaPool2
import Derived.Lib.AppendZeros
import Derived.Deep.LoopGhost
namespace Go.Proofs.Ythfihlojpmhagaa
open Go.RowKit
attribute [local go_sem ↓] Go.wp_at_zero Go.wp_at_succ

/-- a call hands back a slice of its own that reads as l -/
def Makes (E : TypeId) (w : World) (l : List Ev) (e : Ending) (w' : World) : Prop :=
  ∃ A cap o, e = .returned (.slice A l.length cap) ∧ Own evC w' E (.slice A l.length cap) o l ∧ Fr (fun _ => False) w w' ∧ (∀ k, o = some k → w.heap.size ≤ k)

set_option maxHeartbeats 1000000 in
theorem clone_any (S : Nat → Prop) (v : Value) (l : List Ev) (w : World) (h : Rd evC w S v l) (hS : ∀ k, S k → k < w.heap.size) (hl : l.length ≤ 1000000) :
    Calls Try.prog 39 #[v] w (Makes 31 w l) := by
  have H := hide h
  have HS := hide hS
  obtain ⟨A, cap, rfl, hlc, hcm, hn, -⟩ := h
  clear hS
  have hen := fun (W : World) (A : Option Addr) (n c : Nat) => Lib.run_eql_slice_nil (P := Try.prog) W 41 31 A n c 0 0 Try.underlying41
  cases A with
  | none =>
    obtain rfl := hn rfl
    have hl0 : l = [] := List.eq_nil_of_length_eq_zero (by omega)
    subst hl0
    go_enter Try.func39, Try.ntmps39
    go_wp2
    go_ret
    exact ⟨none, 0, none, rfl, Own.nil_ _ _ _ none, Fr.refl _ _, fun k hk => by cases hk⟩
  | some ad =>
    clear hn
    go_enter Try.func39, Try.ntmps39
    go_wp2_with (at_builtin; refine wpList_append_Own rfl rfl el_ev (by rfl) (by rfl) (Own.nil_ evC _ _ _) (H.out.fr (Fr.alloc (Fr.refl (fun _ => False) _) _) (fun k hk => ⟨HS.out k hk, fun h => h⟩)) (by (try simp); omega) ?_; intro A' cap' w1 o' hown hfr hnew)
    go_ret
    simp only [List.length_nil, Nat.zero_add, List.nil_append] at hown ⊢
    refine ⟨A', cap', o', rfl, hown, (Fr.alloc (Fr.refl _ _) _).trans (hfr.mono fun k hk => by cases hk), fun k hk => ?_⟩
    rcases hnew k hk with h1 | h1
    · cases h1
    · have := h1.1; simp at this; omega

theorem info_ev : (Try.prog.info? 31).map (fun i => (i.zero, i.size, i.bytes)) = some (some (.agg #[.int .u8 0, .string ⟨#[]⟩, .int .i64 0, .int .i64 0]), 4, 40) := by kernel_rfl
set_option maxHeartbeats 1000000 in
theorem grow_any (n : Nat) (w : World) (hn : n ≤ 3000000) :
    Calls Try.prog 43 #[.slice none 0 0, .int .i64 n] w (Makes 31 w []) := by
  by_cases h0 : n = 0
  · subst h0
    go_enter Try.func43, Try.ntmps43
    go_wp2
    go_ret
    exact ⟨none, 0, none, rfl, Own.nil_ _ _ _ none, Fr.refl _ _, fun k hk => by cases hk⟩
  · obtain ⟨i0, hi, hz0, hz1, hz2⟩ := info_parts info_ev
    have hpos : 0 < n := by omega
    have hposi : (0 : Int) < (n : Int) := by omega
    have hge := grownCap_ge w n 0 31
    have hle := grownCap_le_maxLen w n 0 31 (by simp only [maxLen]; omega)
    have hrun := fun ty => Lib.run_append_nil_zeros (P := Try.prog) w 41 3 ty 31 i0 _ .i64 .i64 Try.underlying41 Try.underlying3 hi hz0 n hpos (by rw [hz1]; omega) (by omega) (by rw [hz2]; omega)
    generalize hc : grownCap w n 0 31 = c at hrun hge hle
    have HR := hide hrun
    unfold maxLen at hle
    clear hrun hc hz0 hz1 hz2 hi h0
    go_enter Try.func43, Try.ntmps43
    go_wp2_with (at_builtin; refine Lib.wpList_append_run _ rfl _ _ _ _ rfl _ _ (by rfl) (by rfl) _ _ (HR.out _) ?_)
    go_ret
    refine ⟨some ⟨w.heap.size, 0, none⟩, c, some w.heap.size, rfl, ?_, Fr.drew (Fr.alloc (Fr.refl _ _) _), fun k hk => by injection hk with hk; omega⟩
    refine Own.made evC w.drew _ _ [] c (by omega) (by simp) (by simp only [maxLen]; omega) ?_ (by simp [Cod.flat])
    simp [evC, size_zeroCells]
    omega

theorem grow_int (n : Int) (w : World) (h0 : 0 ≤ n) (hn : n ≤ 3000000) :
    Calls Try.prog 43 #[.slice none 0 0, .int .i64 n] w (Makes 31 w []) := by
  obtain ⟨n, rfl⟩ := Int.eq_ofNat_of_zero_le h0
  exact grow_any n w (by omega)

set_option maxHeartbeats 1000000 in
theorem concat_any (g : Nat) (S1 S2 : Nat → Prop) (va vb : Value) (la lb : List Ev) (w : World) (hg : w.heap[g]? = some (.cells #[va, vb] 41 (0, 0))) (ha : Rd evC w S1 va la) (hb : Rd evC w S2 vb lb)
    (hS1 : ∀ k, S1 k → k < w.heap.size) (hS2 : ∀ k, S2 k → k < w.heap.size) (hla : la.length ≤ 1000000) (hlb : lb.length ≤ 1000000) :
    Calls Try.prog 38 #[.slice (some ⟨g, 0, none⟩) 2 2] w (Makes 31 w (la ++ lb)) := by
  have HA := hide ha
  have HB := hide hb
  have HG := hide hg
  have HS1 := hide hS1
  have HS2 := hide hS2
  obtain ⟨A, ca, rfl, -⟩ := ha
  obtain ⟨B, cb, rfl, -⟩ := hb
  have hgw : g < w.heap.size := (Array.getElem?_eq_some_iff.1 hg).1
  have k0 : w.cell? ⟨g, 0, none⟩ = some (.slice A la.length ca) := cell_of_row w g 0 _ _ _ hg
  have k1 : w.cell? ⟨g, 1, none⟩ = some (.slice B lb.length cb) := cell_of_row w g 1 _ _ _ hg
  clear hg hS1 hS2
  go_enter Try.func38, Try.ntmps38
  go_wp2_with fail
  refine wp_loop_rounds 3 ?_
  rw [rounds_succ]
  go_wp2_with fail
  rw [rounds_succ]
  go_wp2_with fail
  rw [rounds_succ]
  go_wp2_with fail
  refine (grow_int _ _ (by omega) (by omega)).mono ?_
  rintro e w1 ⟨A1, c1, o1, rfl, hown1, hf1, hn1⟩
  have q0 : w1.cell? ⟨g, 0, none⟩ = some (.slice A la.length ca) := (hf1.cell hgw (fun h => h)).trans k0
  have q1 : w1.cell? ⟨g, 1, none⟩ = some (.slice B lb.length cb) := (hf1.cell hgw (fun h => h)).trans k1
  have ra := HA.out.fr hf1 (fun k hk => ⟨HS1.out k hk, fun h => h⟩)
  have HRA := hide ra
  clear ra k0 k1
  simp only [List.length_nil] at hown1 ⊢
  go_wp2_with fail
  refine wp_loop_rounds 3 ?_
  rw [rounds_succ]
  go_wp2_with (at_builtin; refine wpList_append_Own rfl rfl el_ev (by rfl) (by rfl) hown1 HRA.out (by (try simp); omega) ?_; intro A2 c2 w2 o2 hown2 hf2 hn2)
  have hg1 : ¬ o1 = some g := fun e => by have := hn1 g e; omega
  have hlt1 : g < w1.heap.size := Nat.lt_of_lt_of_le hgw hf1.size
  have r1 : w2.cell? ⟨g, 1, none⟩ = some (.slice B lb.length cb) := (hf2.cell hlt1 hg1).trans q1
  have rb := (HB.out.fr hf1 (fun k hk => ⟨HS2.out k hk, fun h => h⟩)).fr hf2 (fun k hk => ⟨Nat.lt_of_lt_of_le (HS2.out k hk) hf1.size, fun e => by have := hn1 k e; have := HS2.out k hk; omega⟩)
  have HRB := hide rb
  have hf12 : Fr (fun _ => False) w w2 := hf1.then_ hf2 (fun k hk e => by have := hn1 k e; omega)
  have ho2 : ∀ k, o2 = some k → w.heap.size ≤ k := fun k hk => by
    rcases hn2 k hk with h1 | h1
    · exact hn1 k h1
    · exact Nat.le_trans hf1.size h1.1
  have HO2 := hide ho2
  clear rb q0 q1 ho2
  simp only [List.nil_append, List.length_nil, Nat.zero_add] at hown2 ⊢
  rw [rounds_succ]
  go_wp2_with (at_builtin; (refine wpList_append_Own rfl rfl el_ev (by rfl) (by rfl) hown2 HRB.out (by (try simp); omega) ?_); intro A3 c3 w3 o3 hown3 hf3 hn3)
  rw [rounds_succ]
  go_wp2_with fail
  go_ret
  rw [← List.length_append] at hown3 ⊢
  refine ⟨A3, c3, o3, rfl, hown3, hf12.then_ hf3 (fun k hk e => by have := HO2.out k e; omega), fun k hk => ?_⟩
  rcases hn3 k hk with h1 | h1
  · exact HO2.out k h1
  · exact Nat.le_trans hf12.size h1.1
end Go.Proofs.Ythfihlojpmhagaa
