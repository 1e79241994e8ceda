/- The pool: Recall, Rows, Defer. -/
import Derived.Test.YthfihlojpmhagaaPool3
namespace Go.Proofs.Ythfihlojpmhagaa
open Go.RowKit
attribute [local go_sem ↓] Go.wp_at_zero Go.wp_at_succ

theorem run_nil_ptr (w : World) (a : Addr) : (binOp .eql 25 (.pointer (some a)) (.pointer none)).run Try.prog w = .ok (.bool false) w := by kernel_rfl

/-- what Rows hands back -/
def MakesRows (w : World) (s : PSt) (e : Ending) (w' : World) : Prop :=
  ∃ A0 c0 o0 A1 c1 o1 A2 c2 o2, e = .returned (.tuple #[.slice A0 (s.L 0).length c0, .slice A1 (s.L 1).length c1, .slice A2 (s.L 2).length c2]) ∧
    Own evC w' 31 (.slice A0 (s.L 0).length c0) o0 (s.L 0) ∧ Own evC w' 31 (.slice A1 (s.L 1).length c1) o1 (s.L 1) ∧ Own evC w' 31 (.slice A2 (s.L 2).length c2) o2 (s.L 2) ∧
    Fr (fun _ => False) w w' ∧ (∀ k, o0 = some k ∨ o1 = some k ∨ o2 = some k → w.heap.size ≤ k) ∧ Dj o0 o1 ∧ Dj o0 o2 ∧ Dj o1 o2

set_option maxHeartbeats 1000000 in
theorem rows_any (b : Nat) (s : PSt) (F : Nat → Prop) (w : World) (h : PoolAt 59 31 w b s F) (ht : s.tot ≤ 1000000) :
    Calls Try.prog 19 #[.pointer (some ⟨b, 0, none⟩)] w (MakesRows w s) := by
  have l0 := s.le_tot (i := 0) (by omega)
  have l1 := s.le_tot (i := 1) (by omega)
  have l2 := s.le_tot (i := 2) (by omega)
  obtain ⟨vs, os, h, -⟩ := h
  have r0 := (h.own 0 (by omega)).rd
  have r1 := (h.own 1 (by omega)).rd
  have r2 := (h.own 2 (by omega)).rd
  have t0 := (h.own 0 (by omega)).lt
  have t1 := (h.own 1 (by omega)).lt
  have t2 := (h.own 2 (by omega)).lt
  have k1 := h.cell (i := 0) (by omega)
  have k2 := h.cell (i := 1) (by omega)
  have k3 := h.cell (i := 2) (by omega)
  have hbs := h.lt
  simp only [Nat.reduceAdd] at k1 k2 k3
  have HR0 := hide r0
  have HR1 := hide r1
  have HR2 := hide r2
  have HT0 := hide t0
  have HT1 := hide t1
  have HT2 := hide t2
  clear h r0 r1 r2 t0 t1 t2
  generalize vs 0 = v0 at *
  generalize vs 1 = v1 at *
  generalize vs 2 = v2 at *
  generalize os 0 = p0 at *
  generalize os 1 = p1 at *
  generalize os 2 = p2 at *
  generalize hl0 : s.L 0 = L0 at *
  generalize hl1 : s.L 1 = L1 at *
  generalize hl2 : s.L 2 = L2 at *
  have HL := hide (And.intro hl0 (And.intro hl1 hl2))
  clear hl0 hl1 hl2
  have HK := hide (And.intro k1 (And.intro k2 k3))
  go_enter Try.func19, Try.ntmps19
  go_wp2_with fail
  go_region_held3 (fun w' => w'.cell? ⟨b, 1, none⟩ = some v0 ∧ w'.cell? ⟨b, 2, none⟩ = some v1 ∧ w'.cell? ⟨b, 3, none⟩ = some v2)
    (first | exact ⟨(f3.cell (p := ⟨b, 1, none⟩) hbs (fun h => h)).trans HK.out.1, (f3.cell (p := ⟨b, 2, none⟩) hbs (fun h => h)).trans HK.out.2.1, (f3.cell (p := ⟨b, 3, none⟩) hbs (fun h => h)).trans HK.out.2.2⟩
           | exact ⟨(f2.cell (p := ⟨b, 1, none⟩) hbs (fun h => h)).trans HK.out.1, (f2.cell (p := ⟨b, 2, none⟩) hbs (fun h => h)).trans HK.out.2.1, (f2.cell (p := ⟨b, 3, none⟩) hbs (fun h => h)).trans HK.out.2.2⟩
           | exact ⟨(f1.cell (p := ⟨b, 1, none⟩) hbs (fun h => h)).trans HK.out.1, (f1.cell (p := ⟨b, 2, none⟩) hbs (fun h => h)).trans HK.out.2.1, (f1.cell (p := ⟨b, 3, none⟩) hbs (fun h => h)).trans HK.out.2.2⟩ | exact HK.out)
    (first
      | (go_at_call_of 39 v0; refine (clone_any _ v0 L0 _ (HR0.out.fr (Fr.drew (Fr.refl (fun _ => False) _)) (fun k hk => ⟨HT0.out k hk, fun h => h⟩)) HT0.out (by omega)).mono ?_; rintro e w1 ⟨A0, c0, o0, rfl, m1, f1, n1⟩; replace f1 : Fr (fun _ => False) w w1 := (Fr.drew (Fr.refl _ _)).trans f1)
      | (go_at_call_of 39 v1; refine (clone_any _ v1 L1 _ (HR1.out.fr f1 (fun k hk => ⟨HT1.out k hk, fun h => h⟩)) (fun k hk => Nat.lt_of_lt_of_le (HT1.out k hk) f1.size) (by omega)).mono ?_; rintro e w2 ⟨A1, c1, o1, rfl, m2, g2, n2⟩; have f2 : Fr (fun _ => False) w w2 := f1.trans g2)
      | (go_at_call_of 39 v2; refine (clone_any _ v2 L2 _ (HR2.out.fr f2 (fun k hk => ⟨HT2.out k hk, fun h => h⟩)) (fun k hk => Nat.lt_of_lt_of_le (HT2.out k hk) f2.size) (by omega)).mono ?_; rintro e w3 ⟨A2, c2, o2, rfl, m3, g3, n3⟩; have f3 : Fr (fun _ => False) w w3 := f2.trans g3))
  go_wp2_with fail
  go_ret3
  have h1 : ∀ k, o0 = some k → w.heap.size ≤ k := n1
  have h2 : ∀ k, o1 = some k → w.heap.size ≤ k := fun k hk => Nat.le_trans f1.size (n2 k hk)
  have h3 : ∀ k, o2 = some k → w.heap.size ≤ k := fun k hk => Nat.le_trans f2.size (n3 k hk)
  obtain ⟨rfl, rfl, rfl⟩ := HL.out
  refine ⟨A0, c0, o0, A1, c1, o1, A2, c2, o2, rfl, (m1.fr g2 (fun _ _ h => h)).fr g3 (fun _ _ h => h), m2.fr g3 (fun _ _ h => h), m3, f3, ?_, ?_, ?_, ?_⟩
  · rintro k (hk | hk | hk)
    · exact h1 k hk
    · exact h2 k hk
    · exact h3 k hk
  · intro k hk hk'
    have := m1.lt k hk
    have := n2 k hk'
    omega
  · intro k hk hk'
    have := (m1.fr g2 (fun _ _ h => h)).lt k hk
    have := n3 k hk'
    omega
  · intro k hk hk'
    have := m2.lt k hk
    have := n3 k hk'
    omega

def PSt.recall (s : PSt) : PSt := ⟨s.room, upd (upd s.L 1 (s.L 2 ++ s.L 1)) 2 []⟩
set_option maxHeartbeats 1000000 in
theorem recall_any (b : Nat) (s : PSt) (F : Nat → Prop) (w : World) (h : PoolAt 59 31 w b s F) (ht : s.tot ≤ 1000000) :
    Calls Try.prog 18 #[.pointer (some ⟨b, 0, none⟩)] w fun e w' => e = .returned (.int .i64 ((s.L 2).length : Nat)) ∧
      PoolPost 59 31 b s.recall F w w' := by
  have l1 := s.le_tot (i := 1) (by omega)
  have l2 := s.le_tot (i := 2) (by omega)
  obtain ⟨vs, os, h, hF⟩ := h
  have H := hide h
  have HF := hide hF
  obtain ⟨A1, c1, e1, -, -⟩ := (h.own 1 (by omega)).form
  obtain ⟨A2, c2, e2, -, -⟩ := (h.own 2 (by omega)).form
  have k2 := h.cell (i := 1) (by omega)
  have k3 := h.cell (i := 2) (by omega)
  simp only [Nat.reduceAdd] at k2 k3
  have hbs := h.lt
  have z1 := h.frozen 2
  have z2 := h.frozen 3
  rw [e1] at k2; rw [e2] at k3
  have HC := hide (concat_any w.heap.size (fun k => os 2 = some k) (fun k => os 1 = some k) (.slice A2 (s.L 2).length c2) (.slice A1 (s.L 1).length c1) (s.L 2) (s.L 1) (w.alloc (.cells #[.slice A2 (s.L 2).length c2, .slice A1 (s.L 1).length c1] 41)).drew (heap_alloc_new w _)
      (by rw [← e2]; exact ((h.own 2 (by omega)).rd).fr (Fr.drew (Fr.alloc (Fr.refl (fun _ => False) _) _)) (fun k hk => ⟨(h.own 2 (by omega)).lt k hk, fun h => h⟩))
      (by rw [← e1]; exact ((h.own 1 (by omega)).rd).fr (Fr.drew (Fr.alloc (Fr.refl (fun _ => False) _) _)) (fun k hk => ⟨(h.own 1 (by omega)).lt k hk, fun h => h⟩))
      (fun k hk => Nat.lt_of_lt_of_le ((h.own 2 (by omega)).lt k hk) (by simp)) (fun k hk => Nat.lt_of_lt_of_le ((h.own 1 (by omega)).lt k hk) (by simp)) (by omega) (by omega))
  have HK := hide (And.intro k2 k3)
  have HZ := hide (And.intro z1 z2)
  clear h e1 e2 hF z1 z2
  go_enter Try.func18, Try.ntmps18
  go_wp2_with fail
  go_region_law (go_simp; go_at_call 38; refine (HC.out).mono ?_; rintro e w1 ⟨A', cap', o', rfl, m1, g1, n1⟩; have f1 : Fr (fun _ => False) w w1 := (Fr.drew (Fr.alloc (Fr.refl (fun _ => False) _) _)).trans g1; have y1 := (f1.cell (p := ⟨b, 2, none⟩) hbs (fun h => h)).trans HK.out.1; have y2 := (f1.cell (p := ⟨b, 3, none⟩) hbs (fun h => h)).trans HK.out.2; have y3 := (f1.frozen (p := ⟨b, 2, none⟩) hbs (fun h => h)).trans HZ.out.1; have y4 := (f1.frozen (p := ⟨b, 3, none⟩) hbs (fun h => h)).trans HZ.out.2)
  all_goals
    go_wp2_with fail
    go_ret
    refine ⟨rfl, ?_⟩
    simp only [List.length_append] at m1
    have p1 := H.out.upd_ (i := 1) (by omega) (by decide) (f1.mono fun _ h => h.elim) m1 (fun k hk => .inr (by have := n1 k hk; simp at this; omega))
    have p2 := p1.upd_ (i := 2) (by omega) (by decide) (Fr.refl _ _) (Own.nil_ evC _ _ none) (fun k hk => by cases hk)
    refine p2.post HF.out.1 (fun i hi k hk => ?_) (Fr.setCell (Fr.setCell (f1.mono fun _ h => h.elim) (.inl HF.out.1) _) (.inl HF.out.1) _)
    by_cases h2 : i = 2
    · subst h2
      rw [upd_same] at hk
      cases hk
    · rw [upd_other _ _ h2] at hk
      by_cases h1 : i = 1
      · subst h1
        rw [upd_same] at hk
        have := n1 k hk
        simp at this
        exact .inr (by omega)
      · rw [upd_other _ _ h1] at hk
        exact .inl (HF.out.2.1 i hi k hk)

def deferS (s : PSt) (e : Ev) : Int × PSt := addS s 2 e (decide (e.kind = 2) && mayB e)
set_option maxHeartbeats 1000000 in
theorem defer_any (b : Nat) (s : PSt) (F : Nat → Prop) (k : Int) (nm : ByteArray) (a t : Int) (w : World) (h : PoolAt 59 31 w b s F) (ht : s.tot ≤ 1000000) :
    Calls Try.prog 17 #[.pointer (some ⟨b, 0, none⟩), .agg #[.int .u8 k, .string nm, .int .i64 a, .int .i64 t]] w fun e w' => e = .returned (.int .i64 (deferS s ⟨k, nm, a, t⟩).1) ∧
      PoolPost 59 31 b (deferS s ⟨k, nm, a, t⟩).2 F w w' := by
  have H := hide h
  have hFw : ∀ k, F k → k < w.heap.size := by obtain ⟨vs, os, h1, h2, h3, h4⟩ := h; exact h4
  have HF := hide hFw
  clear h hFw
  have hcW : (w.alloc (.cells #[.int .u8 k, .string nm, .int .i64 a, .int .i64 t] 31)).heap[w.heap.size]? = some (.cells #[.int .u8 k, .string nm, .int .i64 a, .int .i64 t] 31 (0, 0)) := heap_alloc_new w _
  have HC := hide hcW
  clear hcW
  by_cases hk : k = 2
  · have hp : deferS s ⟨k, nm, a, t⟩ = addS s 2 ⟨k, nm, a, t⟩ (mayB ⟨k, nm, a, t⟩) := by simp [deferS, hk]
    rw [hp]
    have hkb : (k == 2) = true := by simpa using hk
    clear hp hk
    go_enter Try.func17, Try.ntmps17
    go_wp2_with fail
    go_region_held3 (fun w' => w'.cell? ⟨w.heap.size, 0, none⟩ = some (.int .u8 k) ∧ w'.cell? ⟨w.heap.size, 1, none⟩ = some (.string nm) ∧ w'.cell? ⟨w.heap.size, 2, none⟩ = some (.int .i64 a) ∧ w'.cell? ⟨w.heap.size, 3, none⟩ = some (.int .i64 t))
      (first | exact ev_cells z | exact ev_cells y | exact ev_cells HC.out)
      (first
        | (go_at_call 33; refine (may_any _ _ _ _ _).mono ?_; rintro e w1 ⟨rfl, hb1⟩; have y := (hb1.block w.heap.size (by simp)).trans HC.out; have f1 : Fr (fun _ => False) w w1 := (Fr.drew (Fr.alloc (Fr.refl _ _) _)).trans (Fr.of_below' hb1))
        | (go_at_call 37; refine (add2 b s F _ _ _ _ _ _ (H.out.same f1) ht).mono ?_; rintro e w2 ⟨rfl, hp2⟩; have z := hp2.frees HF.out f1 y))
    go_wp2
    go_ret
    exact ⟨rfl, hp2.after f1⟩
  · have hp : deferS s ⟨k, nm, a, t⟩ = addS s 2 ⟨k, nm, a, t⟩ false := by simp [deferS, hk]
    rw [hp]
    have hkb : (k == 2) = false := by simpa using hk
    clear hp hk
    go_enter Try.func17, Try.ntmps17
    go_wp2_with fail
    have f1 : Fr (fun _ => False) w (w.alloc (.cells #[.int .u8 k, .string nm, .int .i64 a, .int .i64 t] 31)).drew := Fr.drew (Fr.alloc (Fr.refl _ _) _)
    have HAD := hide (add2 b s F k nm a t false _ (H.out.same f1) ht)
    go_region_law (go_simp; go_at_call 37; refine HAD.out.mono ?_; rintro e w2 ⟨rfl, hp2⟩)
    all_goals
      go_wp2
      go_ret
      exact ⟨rfl, hp2.after f1⟩
end Go.Proofs.Ythfihlojpmhagaa
