/- The pool's laws: the reference's Of; PoolRows; PoolNone. -/
import Derived.Test.YthfihlojpmhagaaPool18
namespace Go.Proofs.Ythfihlojpmhagaa
open Go.RowKit
attribute [local go_sem ↓] Go.wp_at_zero Go.wp_at_succ

/-- three appends to a pool without events -/
theorem PoolR.set {T E : TypeId} {w w1 : World} {b : Nat} {s : PSt} {vs : Nat → Value} {os : Nat → Option Nat} (h : PoolR T E w b s vs os) {i : Nat} (hi : i < 3) (hT : T ≠ E) (_ : os i = none) (_ : s.L i = []) {v' : Value} {o' : Option Nat} {l' : List Ev}
    (hf : Fr (fun _ => False) w w1) (hown : Own evC w1 E v' o' l') (hn : ∀ k, o' = some k → w.heap.size ≤ k) : PoolR T E (w1.setCell ⟨b, 1 + i, none⟩ v') b ⟨s.room, upd s.L i l'⟩ (upd vs i v') (upd os i o') :=
  h.upd_ hi hT (hf.mono fun _ h => h.elim) hown (fun k hk => .inr (hn k hk))

set_option maxHeartbeats 4000000 in
theorem rof_any (room : Int) (S0 S1 S2 : Nat → Prop) (v0 v1 v2 : Value) (L : Nat → List Ev) (w : World) (h0 : Rd evC w S0 v0 (L 0)) (h1 : Rd evC w S1 v1 (L 1)) (h2 : Rd evC w S2 v2 (L 2))
    (hS0 : ∀ k, S0 k → k < w.heap.size) (hS1 : ∀ k, S1 k → k < w.heap.size) (hS2 : ∀ k, S2 k → k < w.heap.size) (ht : (⟨room, L⟩ : PSt).tot ≤ 1000000) :
    Calls Try.prog 26 #[.int .i64 room, v0, v1, v2] w (OfPost 61 63 room L w) := by
  have l0 := (⟨room, L⟩ : PSt).le_tot (i := 0) (by omega)
  have l1 := (⟨room, L⟩ : PSt).le_tot (i := 1) (by omega)
  have l2 := (⟨room, L⟩ : PSt).le_tot (i := 2) (by omega)
  have htt : (⟨room, L⟩ : PSt).tot = (L 0).length + (L 1).length + (L 2).length := rfl
  simp only at l0 l1 l2
  have H0 := hide h0
  have H1 := hide h1
  have H2 := hide h2
  have HS0 := hide hS0
  have HS1 := hide hS1
  have HS2 := hide hS2
  have HTT := hide htt
  obtain ⟨A0, c0, rfl, -⟩ := h0
  obtain ⟨A1, c1, rfl, -⟩ := h1
  obtain ⟨A2, c2, rfl, -⟩ := h2
  have f0 : Fr (fun _ => False) w (w.alloc (.cells #[.slice A0 (L 0).length c0, .slice A1 (L 1).length c1, .slice A2 (L 2).length c2] 48)) := Fr.alloc (Fr.refl _ _) _
  have FW := hide f0
  have x0 := hide (heap_alloc_new w (.cells #[.slice A0 (L 0).length c0, .slice A1 (L 1).length c1, .slice A2 (L 2).length c2] 48))
  clear hS0 hS1 hS2 htt f0
  go_enter Try.func26, Try.ntmps26
  go_wp2_with fail
  generalize w.alloc (.cells #[.slice A0 (L 0).length c0, .slice A1 (L 1).length c1, .slice A2 (L 2).length c2] 48) = W at *
  have hbW : w.heap.size < W.heap.size := (Array.getElem?_eq_some_iff.1 x0.out).1
  refine wp_loop_rounds 4 ?_
  rw [rounds_succ]
  go_wp2_with fail
  go_loopw [12] (fun j wr => ∃ q : Nat, q ≤ (L 0).length ∧ j = .int .i64 q ∧ Hid (Below W.heap.size W wr) ∧ Hid (∀ x ∈ (L 0).take q, okEv 0 x = true)) (fun j _ => (L 0).length - (intOf j).toNat)
  case atStart => exact ⟨0, Nat.zero_le _, rfl, Below.refl _ _, by simp [Hid]⟩
  case round =>
  obtain ⟨q, hq, rfl, HB0, HO0⟩ := hrel
  have u0 : wr.cell? ⟨w.heap.size, 0, none⟩ = some (.slice A0 (L 0).length c0) := cell_of_row wr w.heap.size 0 _ _ _ ((HB0.out.block _ hbW).trans x0.out)
  by_cases hlt : q < (L 0).length
  · obtain ⟨g, off, cap, hv, -, -, hog, hc⟩ := H0.out.at_ hlt
    simp only [Value.slice.injEq, true_and] at hv
    obtain ⟨rfl, rfl⟩ := hv
    have hgw := HS0.out g hog
    have hgW : g < W.heap.size := Nat.lt_of_lt_of_le hgw FW.out.size
    have q0 := (HB0.out.cell (p := ⟨g, off + (q * 4 + 0), none⟩) hgW).trans ((FW.out.cell (p := ⟨g, off + (q * 4 + 0), none⟩) hgw (fun h => h)).trans (hc 0 (by decide)))
    have q1 := (HB0.out.cell (p := ⟨g, off + (q * 4 + 1), none⟩) hgW).trans ((FW.out.cell (p := ⟨g, off + (q * 4 + 1), none⟩) hgw (fun h => h)).trans (hc 1 (by decide)))
    have q2 := (HB0.out.cell (p := ⟨g, off + (q * 4 + 2), none⟩) hgW).trans ((FW.out.cell (p := ⟨g, off + (q * 4 + 2), none⟩) hgw (fun h => h)).trans (hc 2 (by decide)))
    have q3 := (HB0.out.cell (p := ⟨g, off + (q * 4 + 3), none⟩) hgW).trans ((FW.out.cell (p := ⟨g, off + (q * 4 + 3), none⟩) hgw (fun h => h)).trans (hc 3 (by decide)))
    have hmem : (L 0)[q] ∈ L 0 := List.getElem_mem hlt
    have htk : ∀ x ∈ (L 0).take (q + 1), x = (L 0)[q] ∨ x ∈ (L 0).take q := by
      intro x hx
      rw [List.take_add_one, List.getElem?_eq_getElem hlt, Option.toList_some, List.mem_append, List.mem_singleton] at hx
      exact hx.symm
    have HM := hide (And.intro hmem htk)
    have hqi : (q : Int) < ((L 0).length : Int) := by omega
    generalize (L 0)[q] = x at *
    obtain ⟨ek, en, ea, et⟩ := x
    simp only [evC, Nat.add_zero, List.getElem?_cons_zero, List.getElem?_cons_succ, ← Nat.add_assoc] at q0 q1 q2 q3
    have hgr : g < wr.heap.size := Nat.lt_of_lt_of_le hgW HB0.out.size
    have hbr : w.heap.size < wr.heap.size := Nat.lt_of_lt_of_le hbW HB0.out.size
    clear hc hmem htk hog
    go_wp2_with fail
    refine (rmay_any ek en ea et _).mono ?_
    rintro e wm ⟨rfl, hbm⟩
    obtain ⟨y0, y1, y2, y3⟩ := ev_cells ((hbm.block wr.heap.size (by simp)).trans (heap_alloc_new wr _))
    have HBM := hide ((HB0.out.alloc HB0.out.size (.cells #[.int .u8 ek, .string en, .int .i64 ea, .int .i64 et] 63)).trans (hbm.mono (Nat.le_trans HB0.out.size (by simp))))
    have HOK := hide (show okEv 0 ⟨ek, en, ea, et⟩ = (mayB ⟨ek, en, ea, et⟩ && (true == decide (ek = 1)) && (true || decide (ek = 2))) from rfl)
    clear hbm q0 q1 q2 q3 hgr u0 hbr
    generalize mayB ⟨ek, en, ea, et⟩ = m at *
    have n1 : (ek == 1) = decide (ek = 1) := rfl
    have n2 : (ek != 2) = !decide (ek = 2) := rfl
    generalize decide (ek = 1) = d1 at *
    generalize decide (ek = 2) = d2 at *
    cases m <;> cases d1 <;> cases d2
    all_goals
      simp only [Bool.not_true, Bool.not_false] at n2
      go_wp2_with fail
    all_goals first
      | (go_ret2
         exact ⟨(FW.out.trans (Fr.of_below HBM.out fun k h1 h2 => by omega)), .inr ⟨by rw [ofErr_bad (i := 0) (by omega) HM.out.1 HOK.out]; decide, by rw [ofErr_bad (i := 0) (by omega) HM.out.1 HOK.out]; rfl⟩⟩)
      | (go_roundw
         case rel => exact ⟨q + 1, by omega, by go_num, HBM.out, fun x hx => by
          rcases HM.out.2 x hx with rfl | h
          · exact HOK.out
          · exact HO0.out x h⟩
         case measure => simp [intOf]; omega)
  obtain rfl : q = (L 0).length := by omega
  rw [List.take_of_length_le (Nat.le_refl _)] at HO0
  go_wp2_with fail
  clear u0 hlt
  rw [rounds_succ]
  go_wp2_with fail
  go_loopw [12] (fun j wr => ∃ q : Nat, q ≤ (L 1).length ∧ j = .int .i64 q ∧ Hid (Below W.heap.size W wr) ∧ Hid (∀ x ∈ (L 1).take q, okEv 1 x = true)) (fun j _ => (L 1).length - (intOf j).toNat)
  case atStart => exact ⟨0, Nat.zero_le _, rfl, HB0.out, by simp [Hid]⟩
  case round =>
  obtain ⟨q, hq, rfl, HB1, HO1⟩ := hrel
  have u1 : wr.cell? ⟨w.heap.size, 1, none⟩ = some (.slice A1 (L 1).length c1) := cell_of_row wr w.heap.size 1 _ _ _ ((HB1.out.block _ hbW).trans x0.out)
  by_cases hlt : q < (L 1).length
  · obtain ⟨g, off, cap, hv, -, -, hog, hc⟩ := H1.out.at_ hlt
    simp only [Value.slice.injEq, true_and] at hv
    obtain ⟨rfl, rfl⟩ := hv
    have hgw := HS1.out g hog
    have hgW : g < W.heap.size := Nat.lt_of_lt_of_le hgw FW.out.size
    have q0 := (HB1.out.cell (p := ⟨g, off + (q * 4 + 0), none⟩) hgW).trans ((FW.out.cell (p := ⟨g, off + (q * 4 + 0), none⟩) hgw (fun h => h)).trans (hc 0 (by decide)))
    have q1 := (HB1.out.cell (p := ⟨g, off + (q * 4 + 1), none⟩) hgW).trans ((FW.out.cell (p := ⟨g, off + (q * 4 + 1), none⟩) hgw (fun h => h)).trans (hc 1 (by decide)))
    have q2 := (HB1.out.cell (p := ⟨g, off + (q * 4 + 2), none⟩) hgW).trans ((FW.out.cell (p := ⟨g, off + (q * 4 + 2), none⟩) hgw (fun h => h)).trans (hc 2 (by decide)))
    have q3 := (HB1.out.cell (p := ⟨g, off + (q * 4 + 3), none⟩) hgW).trans ((FW.out.cell (p := ⟨g, off + (q * 4 + 3), none⟩) hgw (fun h => h)).trans (hc 3 (by decide)))
    have hmem : (L 1)[q] ∈ L 1 := List.getElem_mem hlt
    have htk : ∀ x ∈ (L 1).take (q + 1), x = (L 1)[q] ∨ x ∈ (L 1).take q := by
      intro x hx
      rw [List.take_add_one, List.getElem?_eq_getElem hlt, Option.toList_some, List.mem_append, List.mem_singleton] at hx
      exact hx.symm
    have HM := hide (And.intro hmem htk)
    have hqi : (q : Int) < ((L 1).length : Int) := by omega
    generalize (L 1)[q] = x at *
    obtain ⟨ek, en, ea, et⟩ := x
    simp only [evC, Nat.add_zero, List.getElem?_cons_zero, List.getElem?_cons_succ, ← Nat.add_assoc] at q0 q1 q2 q3
    have hgr : g < wr.heap.size := Nat.lt_of_lt_of_le hgW HB1.out.size
    have hbr : w.heap.size < wr.heap.size := Nat.lt_of_lt_of_le hbW HB1.out.size
    clear hc hmem htk hog
    go_wp2_with fail
    refine (rmay_any ek en ea et _).mono ?_
    rintro e wm ⟨rfl, hbm⟩
    obtain ⟨y0, y1, y2, y3⟩ := ev_cells ((hbm.block wr.heap.size (by simp)).trans (heap_alloc_new wr _))
    have HBM := hide ((HB1.out.alloc HB1.out.size (.cells #[.int .u8 ek, .string en, .int .i64 ea, .int .i64 et] 63)).trans (hbm.mono (Nat.le_trans HB1.out.size (by simp))))
    have HOK := hide (show okEv 1 ⟨ek, en, ea, et⟩ = (mayB ⟨ek, en, ea, et⟩ && (false == decide (ek = 1)) && (true || decide (ek = 2))) from rfl)
    clear hbm q0 q1 q2 q3 hgr u1 hbr
    generalize mayB ⟨ek, en, ea, et⟩ = m at *
    have n1 : (ek == 1) = decide (ek = 1) := rfl
    have n2 : (ek != 2) = !decide (ek = 2) := rfl
    generalize decide (ek = 1) = d1 at *
    generalize decide (ek = 2) = d2 at *
    cases m <;> cases d1 <;> cases d2
    all_goals
      simp only [Bool.not_true, Bool.not_false] at n2
      go_wp2_with fail
    all_goals first
      | (go_ret2
         exact ⟨(FW.out.trans (Fr.of_below HBM.out fun k h1 h2 => by omega)), .inr ⟨by rw [ofErr_bad (i := 1) (by omega) HM.out.1 HOK.out]; decide, by rw [ofErr_bad (i := 1) (by omega) HM.out.1 HOK.out]; rfl⟩⟩)
      | (go_roundw
         case rel => exact ⟨q + 1, by omega, by go_num, HBM.out, fun x hx => by
          rcases HM.out.2 x hx with rfl | h
          · exact HOK.out
          · exact HO1.out x h⟩
         case measure => simp [intOf]; omega)
  obtain rfl : q = (L 1).length := by omega
  rw [List.take_of_length_le (Nat.le_refl _)] at HO1
  go_wp2_with fail
  clear u1 hlt
  rw [rounds_succ]
  go_wp2_with fail
  go_loopw [12] (fun j wr => ∃ q : Nat, q ≤ (L 2).length ∧ j = .int .i64 q ∧ Hid (Below W.heap.size W wr) ∧ Hid (∀ x ∈ (L 2).take q, okEv 2 x = true)) (fun j _ => (L 2).length - (intOf j).toNat)
  case atStart => exact ⟨0, Nat.zero_le _, rfl, HB1.out, by simp [Hid]⟩
  case round =>
  obtain ⟨q, hq, rfl, HB2, HO2⟩ := hrel
  have u2 : wr.cell? ⟨w.heap.size, 2, none⟩ = some (.slice A2 (L 2).length c2) := cell_of_row wr w.heap.size 2 _ _ _ ((HB2.out.block _ hbW).trans x0.out)
  by_cases hlt : q < (L 2).length
  · obtain ⟨g, off, cap, hv, -, -, hog, hc⟩ := H2.out.at_ hlt
    simp only [Value.slice.injEq, true_and] at hv
    obtain ⟨rfl, rfl⟩ := hv
    have hgw := HS2.out g hog
    have hgW : g < W.heap.size := Nat.lt_of_lt_of_le hgw FW.out.size
    have q0 := (HB2.out.cell (p := ⟨g, off + (q * 4 + 0), none⟩) hgW).trans ((FW.out.cell (p := ⟨g, off + (q * 4 + 0), none⟩) hgw (fun h => h)).trans (hc 0 (by decide)))
    have q1 := (HB2.out.cell (p := ⟨g, off + (q * 4 + 1), none⟩) hgW).trans ((FW.out.cell (p := ⟨g, off + (q * 4 + 1), none⟩) hgw (fun h => h)).trans (hc 1 (by decide)))
    have q2 := (HB2.out.cell (p := ⟨g, off + (q * 4 + 2), none⟩) hgW).trans ((FW.out.cell (p := ⟨g, off + (q * 4 + 2), none⟩) hgw (fun h => h)).trans (hc 2 (by decide)))
    have q3 := (HB2.out.cell (p := ⟨g, off + (q * 4 + 3), none⟩) hgW).trans ((FW.out.cell (p := ⟨g, off + (q * 4 + 3), none⟩) hgw (fun h => h)).trans (hc 3 (by decide)))
    have hmem : (L 2)[q] ∈ L 2 := List.getElem_mem hlt
    have htk : ∀ x ∈ (L 2).take (q + 1), x = (L 2)[q] ∨ x ∈ (L 2).take q := by
      intro x hx
      rw [List.take_add_one, List.getElem?_eq_getElem hlt, Option.toList_some, List.mem_append, List.mem_singleton] at hx
      exact hx.symm
    have HM := hide (And.intro hmem htk)
    have hqi : (q : Int) < ((L 2).length : Int) := by omega
    generalize (L 2)[q] = x at *
    obtain ⟨ek, en, ea, et⟩ := x
    simp only [evC, Nat.add_zero, List.getElem?_cons_zero, List.getElem?_cons_succ, ← Nat.add_assoc] at q0 q1 q2 q3
    have hgr : g < wr.heap.size := Nat.lt_of_lt_of_le hgW HB2.out.size
    have hbr : w.heap.size < wr.heap.size := Nat.lt_of_lt_of_le hbW HB2.out.size
    clear hc hmem htk hog
    go_wp2_with fail
    refine (rmay_any ek en ea et _).mono ?_
    rintro e wm ⟨rfl, hbm⟩
    obtain ⟨y0, y1, y2, y3⟩ := ev_cells ((hbm.block wr.heap.size (by simp)).trans (heap_alloc_new wr _))
    have HBM := hide ((HB2.out.alloc HB2.out.size (.cells #[.int .u8 ek, .string en, .int .i64 ea, .int .i64 et] 63)).trans (hbm.mono (Nat.le_trans HB2.out.size (by simp))))
    have HOK := hide (show okEv 2 ⟨ek, en, ea, et⟩ = (mayB ⟨ek, en, ea, et⟩ && (false == decide (ek = 1)) && (false || decide (ek = 2))) from rfl)
    clear hbm q0 q1 q2 q3 hgr u2 hbr
    generalize mayB ⟨ek, en, ea, et⟩ = m at *
    have n1 : (ek == 1) = decide (ek = 1) := rfl
    have n2 : (ek != 2) = !decide (ek = 2) := rfl
    generalize decide (ek = 1) = d1 at *
    generalize decide (ek = 2) = d2 at *
    cases m <;> cases d1 <;> cases d2
    all_goals
      simp only [Bool.not_true, Bool.not_false] at n2
      go_wp2_with fail
    all_goals first
      | (go_ret2
         exact ⟨(FW.out.trans (Fr.of_below HBM.out fun k h1 h2 => by omega)), .inr ⟨by rw [ofErr_bad (i := 2) (by omega) HM.out.1 HOK.out]; decide, by rw [ofErr_bad (i := 2) (by omega) HM.out.1 HOK.out]; rfl⟩⟩)
      | (go_roundw
         case rel => exact ⟨q + 1, by omega, by go_num, HBM.out, fun x hx => by
          rcases HM.out.2 x hx with rfl | h
          · exact HOK.out
          · exact HO2.out x h⟩
         case measure => simp [intOf]; omega)
  obtain rfl : q = (L 2).length := by omega
  rw [List.take_of_length_le (Nat.le_refl _)] at HO2
  go_wp2_with fail
  clear u2 hlt
  rw [rounds_succ]
  go_wp2_with fail
  have HE := hide (ofErr_good (room := room) HO0.out HO1.out HO2.out)
  have HFR := hide (FW.out.trans (Fr.of_below' HB2.out))
  refine (rnew_any room wr).mono ?_
  rintro e w1 ⟨rfl, hp, f1, hz1⟩
  obtain ⟨vs, os, hR, hRb, hRos, -⟩ := hp
  have F1 := hide (HFR.out.trans f1)
  have p0 := hR.cell0
  have p1 := hR.cell (i := 0) (by omega)
  have p2 := hR.cell (i := 1) (by omega)
  have p3 := hR.cell (i := 2) (by omega)
  simp only [Nat.reduceAdd] at p1 p2 p3
  have hbl := hR.lt
  have HR := hide hR
  have HRos := hide hRos
  have ls0 : (L 0).length ≤ 1000000 := by omega
  have ls1 : (L 1).length ≤ 1000000 := by omega
  have ls2 : (L 2).length ≤ 1000000 := by omega
  by_cases hfull : newRoom room < ((⟨room, L⟩ : PSt).tot : Int)
  · have e := HE.out
    rw [if_pos hfull] at e
    rw [HTT.out] at hfull
    have hf2 : newRoom room < ((L 0).length : Int) + ((L 1).length : Int) + ((L 2).length : Int) := by omega
    have E := hide e
    clear e hfull f1 hz1 hRb hRos hR l0 l1 l2 ht
    go_wp2_with fail
    go_ret2
    exact ⟨F1.out, .inr ⟨by rw [E.out]; decide, by rw [E.out]; rfl⟩⟩
  · have e := HE.out
    rw [if_neg hfull] at e
    rw [HTT.out] at hfull
    have hf2 : ((L 0).length : Int) + ((L 1).length : Int) + ((L 2).length : Int) ≤ newRoom room := by omega
    have E := hide e
    have HF1 := hide (show ∀ k, (∃ i, i < 3 ∧ os i = some k) → w.heap.size ≤ k from fun k hk => by
      obtain ⟨i, hi, hk⟩ := hk
      have := hRos i hi k hk
      have := HFR.out.size
      omega)
    have own0 := hide (show Own evC _ 63 (vs 0) (os 0) [] from hR.own 0 (by omega))
    have z1 := hR.frozen 1
    have hob := hide (show ∀ i, i < 3 → os i ≠ some wr.heap.size from fun i hi => (hR.own i hi).ne_blk hR.blk (by decide))
    have hbw : w.heap.size ≤ wr.heap.size := HFR.out.size
    clear e hfull f1 hz1 hRb hRos hR l0 l1 l2 ht
    generalize wr.heap.size = b at *
    go_wp2_with (first
      | (at_builtin; have _t := G2; go_must (refine wpList_append_Own rfl rfl el_rev (by rfl) (by rfl) own2.out (H2.out.fr G2.out.1 (fun k hk => ⟨HS2.out k hk, fun h => h⟩)) (by (try simp); omega) ?_); intro B2 d2 w4 o4 m4 g4 n4
         have y3 := (g4.cell (p := ⟨b, 3, none⟩) hb3 G2.out.2).trans x3
         have z3' := (g4.frozen (p := ⟨b, 3, none⟩) hb3 G2.out.2).trans z3
         have P4 := hide (P3.out.upd_ (i := 2) (by omega) (by decide) g4 m4 (fun k hk => (n4 k hk).imp id (fun h => h.1)))
         have N4 := hide (And.intro g4 n4)
         clear g4 m4 n4)
      | (at_builtin; have _t := G1; go_must (refine wpList_append_Own rfl rfl el_rev (by rfl) (by rfl) own1.out (H1.out.fr G1.out.1 (fun k hk => ⟨HS1.out k hk, fun h => h⟩)) (by (try simp); omega) ?_); intro B1 d1 w3 o3 m3 g3 n3
         have y2 := (g3.cell (p := ⟨b, 2, none⟩) hb2 G1.out.2).trans x2
         have z2' := (g3.frozen (p := ⟨b, 2, none⟩) hb2 G1.out.2).trans z2
         have P3 := hide (P2.out.upd_ (i := 1) (by omega) (by decide) g3 m3 (fun k hk => (n3 k hk).imp id (fun h => h.1)))
         simp only [Nat.reduceAdd] at P3
         have x3 : (w3.setCell ⟨b, 2, none⟩ (.slice B1 (([] : List Ev).length + (L 1).length) d1)).cell? ⟨b, 3, none⟩ = some (vs 2) := P3.out.cell (i := 2) (by omega)
         have z3 := P3.out.frozen 3
         have hb3 := P3.out.lt
         have own2 := hide (show Own evC _ 63 (vs 2) (os 2) [] from P3.out.own 2 (by omega))
         have N3 := hide (And.intro g3 n3)
         have G2 := hide (show Fr (fun _ => False) w (w3.setCell ⟨b, 2, none⟩ (.slice B1 (([] : List Ev).length + (L 1).length) d1)) ∧ ¬ (os 2 = some b) from
           ⟨Fr.setCell (G1.out.1.then_ g3 (fun k hk e => by have := HF1.out k ⟨1, by omega, e⟩; omega)) (.inr hbw) _, hob.out 2 (by omega)⟩)
         simp only [List.length_nil, Nat.zero_add] at x3 z3 own2 G2 P3 hb3
         clear g3 m3 n3)
      | (at_builtin; refine wpList_append_Own rfl rfl el_rev (by rfl) (by rfl) own0.out (H0.out.fr F1.out (fun k hk => ⟨HS0.out k hk, fun h => h⟩)) (by (try simp); omega) ?_; intro B0 d0 w2 o2 m2 g2 n2
         have y1 := (g2.cell (p := ⟨b, 1, none⟩) hbl (hob.out 0 (by omega))).trans p1
         have z1' := (g2.frozen (p := ⟨b, 1, none⟩) hbl (hob.out 0 (by omega))).trans z1
         have P2 := hide (HR.out.upd_ (i := 0) (by omega) (by decide) g2 m2 (fun k hk => (n2 k hk).imp id (fun h => h.1)))
         simp only [Nat.add_zero] at P2
         have x2 : (w2.setCell ⟨b, 1, none⟩ (.slice B0 (([] : List Ev).length + (L 0).length) d0)).cell? ⟨b, 2, none⟩ = some (vs 1) := P2.out.cell (i := 1) (by omega)
         have z2 := P2.out.frozen 2
         have hb2 := P2.out.lt
         have own1 := hide (show Own evC _ 63 (vs 1) (os 1) [] from P2.out.own 1 (by omega))
         have N2 := hide (And.intro g2 n2)
         have G1 := hide (show Fr (fun _ => False) w (w2.setCell ⟨b, 1, none⟩ (.slice B0 (([] : List Ev).length + (L 0).length) d0)) ∧ ¬ (os 1 = some b) from
           ⟨Fr.setCell (F1.out.then_ g2 (fun k hk e => by have := HF1.out k ⟨0, by omega, e⟩; omega)) (.inr hbw) _, hob.out 1 (by omega)⟩)
         simp only [List.length_nil, Nat.zero_add] at x2 z2 own1 G1 P2 hb2
         clear g2 m2 n2))
    go_ret2
    refine ⟨?_, .inl ⟨E.out, b, fun k => w.heap.size ≤ k ∧ k < (w4.setCell ⟨b, 3, none⟩ (.slice B2 (L 2).length d2)).heap.size, rfl, ?_, fun k hk => hk.1⟩⟩
    · exact Fr.setCell (G2.out.1.then_ N4.out.1 (fun k hk e => by have := HF1.out k ⟨2, by omega, e⟩; omega)) (.inr hbw) _
    · have P5 := P4.out
      simp only [List.length_nil, Nat.zero_add] at P5
      have hlts := N2.out.1.size
      have hlt3 := N3.out.1.size
      have hs1 := F1.out.size
      refine PoolAt.congr (s := ⟨newRoom room, upd (upd (upd (fun _ => []) 0 ([] ++ L 0)) 1 ([] ++ L 1)) 2 ([] ++ L 2)⟩) rfl (by intro i hi; rcases i with _ | _ | _ | i <;> first | rfl | omega) ⟨_, _, P5, ⟨hbw, P5.lt⟩, fun i hi k hk => ⟨?_, (P5.own i hi).lt k hk⟩, fun k hk => hk.2⟩
      rcases i with _ | _ | _ | i
      · rcases N2.out.2 k hk with h | h
        · exact HF1.out k ⟨0, by omega, h⟩
        · omega
      · rcases N3.out.2 k hk with h | h
        · exact HF1.out k ⟨1, by omega, h⟩
        · have := h.1; simp [World.setCell] at this; omega
      · rcases N4.out.2 k hk with h | h
        · exact HF1.out k ⟨2, by omega, h⟩
        · have := h.1; simp [World.setCell] at this; omega
      · omega
end Go.Proofs.Ythfihlojpmhagaa
