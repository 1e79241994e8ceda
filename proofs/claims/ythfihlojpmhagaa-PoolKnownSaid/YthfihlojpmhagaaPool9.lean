/- The pool: Of. -/
import Derived.Test.YthfihlojpmhagaaPool8
namespace Go.Proofs.Ythfihlojpmhagaa
open Go.RowKit
attribute [local go_sem ↓] Go.wp_at_zero Go.wp_at_succ

/-- may an event stand in row i? -/
def okEv (i : Nat) (e : Ev) : Bool := mayB e && (decide (i = 0) == decide (e.kind = 1)) && (decide (i ≠ 2) || decide (e.kind = 2))
def rows3 (a b c : List Ev) : Nat → List Ev := fun i => if i = 0 then a else if i = 1 then b else c
def ofErr (room : Int) (L : Nat → List Ev) : Int :=
  if (L 0).all (okEv 0) && ((L 1).all (okEv 1) && (L 2).all (okEv 2)) then (if newRoom room < ((⟨room, L⟩ : PSt).tot : Int) then 240 else 0) else 2
def OfPost (T E : TypeId) (room : Int) (L : Nat → List Ev) (w : World) (e : Ending) (w' : World) : Prop :=
  Fr (fun _ => False) w w' ∧ ((ofErr room L = 0 ∧ ∃ b F, e = .returned (.tuple #[.pointer (some ⟨b, 0, none⟩), .int .i64 0]) ∧ PoolAt T E w' b ⟨newRoom room, L⟩ F ∧ (∀ k, F k → w.heap.size ≤ k)) ∨
    (ofErr room L ≠ 0 ∧ e = .returned (.tuple #[.pointer none, .int .i64 (ofErr room L)])))

theorem poolR_mk3 {T E : TypeId} {w : World} {b : Nat} {room : Int} {x0 x1 x2 : Value} {L : Nat → List Ev} {v0 v1 v2 : Value} {o0 o1 o2 : Option Nat}
    (hb : w.heap[b]? = some (.cells #[.int .i64 room, x0, x1, x2] T (0, 0))) (h0 : Own evC w E v0 o0 (L 0)) (h1 : Own evC w E v1 o1 (L 1)) (h2 : Own evC w E v2 o2 (L 2)) (n0 : o0 ≠ some b) (n1 : o1 ≠ some b) (n2 : o2 ≠ some b)
    (d01 : Dj o0 o1) (d02 : Dj o0 o2) (d12 : Dj o1 o2) :
    PoolR T E (((w.setCell ⟨b, 1, none⟩ v0).setCell ⟨b, 2, none⟩ v1).setCell ⟨b, 3, none⟩ v2) b ⟨room, L⟩ (fun i => if i = 0 then v0 else if i = 1 then v1 else v2) (fun i => if i = 0 then o0 else if i = 1 then o1 else o2) := by
  have s1 := heap_setCell_same w b 1 _ T v0 hb
  have s2 := heap_setCell_same _ b 2 _ T v1 s1
  have s3 := heap_setCell_same _ b 3 _ T v2 s2
  have f : Fr (fun k => k = b) w (((w.setCell ⟨b, 1, none⟩ v0).setCell ⟨b, 2, none⟩ v1).setCell ⟨b, 3, none⟩ v2) := Fr.setCell (Fr.setCell (Fr.setCell (Fr.refl (fun k => k = b) w) (.inl rfl) _) (.inl rfl) _) (.inl rfl) _
  have q0 := h0.fr f (fun k hk e => n0 (by rw [hk, e]))
  have q1 := h1.fr f (fun k hk e => n1 (by rw [hk, e]))
  have q2 := h2.fr f (fun k hk e => n2 (by rw [hk, e]))
  refine ⟨by rw [s3]; simp, fun i hi => ?_, fun i j hi hj hij => ?_⟩
  · rcases i with _ | _ | _ | i
    · exact q0
    · exact q1
    · exact q2
    · omega
  · rcases i with _ | _ | _ | i <;> rcases j with _ | _ | _ | j <;> first | omega | exact d01 | exact d02 | exact d12 | exact d01.symm | exact d02.symm | exact d12.symm

theorem ofErr_bad {room : Int} {L : Nat → List Ev} {i : Nat} (hi : i < 3) {x : Ev} (hx : x ∈ L i) (hb : okEv i x = false) : ofErr room L = 2 := by
  unfold ofErr
  rw [if_neg]
  intro h
  simp only [Bool.and_eq_true, List.all_eq_true] at h
  rcases i with _ | _ | _ | i
  · have := h.1 x hx; rw [hb] at this; cases this
  · have := h.2.1 x hx; rw [hb] at this; cases this
  · have := h.2.2 x hx; rw [hb] at this; cases this
  · omega
theorem ofErr_good {room : Int} {L : Nat → List Ev} (h0 : ∀ x ∈ L 0, okEv 0 x = true) (h1 : ∀ x ∈ L 1, okEv 1 x = true) (h2 : ∀ x ∈ L 2, okEv 2 x = true) : ofErr room L = if newRoom room < ((⟨room, L⟩ : PSt).tot : Int) then 240 else 0 := by
  unfold ofErr
  rw [if_pos]
  simp only [Bool.and_eq_true, List.all_eq_true]
  exact ⟨h0, h1, h2⟩

set_option maxHeartbeats 2000000 in
theorem of_any (room : Int) (S0 S1 S2 : Nat → Prop) (v0 v1 v2 : Value) (L : Nat → List Ev) (w : World) (h0 : Rd evC w S0 v0 (L 0)) (h1 : Rd evC w S1 v1 (L 1)) (h2 : Rd evC w S2 v2 (L 2))
    (hS0 : ∀ k, S0 k → k < w.heap.size) (hS1 : ∀ k, S1 k → k < w.heap.size) (hS2 : ∀ k, S2 k → k < w.heap.size) (ht : (⟨room, L⟩ : PSt).tot ≤ 1000000) :
    Calls Try.prog 25 #[.int .i64 room, v0, v1, v2] w (OfPost 59 31 room L w) := by
  have l0 := (⟨room, L⟩ : PSt).le_tot (i := 0) (by omega)
  have l1 := (⟨room, L⟩ : PSt).le_tot (i := 1) (by omega)
  have l2 := (⟨room, L⟩ : PSt).le_tot (i := 2) (by omega)
  simp only at l0 l1 l2
  have H0 := hide h0
  have H1 := hide h1
  have H2 := hide h2
  have HS0 := hide hS0
  have HS1 := hide hS1
  have HS2 := hide hS2
  clear h0 h1 h2 hS0 hS1 hS2
  go_enter Try.func25, Try.ntmps25
  go_wp2_with fail
  refine (new_any room w).mono ?_
  rintro e w1 ⟨rfl, hp, f1, hz⟩
  have HP := hide (And.intro hp (And.intro f1 hz))
  clear hp f1 hz
  go_wp2_with fail
  refine (clone_any S0 v0 (L 0) w1 (H0.out.fr HP.out.2.1 (fun k hk => ⟨HS0.out k hk, fun h => h⟩)) (fun k hk => Nat.lt_of_lt_of_le (HS0.out k hk) HP.out.2.1.size) (by omega)).mono ?_
  rintro e w2 ⟨A0, c0, o0, rfl, m0, f2, n0⟩
  have F2 := hide (HP.out.2.1.trans f2)
  have M0 := hide (And.intro m0 (And.intro n0 f2))
  clear m0 n0 f2
  go_wp2_with fail
  refine (clone_any S1 v1 (L 1) w2 (H1.out.fr F2.out (fun k hk => ⟨HS1.out k hk, fun h => h⟩)) (fun k hk => Nat.lt_of_lt_of_le (HS1.out k hk) F2.out.size) (by omega)).mono ?_
  rintro e w3 ⟨A1, c1, o1, rfl, m1, f3, n1⟩
  have F3 := hide (F2.out.trans f3)
  have M1 := hide (And.intro m1 (And.intro n1 f3))
  clear m1 n1 f3
  go_wp2_with fail
  refine (clone_any S2 v2 (L 2) w3 (H2.out.fr F3.out (fun k hk => ⟨HS2.out k hk, fun h => h⟩)) (fun k hk => Nat.lt_of_lt_of_le (HS2.out k hk) F3.out.size) (by omega)).mono ?_
  rintro e w4 ⟨A2, c2, o2, rfl, m2, f4, n2⟩
  have F4 := hide (F3.out.trans f4)
  have M2 := hide (And.intro m2 (And.intro n2 f4))
  clear m2 n2 f4
  have hg24 : Fr (fun _ => False) w1 w4 := (M0.out.2.2.trans M1.out.2.2).trans M2.out.2.2
  obtain ⟨vs, os, hR, hRF, -, -⟩ := HP.out.1.same hg24
  have k1 := hR.cell (i := 0) (by omega)
  have k2 := hR.cell (i := 1) (by omega)
  have k3 := hR.cell (i := 2) (by omega)
  have z1 := hR.frozen 1
  have z2 := hR.frozen 2
  have z3 := hR.frozen 3
  simp only [Nat.reduceAdd] at k1 k2 k3
  have hbl := hR.lt
  have hd01 : Dj o0 o1 := fun k hk hk' => by have := M0.out.1.lt k hk; have := M1.out.2.1 k hk'; omega
  have hd02 : Dj o0 o2 := fun k hk hk' => by have := M0.out.1.lt k hk; have := M1.out.2.2.size; have := M2.out.2.1 k hk'; omega
  have hd12 : Dj o1 o2 := fun k hk hk' => by have := M1.out.1.lt k hk; have := M2.out.2.1 k hk'; omega
  have hw1 : w.heap.size < w1.heap.size := by have := HP.out.2.2; omega
  have hs12 := M0.out.2.2.size
  have hs23 := M1.out.2.2.size
  have g0 : ∀ k, o0 = some k → w1.heap.size ≤ k := M0.out.2.1
  have g1 : ∀ k, o1 = some k → w1.heap.size ≤ k := fun k hk => Nat.le_trans hs12 (M1.out.2.1 k hk)
  have g2 : ∀ k, o2 = some k → w1.heap.size ≤ k := fun k hk => Nat.le_trans (Nat.le_trans hs12 hs23) (M2.out.2.1 k hk)
  have HR := hide (poolR_mk3 hR.blk ((M0.out.1.fr M1.out.2.2 (fun _ _ h => h)).fr M2.out.2.2 (fun _ _ h => h)) (M1.out.1.fr M2.out.2.2 (fun _ _ h => h)) M2.out.1 (fun e => by have := g0 _ e; omega) (fun e => by have := g1 _ e; omega) (fun e => by have := g2 _ e; omega) hd01 hd02 hd12)
  have FW := hide ((show Fr (fun _ => False) w (((w4.setCell ⟨w.heap.size, 1, none⟩ (.slice A0 (L 0).length c0)).setCell ⟨w.heap.size, 2, none⟩ (.slice A1 (L 1).length c1)).setCell ⟨w.heap.size, 3, none⟩ (.slice A2 (L 2).length c2)) from
    Fr.setCell (Fr.setCell (Fr.setCell F4.out (.inr (Nat.le_refl _)) _) (.inr (Nat.le_refl _)) _) (.inr (Nat.le_refl _)) _))
  have HG := hide (And.intro g0 (And.intro g1 g2))
  clear hd01 hd02 hd12 hs12 hs23 hw1 hg24 g0 g1 g2
  have i0 : ∀ w, (Instr.index 57 (.agg #[.slice A0 (L 0).length c0, .slice A1 (L 1).length c1, .slice A2 (L 2).length c2]) (.int .i64 0)).run Try.prog w = .ok (.slice A0 (L 0).length c0) w := fun _ => by kernel_rfl
  have i1 : ∀ w, (Instr.index 57 (.agg #[.slice A0 (L 0).length c0, .slice A1 (L 1).length c1, .slice A2 (L 2).length c2]) (.int .i64 1)).run Try.prog w = .ok (.slice A1 (L 1).length c1) w := fun _ => by kernel_rfl
  have i2 : ∀ w, (Instr.index 57 (.agg #[.slice A0 (L 0).length c0, .slice A1 (L 1).length c1, .slice A2 (L 2).length c2]) (.int .i64 2)).run Try.prog w = .ok (.slice A2 (L 2).length c2) w := fun _ => by kernel_rfl
  clear hR
  go_wp2_with fail
  generalize ((w4.setCell ⟨w.heap.size, 1, none⟩ (.slice A0 (L 0).length c0)).setCell ⟨w.heap.size, 2, none⟩ (.slice A1 (L 1).length c1)).setCell ⟨w.heap.size, 3, none⟩ (.slice A2 (L 2).length c2) = W at *
  clear k1 k2 k3 z1 z2 z3
  have hbW := HR.out.lt
  refine wp_loop_rounds 4 ?_
  rw [rounds_succ]
  go_wp2_with fail
  go_loopw [37] (fun j wr => ∃ q : Nat, q ≤ (L 0).length ∧ j = .int .i64 q ∧ Hid (Below W.heap.size W wr) ∧ Hid (∀ x ∈ (L 0).take q, okEv 0 x = true)) (fun j _ => (L 0).length - (intOf j).toNat)
  case atStart => exact ⟨0, Nat.zero_le _, rfl, Below.refl _ _, by simp [Hid]⟩
  case round =>
  obtain ⟨q, hq, rfl, HB0, HO0⟩ := hrel
  by_cases hlt : q < (L 0).length
  · have hrd := (HR.out.own 0 (by omega)).rd
    obtain ⟨g, off, cap, hv, -, -, hog, hc⟩ := hrd.at_ hlt
    replace hv : Value.slice A0 (L 0).length c0 = .slice (some ⟨g, off, none⟩) (L 0).length cap := hv
    simp only [Value.slice.injEq, true_and] at hv
    obtain ⟨rfl, rfl⟩ := hv
    have hgW := (HR.out.own 0 (by omega)).lt g hog
    have q0 := (HB0.out.cell (p := ⟨g, off + (q * 4 + 0), none⟩) hgW).trans (hc 0 (by decide))
    have q1 := (HB0.out.cell (p := ⟨g, off + (q * 4 + 1), none⟩) hgW).trans (hc 1 (by decide))
    have q2 := (HB0.out.cell (p := ⟨g, off + (q * 4 + 2), none⟩) hgW).trans (hc 2 (by decide))
    have q3 := (HB0.out.cell (p := ⟨g, off + (q * 4 + 3), none⟩) hgW).trans (hc 3 (by decide))
    have hmem : (L 0)[q] ∈ L 0 := List.getElem_mem hlt
    have htk : ∀ x ∈ (L 0).take (q + 1), x = (L 0)[q] ∨ x ∈ (L 0).take q := by
      intro x hx
      rw [List.take_add_one, List.getElem?_eq_getElem hlt, Option.toList_some, List.mem_append, List.mem_singleton] at hx
      exact hx.symm
    have HM := hide (And.intro hmem htk)
    generalize (L 0)[q] = x at *
    obtain ⟨ek, en, ea, et⟩ := x
    simp only [evC, Nat.add_zero, List.getElem?_cons_zero, List.getElem?_cons_succ, ← Nat.add_assoc] at q0 q1 q2 q3
    have hgr : g < wr.heap.size := Nat.lt_of_lt_of_le hgW HB0.out.size
    clear hc hrd hmem htk hog
    go_wp2_with fail
    refine (may_any ek en ea et _).mono ?_
    rintro e wm ⟨rfl, hbm⟩
    obtain ⟨y0, y1, y2, y3⟩ := ev_cells ((hbm.block wr.heap.size (by simp)).trans (heap_alloc_new wr _))
    have HBM := hide ((HB0.out.alloc HB0.out.size (.cells #[.int .u8 ek, .string en, .int .i64 ea, .int .i64 et] 31)).trans (hbm.mono (Nat.le_trans HB0.out.size (by simp))))
    have HOK := hide (show okEv 0 ⟨ek, en, ea, et⟩ = (mayB ⟨ek, en, ea, et⟩ && (true == decide (ek = 1)) && (true || decide (ek = 2))) from rfl)
    clear hbm q0 q1 q2 q3 hgr
    generalize mayB ⟨ek, en, ea, et⟩ = m at *
    have n1 : (ek == 1) = decide (ek = 1) := rfl
    have n2 : (ek != 2) = !decide (ek = 2) := rfl
    generalize decide (ek = 1) = d1 at *
    generalize decide (ek = 2) = d2 at *
    cases m <;> cases d1 <;> cases d2
    all_goals
      simp only [Bool.not_true, Bool.not_false] at n2
      go_wp2_with fail
    all_goals first
      | (go_ret2
         exact ⟨(FW.out.trans (Fr.of_below HBM.out fun k h1 h2 => by omega)), .inr ⟨by rw [ofErr_bad (i := 0) (by omega) HM.out.1 HOK.out]; decide, by rw [ofErr_bad (i := 0) (by omega) HM.out.1 HOK.out]; rfl⟩⟩)
      | (go_roundw
         case rel => exact ⟨q + 1, by omega, by go_num, HBM.out, fun x hx => by
          rcases HM.out.2 x hx with rfl | h
          · exact HOK.out
          · exact HO0.out x h⟩
         case measure => simp [intOf]; omega)
  obtain rfl : q = (L 0).length := by omega
  rw [List.take_of_length_le (Nat.le_refl _)] at HO0
  go_wp2_with fail
  rw [rounds_succ]
  go_wp2_with fail
  go_loopw [37] (fun j wr => ∃ q : Nat, q ≤ (L 1).length ∧ j = .int .i64 q ∧ Hid (Below W.heap.size W wr) ∧ Hid (∀ x ∈ (L 1).take q, okEv 1 x = true)) (fun j _ => (L 1).length - (intOf j).toNat)
  case atStart => exact ⟨0, Nat.zero_le _, rfl, HB0.out, by simp [Hid]⟩
  case round =>
  obtain ⟨q, hq, rfl, HB1, HO1⟩ := hrel
  by_cases hlt : q < (L 1).length
  · have hrd := (HR.out.own 1 (by omega)).rd
    obtain ⟨g, off, cap, hv, -, -, hog, hc⟩ := hrd.at_ hlt
    replace hv : Value.slice A1 (L 1).length c1 = .slice (some ⟨g, off, none⟩) (L 1).length cap := hv
    simp only [Value.slice.injEq, true_and] at hv
    obtain ⟨rfl, rfl⟩ := hv
    have hgW := (HR.out.own 1 (by omega)).lt g hog
    have q0 := (HB1.out.cell (p := ⟨g, off + (q * 4 + 0), none⟩) hgW).trans (hc 0 (by decide))
    have q1 := (HB1.out.cell (p := ⟨g, off + (q * 4 + 1), none⟩) hgW).trans (hc 1 (by decide))
    have q2 := (HB1.out.cell (p := ⟨g, off + (q * 4 + 2), none⟩) hgW).trans (hc 2 (by decide))
    have q3 := (HB1.out.cell (p := ⟨g, off + (q * 4 + 3), none⟩) hgW).trans (hc 3 (by decide))
    have hmem : (L 1)[q] ∈ L 1 := List.getElem_mem hlt
    have htk : ∀ x ∈ (L 1).take (q + 1), x = (L 1)[q] ∨ x ∈ (L 1).take q := by
      intro x hx
      rw [List.take_add_one, List.getElem?_eq_getElem hlt, Option.toList_some, List.mem_append, List.mem_singleton] at hx
      exact hx.symm
    have HM := hide (And.intro hmem htk)
    generalize (L 1)[q] = x at *
    obtain ⟨ek, en, ea, et⟩ := x
    simp only [evC, Nat.add_zero, List.getElem?_cons_zero, List.getElem?_cons_succ, ← Nat.add_assoc] at q0 q1 q2 q3
    have hgr : g < wr.heap.size := Nat.lt_of_lt_of_le hgW HB1.out.size
    clear hc hrd hmem htk hog
    go_wp2_with fail
    refine (may_any ek en ea et _).mono ?_
    rintro e wm ⟨rfl, hbm⟩
    obtain ⟨y0, y1, y2, y3⟩ := ev_cells ((hbm.block wr.heap.size (by simp)).trans (heap_alloc_new wr _))
    have HBM := hide ((HB1.out.alloc HB1.out.size (.cells #[.int .u8 ek, .string en, .int .i64 ea, .int .i64 et] 31)).trans (hbm.mono (Nat.le_trans HB1.out.size (by simp))))
    have HOK := hide (show okEv 1 ⟨ek, en, ea, et⟩ = (mayB ⟨ek, en, ea, et⟩ && (false == decide (ek = 1)) && (true || decide (ek = 2))) from rfl)
    clear hbm q0 q1 q2 q3 hgr
    generalize mayB ⟨ek, en, ea, et⟩ = m at *
    have n1 : (ek == 1) = decide (ek = 1) := rfl
    have n2 : (ek != 2) = !decide (ek = 2) := rfl
    generalize decide (ek = 1) = d1 at *
    generalize decide (ek = 2) = d2 at *
    cases m <;> cases d1 <;> cases d2
    all_goals
      simp only [Bool.not_true, Bool.not_false] at n2
      go_wp2_with fail
    all_goals first
      | (go_ret2
         exact ⟨(FW.out.trans (Fr.of_below HBM.out fun k h1 h2 => by omega)), .inr ⟨by rw [ofErr_bad (i := 1) (by omega) HM.out.1 HOK.out]; decide, by rw [ofErr_bad (i := 1) (by omega) HM.out.1 HOK.out]; rfl⟩⟩)
      | (go_roundw
         case rel => exact ⟨q + 1, by omega, by go_num, HBM.out, fun x hx => by
          rcases HM.out.2 x hx with rfl | h
          · exact HOK.out
          · exact HO1.out x h⟩
         case measure => simp [intOf]; omega)
  obtain rfl : q = (L 1).length := by omega
  rw [List.take_of_length_le (Nat.le_refl _)] at HO1
  go_wp2_with fail
  rw [rounds_succ]
  go_wp2_with fail
  go_loopw [37] (fun j wr => ∃ q : Nat, q ≤ (L 2).length ∧ j = .int .i64 q ∧ Hid (Below W.heap.size W wr) ∧ Hid (∀ x ∈ (L 2).take q, okEv 2 x = true)) (fun j _ => (L 2).length - (intOf j).toNat)
  case atStart => exact ⟨0, Nat.zero_le _, rfl, HB1.out, by simp [Hid]⟩
  case round =>
  obtain ⟨q, hq, rfl, HB2, HO2⟩ := hrel
  by_cases hlt : q < (L 2).length
  · have hrd := (HR.out.own 2 (by omega)).rd
    obtain ⟨g, off, cap, hv, -, -, hog, hc⟩ := hrd.at_ hlt
    replace hv : Value.slice A2 (L 2).length c2 = .slice (some ⟨g, off, none⟩) (L 2).length cap := hv
    simp only [Value.slice.injEq, true_and] at hv
    obtain ⟨rfl, rfl⟩ := hv
    have hgW := (HR.out.own 2 (by omega)).lt g hog
    have q0 := (HB2.out.cell (p := ⟨g, off + (q * 4 + 0), none⟩) hgW).trans (hc 0 (by decide))
    have q1 := (HB2.out.cell (p := ⟨g, off + (q * 4 + 1), none⟩) hgW).trans (hc 1 (by decide))
    have q2 := (HB2.out.cell (p := ⟨g, off + (q * 4 + 2), none⟩) hgW).trans (hc 2 (by decide))
    have q3 := (HB2.out.cell (p := ⟨g, off + (q * 4 + 3), none⟩) hgW).trans (hc 3 (by decide))
    have hmem : (L 2)[q] ∈ L 2 := List.getElem_mem hlt
    have htk : ∀ x ∈ (L 2).take (q + 1), x = (L 2)[q] ∨ x ∈ (L 2).take q := by
      intro x hx
      rw [List.take_add_one, List.getElem?_eq_getElem hlt, Option.toList_some, List.mem_append, List.mem_singleton] at hx
      exact hx.symm
    have HM := hide (And.intro hmem htk)
    generalize (L 2)[q] = x at *
    obtain ⟨ek, en, ea, et⟩ := x
    simp only [evC, Nat.add_zero, List.getElem?_cons_zero, List.getElem?_cons_succ, ← Nat.add_assoc] at q0 q1 q2 q3
    have hgr : g < wr.heap.size := Nat.lt_of_lt_of_le hgW HB2.out.size
    clear hc hrd hmem htk hog
    go_wp2_with fail
    refine (may_any ek en ea et _).mono ?_
    rintro e wm ⟨rfl, hbm⟩
    obtain ⟨y0, y1, y2, y3⟩ := ev_cells ((hbm.block wr.heap.size (by simp)).trans (heap_alloc_new wr _))
    have HBM := hide ((HB2.out.alloc HB2.out.size (.cells #[.int .u8 ek, .string en, .int .i64 ea, .int .i64 et] 31)).trans (hbm.mono (Nat.le_trans HB2.out.size (by simp))))
    have HOK := hide (show okEv 2 ⟨ek, en, ea, et⟩ = (mayB ⟨ek, en, ea, et⟩ && (false == decide (ek = 1)) && (false || decide (ek = 2))) from rfl)
    clear hbm q0 q1 q2 q3 hgr
    generalize mayB ⟨ek, en, ea, et⟩ = m at *
    have n1 : (ek == 1) = decide (ek = 1) := rfl
    have n2 : (ek != 2) = !decide (ek = 2) := rfl
    generalize decide (ek = 1) = d1 at *
    generalize decide (ek = 2) = d2 at *
    cases m <;> cases d1 <;> cases d2
    all_goals
      simp only [Bool.not_true, Bool.not_false] at n2
      go_wp2_with fail
    all_goals first
      | (go_ret2
         exact ⟨(FW.out.trans (Fr.of_below HBM.out fun k h1 h2 => by omega)), .inr ⟨by rw [ofErr_bad (i := 2) (by omega) HM.out.1 HOK.out]; decide, by rw [ofErr_bad (i := 2) (by omega) HM.out.1 HOK.out]; rfl⟩⟩)
      | (go_roundw
         case rel => exact ⟨q + 1, by omega, by go_num, HBM.out, fun x hx => by
          rcases HM.out.2 x hx with rfl | h
          · exact HOK.out
          · exact HO2.out x h⟩
         case measure => simp [intOf]; omega)
  obtain rfl : q = (L 2).length := by omega
  rw [List.take_of_length_le (Nat.le_refl _)] at HO2
  go_wp2_with fail
  rw [rounds_succ]
  go_wp2_with fail
  have hPA : PoolAt 59 31 wr w.heap.size ⟨newRoom room, L⟩ (fun k => w.heap.size ≤ k ∧ k < wr.heap.size) := by
    have hf : Fr (fun _ => False) W wr := Fr.of_below' HB2.out
    refine ⟨_, _, HR.out.same hf, ⟨Nat.le_refl _, Nat.lt_of_lt_of_le hbW hf.size⟩, fun i hi k hk => ⟨?_, Nat.lt_of_lt_of_le ((HR.out.own i hi).lt k hk) hf.size⟩, fun k hk => hk.2⟩
    have h1 := HP.out.2.1.size
    rcases i with _ | _ | _ | i
    · have := HG.out.1 k hk; omega
    · have := HG.out.2.1 k hk; omega
    · have := HG.out.2.2 k hk; omega
    · omega
  have HPA := hide hPA
  have HE := hide (ofErr_good (room := room) HO0.out HO1.out HO2.out)
  have HFW := hide (FW.out.trans (Fr.of_below' HB2.out))
  have p0 : wr.cell? ⟨w.heap.size, 0, none⟩ = some (.int .i64 (newRoom room)) := by obtain ⟨vs, os, h1, -⟩ := hPA; exact h1.cell0
  have htt : (⟨newRoom room, L⟩ : PSt).tot = (⟨room, L⟩ : PSt).tot := rfl
  have ht' : (⟨newRoom room, L⟩ : PSt).tot ≤ 1000000 := ht
  have HTT := hide htt
  have hbr : w.heap.size < wr.heap.size := World.block_lt_of_cell? wr _ p0
  clear hPA htt
  go_quiet ((go_at_call 21; exact quiet_left (len_any _ ⟨newRoom room, L⟩ _ _ (HPA.out.same (Fr.drewN (Fr.refl _ _) _)) ht')))
  rw [HTT.out] at *
  by_cases hfull : newRoom room < ((⟨room, L⟩ : PSt).tot : Int)
  · go_wp2_with fail
    go_ret2
    have e := HE.out
    rw [if_pos hfull] at e
    exact ⟨HFW.out.drewN _, .inr ⟨by rw [e]; decide, by rw [e]; rfl⟩⟩
  · go_wp2_with fail
    go_ret2
    have e := HE.out
    rw [if_neg (by omega)] at e
    exact ⟨HFW.out.drewN _, .inl ⟨e, _, _, rfl, HPA.out.same (Fr.drewN (Fr.refl _ _) _), fun k hk => hk.1⟩⟩
end Go.Proofs.Ythfihlojpmhagaa
