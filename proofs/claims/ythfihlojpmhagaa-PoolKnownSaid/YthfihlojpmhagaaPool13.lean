/- The pool's laws: small functions. -/
import Derived.Test.YthfihlojpmhagaaPool12
namespace Go.Proofs.Ythfihlojpmhagaa
open Go.RowKit
attribute [local go_sem ↓] Go.wp_at_zero Go.wp_at_succ

set_option maxHeartbeats 400000 in
theorem room_any (b : Nat) (s : PSt) (F : Nat → Prop) (w : World) (h : PoolAt 59 31 w b s F) :
    Calls Try.prog 22 #[.pointer (some ⟨b, 0, none⟩)] w fun e w' => e = .returned (.int .i64 s.room) ∧ w = w' := by
  obtain ⟨vs, os, h, -⟩ := h
  have k0 := h.cell0
  clear h
  go_enter Try.func22, Try.ntmps22
  go_wp2
  go_ret
  exact ⟨rfl, rfl⟩

set_option maxHeartbeats 1000000 in
theorem row_any (S : Nat → Prop) (v : Value) (l : List Ev) (w : World) (h : Rd evC w S v l) (hS : ∀ k, S k → k < w.heap.size) (hl : l.length ≤ 1000000) :
    Calls Try.prog 24 #[v] w (rMakes w l) := by
  have H := hide h
  have HS := hide hS
  obtain ⟨A, cap, rfl, hlc, hcm, -⟩ := h
  clear hS hcm
  go_enter Try.func24, Try.ntmps24
  go_wp2_with fail
  go_loopw [3, 4] (fun v i wr => ∃ (k : Nat) (A : Option Addr) (cap : Nat) (o : Option Nat), k ≤ l.length ∧ i = .int .i64 k ∧ v = .slice A k cap ∧ Hid (Own evC wr 63 (.slice A k cap) o (l.take k) ∧ (∀ x, o = some x → w.heap.size ≤ x)) ∧ Hid (Fr (fun _ => False) w wr)) (fun _ i _ => l.length - (intOf i).toNat)
  case atStart => exact ⟨0, none, 0, none, Nat.zero_le _, rfl, rfl, ⟨Own.nil_ _ _ _ none, fun _ h => by cases h⟩, Fr.refl _ _⟩
  case round =>
    obtain ⟨k, B, cb, o, hk, rfl, rfl, hm, hfr⟩ := hrel
    by_cases hlt : k < l.length
    · obtain ⟨g, off, cap', hv, -, -, hg, hc⟩ := H.out.at_ hlt
      simp only [Value.slice.injEq, true_and] at hv
      obtain ⟨rfl, rfl⟩ := hv
      have hgw := HS.out g hg
      have q0 := (hfr.out.cell (p := ⟨g, off + (k * 4 + 0), none⟩) hgw (fun h => h)).trans (hc 0 (by decide))
      have q1 := (hfr.out.cell (p := ⟨g, off + (k * 4 + 1), none⟩) hgw (fun h => h)).trans (hc 1 (by decide))
      have q2 := (hfr.out.cell (p := ⟨g, off + (k * 4 + 2), none⟩) hgw (fun h => h)).trans (hc 2 (by decide))
      have q3 := (hfr.out.cell (p := ⟨g, off + (k * 4 + 3), none⟩) hgw (fun h => h)).trans (hc 3 (by decide))
      have HW := hide (show l.take (k + 1) = l.take k ++ [l[k]] from List.take_succ_eq_append_getElem hlt)
      generalize l[k] = x at *
      obtain ⟨ek, en, ea, et⟩ := x
      simp only [evC, Nat.add_zero, List.getElem?_cons_zero, List.getElem?_cons_succ, ← Nat.add_assoc] at q0 q1 q2 q3
      have hgr : g < wr.heap.size := Nat.lt_of_lt_of_le hgw hfr.out.size
      have hkl : (l.take k).length = k := by simp; omega
      have HKL := hide hkl
      clear hc hkl
      go_wp2_with fail
      refine (conv_any ek en ea et wr).mono ?_
      rintro e w1 ⟨rfl, hb1⟩
      have F1 := hide (Fr.of_below' hb1)
      have hown := hm.out.1.fr F1.out (fun _ _ h => h)
      have hown' : Own evC w1 63 (.slice B (l.take k).length cb) o (l.take k) := by rw [HKL.out]; exact hown
      have HO := hide (hown'.fr (Fr.alloc (Fr.refl (fun _ => False) _) (.cells #[.int .u8 ek, .string en, .int .i64 ea, .int .i64 et] 63)) (fun _ _ h => h))
      rw [HKL.out] at HO
      have hkk : (l.take k).length + 1 = k + 1 := by rw [HKL.out]
      have HKK := hide hkk
      clear hb1 hown hown' q0 q1 q2 q3 hkk
      go_wp2_with (at_builtin; refine wpList_append_Own rfl rfl el_rev (by rfl) (by rfl) HO.out (rd_one w1 _ ek en ea et) (by have := HKL.out; simp; omega) ?_; intro B1 d1 w2 o1 m1 g1 n1')
      rw [show (l.take k).length + [(⟨ek, en, ea, et⟩ : Ev)].length = k + 1 from HKK.out] at *
      go_roundw
      case rel =>
        refine ⟨k + 1, B1, d1, o1, by omega, by go_num, rfl, ⟨by rw [HW.out]; exact m1, fun x hx => ?_⟩, ?_⟩
        · rcases n1' x hx with h1 | h1
          · exact hm.out.2 x h1
          · have := h1.1; have h2 := hfr.out.size; have h3 := F1.out.size; simp at this; omega
        · exact ((hfr.out.trans F1.out).alloc _).then_ g1 (fun x hx e => by have := hm.out.2 x e; omega)
      case measure => simp [intOf]; omega
    · obtain rfl : k = l.length := by omega
      rw [List.take_of_length_le (Nat.le_refl _)] at *
      go_wp2_with fail
      go_ret
      exact ⟨B, cb, o, rfl, hm.out.1, hfr.out, hm.out.2⟩

set_option maxHeartbeats 1000000 in
theorem same_true (S S' : Nat → Prop) (v v' : Value) (l : List Ev) (w : World) (h : Rd evC w S v l) (h' : Rd evC w S' v' l) (hS : ∀ k, S k → k < w.heap.size) (hS' : ∀ k, S' k → k < w.heap.size) (hl : l.length ≤ 1000000) :
    Calls Try.prog 27 #[v, v'] w fun e w' => e = .returned (.bool true) ∧ Fr (fun _ => False) w w' := by
  have H := hide h
  have H' := hide h'
  have HS := hide hS
  have HS' := hide hS'
  obtain ⟨A, cap, rfl, hlc, hcm, -⟩ := h
  obtain ⟨A', cap', rfl, hlc', hcm', -⟩ := h'
  clear hS hcm hS' hcm'
  go_enter Try.func27, Try.ntmps27
  go_wp2_with fail
  go_loopw [5] (fun i wr => ∃ k : Nat, k ≤ l.length ∧ i = .int .i64 k ∧ Hid (Fr (fun _ => False) w wr)) (fun i _ => l.length - (intOf i).toNat)
  case atStart => exact ⟨0, Nat.zero_le _, rfl, Fr.refl _ _⟩
  case round =>
    obtain ⟨k, hk, rfl, hfr⟩ := hrel
    by_cases hlt : k < l.length
    · obtain ⟨g, off, cp, hv, -, -, hg, hc⟩ := H.out.at_ hlt
      obtain ⟨g', off', cp', hv', -, -, hg', hc'⟩ := H'.out.at_ hlt
      simp only [Value.slice.injEq, true_and] at hv hv'
      obtain ⟨rfl, rfl⟩ := hv
      obtain ⟨rfl, rfl⟩ := hv'
      have hgw := HS.out g hg
      have hgw' := HS'.out g' hg'
      have q0 := (hfr.out.cell (p := ⟨g, off + (k * 4 + 0), none⟩) hgw (fun h => h)).trans (hc 0 (by decide))
      have q1 := (hfr.out.cell (p := ⟨g, off + (k * 4 + 1), none⟩) hgw (fun h => h)).trans (hc 1 (by decide))
      have q2 := (hfr.out.cell (p := ⟨g, off + (k * 4 + 2), none⟩) hgw (fun h => h)).trans (hc 2 (by decide))
      have q3 := (hfr.out.cell (p := ⟨g, off + (k * 4 + 3), none⟩) hgw (fun h => h)).trans (hc 3 (by decide))
      have r0 := (hfr.out.cell (p := ⟨g', off' + (k * 4 + 0), none⟩) hgw' (fun h => h)).trans (hc' 0 (by decide))
      have r1 := (hfr.out.cell (p := ⟨g', off' + (k * 4 + 1), none⟩) hgw' (fun h => h)).trans (hc' 1 (by decide))
      have r2 := (hfr.out.cell (p := ⟨g', off' + (k * 4 + 2), none⟩) hgw' (fun h => h)).trans (hc' 2 (by decide))
      have r3 := (hfr.out.cell (p := ⟨g', off' + (k * 4 + 3), none⟩) hgw' (fun h => h)).trans (hc' 3 (by decide))
      generalize l[k] = x at *
      obtain ⟨ek, en, ea, et⟩ := x
      simp only [evC, Nat.add_zero, List.getElem?_cons_zero, List.getElem?_cons_succ, ← Nat.add_assoc] at q0 q1 q2 q3 r0 r1 r2 r3
      have hgr : g < wr.heap.size := Nat.lt_of_lt_of_le hgw hfr.out.size
      have hgr' : g' < wr.heap.size := Nat.lt_of_lt_of_le hgw' hfr.out.size
      have hki : (k : Int) < (l.length : Int) := by omega
      have HQ := hide (And.intro q0 (And.intro q1 (And.intro q2 q3)))
      have HQ' := hide (And.intro r0 (And.intro r1 (And.intro r2 r3)))
      clear hc hc'
      go_wp2_with fail
      go_region_held3 (fun w' => w'.cell? ⟨g, off + k * 4, none⟩ = some (.int .u8 ek) ∧ w'.cell? ⟨g, off + k * 4 + 1, none⟩ = some (.string en) ∧ w'.cell? ⟨g, off + k * 4 + 2, none⟩ = some (.int .i64 ea) ∧ w'.cell? ⟨g, off + k * 4 + 3, none⟩ = some (.int .i64 et) ∧
          w'.cell? ⟨g', off' + k * 4, none⟩ = some (.int .u8 ek) ∧ w'.cell? ⟨g', off' + k * 4 + 1, none⟩ = some (.string en) ∧ w'.cell? ⟨g', off' + k * 4 + 2, none⟩ = some (.int .i64 ea) ∧ w'.cell? ⟨g', off' + k * 4 + 3, none⟩ = some (.int .i64 et))
        (first | exact ⟨(f1.cell hgr (fun h => h)).trans HQ.out.1, (f1.cell hgr (fun h => h)).trans HQ.out.2.1, (f1.cell hgr (fun h => h)).trans HQ.out.2.2.1, (f1.cell hgr (fun h => h)).trans HQ.out.2.2.2, (f1.cell hgr' (fun h => h)).trans HQ'.out.1, (f1.cell hgr' (fun h => h)).trans HQ'.out.2.1, (f1.cell hgr' (fun h => h)).trans HQ'.out.2.2.1, (f1.cell hgr' (fun h => h)).trans HQ'.out.2.2.2⟩
               | exact ⟨HQ.out.1, HQ.out.2.1, HQ.out.2.2.1, HQ.out.2.2.2, HQ'.out.1, HQ'.out.2.1, HQ'.out.2.2.1, HQ'.out.2.2.2⟩)
        (first | (go_at_call 29; refine (conv_any ek en ea et _).mono ?_; rintro e w1 ⟨rfl, hb1⟩; have f1 : Fr (fun _ => False) wr w1 := (Fr.drew (Fr.refl _ _)).trans (Fr.of_below' hb1)))
      go_wp2_with fail
      go_roundw
      case rel => exact ⟨k + 1, by omega, by go_num, hfr.out.trans f1⟩
      case measure => simp [intOf]; omega
    · obtain rfl : k = l.length := by omega
      go_wp2_with fail
      go_ret
      exact ⟨rfl, hfr.out⟩
end Go.Proofs.Ythfihlojpmhagaa
