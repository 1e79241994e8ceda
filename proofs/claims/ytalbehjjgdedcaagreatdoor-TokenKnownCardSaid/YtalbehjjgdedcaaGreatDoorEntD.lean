/- entity: number, Reference, Decode. -/
import Derived.Test.YtalbehjjgdedcaaGreatDoorEntC
namespace Go.Proofs.YtalbehjjgdedcaaGreatDoor
open Go.RowKit Go.Lib
attribute [local go_sem ↓] Go.wp_at_zero Go.wp_at_succ

theorem St.syn {w : World} (h : St w) : ∃ t p, w.cell? ⟨4, 0, none⟩ = some (.iface t p) := h.es

set_option maxRecDepth 100000 in
set_option maxHeartbeats 4000000 in
theorem iparse_any (base : Int) (hb : base = 10 ∨ base = 16) (t : ByteArray) (w : World) (h1 : 1 ≤ t.size) (h7 : t.size ≤ 7) (hs : ∀ x, t.data.toList[0]? = some x → signB x = false) :
    Calls Tryz.prog 176 #[.string t, .int .i64 base, .int .i64 64] w fun e w' =>
      e = .returned (if t.data.toList.all (digB base) = true then .tuple #[.int .i64 (valL base t.data.toList 0), .nilIface] else .tuple #[.int .i64 0, .iface 235 (.int .i64 2)]) ∧ Fr (fun _ => False) w w' := by
  have HU := hide (parseUint_any base hb t w h1 h7)
  have hE := ne_empty h1
  have hE2 := ne_nil h1
  have h0 : 0 < t.size := by omega
  have hs0 := hs (t[0]'h0) (data_getElem? t 0 h0)
  have n43 : ¬ ((t[0]'h0).toNat : Int) = 43 := fun e => by
    have : t[0]'h0 = 43 := UInt8.toNat_inj.1 (by show _ = 43; omega)
    rw [this] at hs0; revert hs0; decide
  have n45 : ¬ ((t[0]'h0).toNat : Int) = 45 := fun e => by
    have : t[0]'h0 = 45 := UInt8.toNat_inj.1 (by show _ = 45; omega)
    rw [this] at hs0; revert hs0; decide
  clear hs hs0
  cases ha : t.data.toList.all (digB base) with
  | true =>
    rw [ha] at HU
    simp only [if_true, true_implies] at HU ⊢
    generalize valL base t.data.toList 0 = v at *
    clear ha hb
    go_enter Tryz.func176, Tryz.ntmps176
    go_wp2_with (go_at_call 180; refine HU.out.mono ?_; rintro e w1 ⟨rfl, f1, v0, v1⟩)
    go_ret2
    exact ⟨rfl, f1⟩
  | false =>
    rw [ha] at HU
    simp only [Bool.false_eq_true, if_false] at HU ⊢
    clear ha hb
    have hne : ∀ W : World, (binOp .neq 163 (.iface 235 (.int .i64 2)) (.iface 235 (.int .i64 1))).run Tryz.prog W = .ok (.bool true) W := fun _ => by kernel_rfl
    go_enter Tryz.func176, Tryz.ntmps176
    go_wp2_with (go_at_call 180; refine HU.out.mono ?_; rintro e w1 ⟨rfl, f1, -⟩)
    go_ret2
    exact ⟨rfl, f1⟩

set_option maxRecDepth 100000 in
set_option maxHeartbeats 4000000 in
theorem parse_any (base : Int) (hb : base = 10 ∨ base = 16) (t : ByteArray) (w : World) (hst : St w) (h1 : 1 ≤ t.size) (h7 : t.size ≤ 7) (hs : ∀ x, t.data.toList[0]? = some x → signB x = false) :
    Calls Tryz.prog 166 #[.string t, .int .i64 base, .int .i64 64] w fun e w' =>
      (t.data.toList.all (digB base) = true → e = .returned (.tuple #[.int .i64 (valL base t.data.toList 0), .nilIface])) ∧ (t.data.toList.all (digB base) = false → ∃ T p, e = .returned (.tuple #[.int .i64 0, .iface T p])) ∧ Fr (fun _ => False) w w' := by
  have HU := hide (iparse_any base hb t w h1 h7 hs)
  have HST := hide hst
  clear hst hs hb
  cases ha : t.data.toList.all (digB base) with
  | true =>
    rw [ha] at HU
    simp only [if_true] at HU ⊢
    generalize valL base t.data.toList 0 = v at *
    clear ha
    go_enter Tryz.func166, Tryz.ntmps166
    go_wp2_with (go_at_call 176; refine HU.out.mono ?_; rintro e w1 ⟨rfl, f1⟩)
    go_ret2
    exact ⟨fun _ => rfl, (fun h => absurd h (by simp)), f1⟩
  | false =>
    rw [ha] at HU
    simp only [Bool.false_eq_true, if_false] at HU ⊢
    clear ha
    have hlim : t.size ≤ 281474976710656 := by omega
    go_enter Tryz.func166, Tryz.ntmps166
    go_wp2_with (first
      | (go_at_call 176; refine HU.out.mono ?_; rintro e w1 ⟨rfl, f1⟩)
      | (go_at_call 177; obtain ⟨T0, p0, hes⟩ := (HST.out.same f1).es; refine (Tryz.strconv_toError_syntax _ t _ _ _ _ hlim hes (.inr ⟨_, _, rfl⟩)).mono ?_; rintro e w2 ⟨N, rfl, -, -, f2⟩))
    go_ret2
    exact ⟨(fun h => absurd h (by simp)), fun _ => ⟨_, _, rfl⟩, f1.of_below_new f1.size f2⟩

def numPB (base : Int) (most : Nat) (s : ByteArray) : List UInt8 := numP base most s.data.toList
theorem sign_nodig (base : Int) (b : UInt8) (h : signB b = true) : digB base b = false := by
  have : digV b = -1 := by
    unfold signB at h
    simp only [Bool.or_eq_true, beq_iff_eq] at h
    rcases h with (rfl | rfl) | rfl <;> decide
  simp [digB, this]
theorem val_bound {base : Int} (hb : base = 10 ∨ base = 16) : ∀ (l : List UInt8) (n : Int), l.all (digB base) = true → 0 ≤ n → 0 ≤ valL base l n ∧ valL base l n < (n + 1) * 16 ^ l.length
  | [], n, _, hn => by simp only [valL, List.length_nil, Int.pow_zero]; omega
  | b :: l, n, h, hn => by
    rw [List.all_cons, Bool.and_eq_true] at h
    have hd := h.1
    simp only [digB, decide_eq_true_eq] at hd
    have h2 : 0 ≤ n * base + digV b := by rcases hb with rfl | rfl <;> omega
    have ih := val_bound hb l (n * base + digV b) h.2 h2
    refine ⟨ih.1, Int.lt_of_lt_of_le ih.2 ?_⟩
    rw [List.length_cons, Int.pow_succ, Int.mul_comm (16 ^ l.length) 16, ← Int.mul_assoc]
    refine Int.mul_le_mul_of_nonneg_right ?_ (Int.pow_nonneg (by decide))
    rcases hb with rfl | rfl <;> omega

set_option maxRecDepth 100000 in
set_option maxHeartbeats 4000000 in
theorem number_any (base : Int) (most : Nat) (hb : base = 10 ∨ base = 16) (hm : most ≤ 7) (t : ByteArray) (w : World) (hst : St w) (hts : t.size ≤ 1000000) :
    Calls Tryz.prog 142 #[.string t, .int .i64 base, .int .i64 most] w fun e w' => e = .returned (.string ⟨(numP base most t.data.toList).toArray⟩) ∧ Fr (fun _ => False) w w' := by
  have hl : t.data.toList.length = t.size := rfl
  by_cases h1 : 1 ≤ t.size ∧ t.size ≤ most
  · obtain ⟨h1, h2⟩ := h1
    have hE := ne_empty h1
    have hE2 := ne_nil h1
    have hmi : ¬ ((most : Int) < (t.size : Int)) := by omega
    have HC := hide (containsSigns t w h1 (by omega))
    by_cases hall : t.data.toList.all (digB base) = true
    · have hnum : numP base most t.data.toList = putL (valL base t.data.toList 0) := by unfold numP; rw [if_pos ⟨by omega, by omega, hall⟩]
      have hno : t.data.toList.any signB = false := by
        rw [List.any_eq_false]
        intro x hx hs
        have := List.all_eq_true.1 hall x hx
        rw [sign_nodig base x hs] at this
        cases this
      have hvb := val_bound hb t.data.toList 0 hall (by omega)
      have hv2 : valL base t.data.toList 0 < 1000000000 := by
        have h3 : ∀ k, k ≤ 7 → (16 : Int) ^ k ≤ 268435456 := by
          intro k hk
          match k, hk with
          | 0, _ => decide
          | 1, _ => decide
          | 2, _ => decide
          | 3, _ => decide
          | 4, _ => decide
          | 5, _ => decide
          | 6, _ => decide
          | 7, _ => decide
        have := h3 t.data.toList.length (by omega)
        omega
      have HP := hide (fun W hW hs => parse_any base hb t W hW h1 (by omega) hs)
      have HN := hide hno
      have HA := hide hall
      have HST := hide hst
      have v0 := hvb.1
      rw [hnum]
      generalize valL base t.data.toList 0 = v at *
      clear hall hno hvb hnum hst hb
      go_enter Tryz.func142, Tryz.ntmps142
      go_wp2_with (first
        | (go_at_call 165; refine HC.out.mono ?_; rintro e w1 ⟨b, rfl, k1, k2, f1⟩; obtain rfl : b = false := Bool.eq_false_iff.2 (fun hb => Bool.noConfusion ((k1 hb).symm.trans HN.out)); have K2 := hide (k2 rfl); clear k1 k2)
        | (go_at_call 166; refine (HP.out _ (HST.out.same f1) K2.out).mono ?_; rintro e w2 ⟨k3, -, f2⟩; obtain rfl := k3 HA.out)
        | (go_at_call 105; refine (put_any _ _ ((HST.out.same f1).same f2).ub).mono ?_; rintro e w3 ⟨rfl, f3⟩))
      go_ret
      exact ⟨rfl, (f1.trans f2).trans f3⟩
    · have hall : t.data.toList.all (digB base) = false := by simpa using hall
      have hnum : numP base most t.data.toList = [] := by unfold numP; rw [if_neg (fun h => by rw [hall] at h; cases h.2.2)]
      have HP := hide (fun W hW hs => parse_any base hb t W hW h1 (by omega) hs)
      have HA := hide hall
      have HST := hide hst
      rw [hnum]
      clear hall hnum hst hb
      go_enter Tryz.func142, Tryz.ntmps142
      go_wp2_with (go_at_call 165; refine HC.out.mono ?_; rintro e w1 ⟨b, rfl, -, k2, f1⟩; have K2 := hide k2; clear k2)
      · go_ret
        exact ⟨rfl, f1⟩
      · have hbf : b = false := by first | assumption | (simpa using ‹¬ b = true›)
        have hs := K2.out hbf
        go_wp2_with (go_at_call 166; refine (HP.out _ (HST.out.same f1) hs).mono ?_; rintro e w2 ⟨-, k4, f2⟩; obtain ⟨T, p, rfl⟩ := k4 HA.out; clear k4)
        go_ret
        exact ⟨rfl, f1.trans f2⟩
  · have hnum : numP base most t.data.toList = [] := by unfold numP; rw [if_neg (fun h => h1 ⟨by omega, by omega⟩)]
    rw [hnum]
    by_cases h0 : t.size = 0
    · have h00 : t.data.toList = [] := List.eq_nil_of_length_eq_zero (by omega)
      have hE : t.toList.isEmpty = true := by rw [toList_data, h00]; rfl
      have hE2 : t.toList = [] := by rw [toList_data, h00]
      clear h00 h1 hnum
      go_enter Tryz.func142, Tryz.ntmps142
      go_wp2_with fail
      go_ret
      exact ⟨rfl, Fr.refl _ _⟩
    · have hE := ne_empty (P := t) (by omega)
      have hE2 := ne_nil (P := t) (by omega)
      have hmi : (most : Int) < (t.size : Int) := by omega
      clear h1 hnum h0
      go_enter Tryz.func142, Tryz.ntmps142
      go_wp2_with fail
      go_ret
      exact ⟨rfl, Fr.refl _ _⟩
end Go.Proofs.YtalbehjjgdedcaaGreatDoor
