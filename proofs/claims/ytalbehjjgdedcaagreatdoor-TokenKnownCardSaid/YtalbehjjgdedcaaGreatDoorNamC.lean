/- the reference's names: letter, May, Plain, Split, Begin. -/
import Derived.Test.YtalbehjjgdedcaaGreatDoorNamB
namespace Go.Proofs.YtalbehjjgdedcaaGreatDoor
open Go.RowKit Go.Lib
attribute [local go_sem ↓] Go.wp_at_zero Go.wp_at_succ

set_option maxHeartbeats 1000000 in
theorem letter_any (b : UInt8) (w : World) : Calls Tryz.prog 119 #[.int .u8 (b.toNat : Int)] w fun e w' => e = .returned (.bool (isF b)) ∧ w = w' := by
  have hb := UInt8.toNat_lt b
  have hF := isF_iff b
  by_cases h95 : b = 95
  · subst h95
    rw [show isF 95 = true by decide]
    clear hF hb
    go_enter Tryz.func119, Tryz.ntmps119
    go_wp2
    go_ret
    exact ⟨rfl, rfl⟩
  · have e95 : ((b.toNat : Int) == 95) = false := by rw [beq_eq_false_iff_ne]; intro e; exact h95 (UInt8.toNat_inj.1 (by show _ = 95; omega))
    have n95 : b.toNat ≠ 95 := fun e => h95 (UInt8.toNat_inj.1 e)
    by_cases h : (65 ≤ b.toNat ∧ b.toNat ≤ 90) ∨ (97 ≤ b.toNat ∧ b.toNat ≤ 122)
    · rw [hF.2 (.inl h)]
      have hc : ((65 : Int) ≤ b.toNat ∧ (b.toNat : Int) ≤ 90) ∨ ((65 : Int) ≤ b.toNat ∧ (90 : Int) < b.toNat ∧ (97 : Int) ≤ b.toNat ∧ (b.toNat : Int) ≤ 122) := by omega
      clear hF h n95 h95 e95
      rcases hc with ⟨c1, c2⟩ | ⟨c1, c2, c3, c4⟩
      all_goals
        go_enter Tryz.func119, Tryz.ntmps119
        go_wp2
        go_ret
        exact ⟨rfl, rfl⟩
    · have hf : isF b = false := by
        cases hh : isF b with
        | false => rfl
        | true => exact absurd (hF.1 hh) (by omega)
      rw [hf]
      have hc : ((b.toNat : Int) < 65) ∨ ((65 : Int) ≤ b.toNat ∧ (90 : Int) < b.toNat ∧ (b.toNat : Int) < 97) ∨ ((65 : Int) ≤ b.toNat ∧ (90 : Int) < b.toNat ∧ (97 : Int) ≤ b.toNat ∧ (122 : Int) < b.toNat) := by omega
      clear hF h n95 h95 hf
      rcases hc with c1 | ⟨c1, c2, c3⟩ | ⟨c1, c2, c3, c4⟩
      all_goals
        go_enter Tryz.func119, Tryz.ntmps119
        go_wp2
        go_ret
        exact ⟨by first | rfl | (show Ending.returned (.bool _) = _; congr 2; simp; omega), rfl⟩

set_option maxHeartbeats 1000000 in
theorem nmay_any (b : UInt8) (w : World) : Calls Tryz.prog 120 #[.int .u8 (b.toNat : Int)] w fun e w' => e = .returned (.bool (isL b)) ∧ w = w' := by
  have hb := UInt8.toNat_lt b
  have hL := isL_iff b
  have hl := letter_any b w
  cases hF : isF b with
  | true =>
    rw [isL_of_isF hF]
    rw [hF] at hl
    clear hL hF
    go_enter Tryz.func120, Tryz.ntmps120
    go_wp2_with (go_at_call 119; refine hl.mono ?_; rintro e w' ⟨rfl, rfl⟩)
    go_ret
    exact ⟨rfl, rfl⟩
  | false =>
    rw [hF] at hl hL
    by_cases h45 : b = 45
    · subst h45
      rw [show isL 45 = true by decide]
      clear hL hF hb
      go_enter Tryz.func120, Tryz.ntmps120
      go_wp2_with (go_at_call 119; refine hl.mono ?_; rintro e w' ⟨rfl, rfl⟩)
      go_ret
      exact ⟨rfl, rfl⟩
    · by_cases h46 : b = 46
      · subst h46
        rw [show isL 46 = true by decide]
        clear hL hF hb
        go_enter Tryz.func120, Tryz.ntmps120
        go_wp2_with (go_at_call 119; refine hl.mono ?_; rintro e w' ⟨rfl, rfl⟩)
        go_ret
        exact ⟨rfl, rfl⟩
      · have n45 : b.toNat ≠ 45 := fun e => h45 (UInt8.toNat_inj.1 e)
        have n46 : b.toNat ≠ 46 := fun e => h46 (UInt8.toNat_inj.1 e)
        have e45 : ((b.toNat : Int) == 45) = false := by rw [beq_eq_false_iff_ne]; omega
        have e46 : ((b.toNat : Int) == 46) = false := by rw [beq_eq_false_iff_ne]; omega
        by_cases hd : 48 ≤ b.toNat ∧ b.toNat ≤ 57
        · rw [hL.2 (.inr (.inl (.inl hd)))]
          have c1 : (48 : Int) ≤ b.toNat := by omega
          have c2 : (b.toNat : Int) ≤ 57 := by omega
          clear hL hF h45 h46 n45 n46 e45 e46 hd
          go_enter Tryz.func120, Tryz.ntmps120
          go_wp2_with (go_at_call 119; refine hl.mono ?_; rintro e w' ⟨rfl, rfl⟩)
          go_ret
          exact ⟨rfl, rfl⟩
        · have hf : isL b = false := by
            cases hh : isL b with
            | false => rfl
            | true => have := hL.1 hh; simp only [Bool.false_eq_true, false_or] at this; omega
          rw [hf]
          have hc : ((b.toNat : Int) < 48) ∨ ((48 : Int) ≤ b.toNat ∧ (57 : Int) < b.toNat) := by omega
          clear hL hF h45 h46 n45 n46 hd hf
          rcases hc with c1 | ⟨c1, c2⟩
          all_goals
            go_enter Tryz.func120, Tryz.ntmps120
            go_wp2_with (go_at_call 119; refine hl.mono ?_; rintro e w' ⟨rfl, rfl⟩)
            go_ret
            exact ⟨by first | rfl | (show Ending.returned (.bool _) = _; congr 2; simp; omega), rfl⟩

/-- Plain -/
def plainB (l : List UInt8) : Bool := plainN l && decide (l.length ≤ 64)
set_option maxHeartbeats 2000000 in
theorem rplain_any (s : ByteArray) (w : World) (hs : s.size ≤ 1000000) : Calls Tryz.prog 85 #[.string s] w fun e w' => e = .returned (.bool (plainB s.data.toList)) ∧ w = w' := by
  have hsz : s.data.toList.length = s.size := rfl
  by_cases h0 : 0 < s.size
  · by_cases h64 : s.size ≤ 64
    · have hi64 : (s.size : Int) ≤ 64 := by omega
      have hi0 : (0 : Int) < s.size := by omega
      have e0 : ((s.size : Int) == 0) = false := by rw [beq_eq_false_iff_ne]; omega
      have e0' : s.size ≠ 0 := by omega
      have hcons : s.data.toList = (s[0]'h0) :: s.data.toList.drop 1 := by
        have := List.drop_eq_getElem_cons (l := s.data.toList) (i := 0) h0
        exact this
      have hl := letter_any (s[0]'h0) w
      cases hF : isF (s[0]'h0) with
      | false =>
        have hp : plainB s.data.toList = false := by
          unfold plainB plainN
          rw [show lenN s.data.toList = 0 by rw [hcons, lenN_cons, if_neg (by rw [hF]; decide)]]
          rfl
        rw [hp]
        rw [hF] at hl
        clear hcons hF hp hsz
        go_enter Tryz.func85, Tryz.ntmps85
        go_wp2_with (go_at_call 119; refine hl.mono ?_; rintro e w' ⟨rfl, rfl⟩)
        go_ret
        exact ⟨rfl, rfl⟩
      | true =>
        have hp : 0 < lenN s.data.toList := by rw [hcons, lenN_cons, if_pos hF]; omega
        rw [hF] at hl
        have HP := hide hp
        obtain ⟨R, hR⟩ : ∃ R, plainB s.data.toList = R := ⟨_, rfl⟩
        have hR2 : R = decide (lenN s.data.toList = s.size) := by
          rw [← hR]
          unfold plainB plainN
          rw [decide_eq_true (by omega : lenN s.data.toList ≠ 0), Bool.true_and, hsz, decide_eq_true h64, Bool.and_true]
        have HR := hide hR2
        rw [hR]
        clear hcons hF hp hsz hR hR2
        go_enter Tryz.func85, Tryz.ntmps85
        go_wp2_with (go_at_call 119; refine hl.mono ?_; rintro e w' ⟨rfl, rfl⟩)
        go_loop [3] (fun n => ∃ k : Nat, n = .int .i64 k ∧ k ≤ s.size ∧ Hid (k ≤ lenN s.data.toList)) (fun n => s.size - (Go.RowKit.intOf n).toNat)
        case atStart => exact ⟨0, rfl, by omega, hide (Nat.zero_le _)⟩
        case round =>
          obtain ⟨k, rfl, hk, hkl⟩ := hrel
          by_cases hlt : k < s.size
          · have hi : (k : Int) < s.size := by omega
            have hm := nmay_any (s[k]'hlt) w
            have HS := hide (lenN_step HP.out hkl.out (data_getElem_ s k hlt))
            cases hL : isL (s[k]'hlt) with
            | true =>
              have HG := hide (HS.out.1 hL)
              rw [hL] at hm
              clear hL
              go_wp2_with (go_at_call 120; refine hm.mono ?_; rintro e w' ⟨rfl, rfl⟩)
              go_round
              case rel => exact ⟨k + 1, by go_num, by omega, HG⟩
              case measure => simp [Go.RowKit.intOf]; omega
            | false =>
              have hR : R = false := by rw [HR.out, ← HS.out.2 hL]; exact decide_eq_false (by omega)
              rw [hL] at hm
              have HG := hide hR
              clear hL hR
              go_wp2_with (go_at_call 120; refine hm.mono ?_; rintro e w' ⟨rfl, rfl⟩)
              go_ret
              exact ⟨by rw [HG.out]; rfl, rfl⟩
          · have hR : R = true := by
              rw [HR.out]
              have := lenN_le s.data.toList
              have := hkl.out
              have hsz : s.data.toList.length = s.size := rfl
              exact decide_eq_true (by omega)
            have HG := hide hR
            have hi : ¬ (k : Int) < s.size := by omega
            clear hR
            go_wp2_with fail
            go_ret
            exact ⟨by rw [HG.out]; rfl, rfl⟩
    · have hp : plainB s.data.toList = false := by
        unfold plainB
        rw [decide_eq_false (by omega : ¬ s.data.toList.length ≤ 64), Bool.and_false]
      rw [hp]
      have hi64 : (64 : Int) < s.size := by omega
      have e0 : ((s.size : Int) == 0) = false := by rw [beq_eq_false_iff_ne]; omega
      have e0' : s.size ≠ 0 := by omega
      clear hp hsz
      go_enter Tryz.func85, Tryz.ntmps85
      go_wp2
      go_ret
      exact ⟨rfl, rfl⟩
  · have hz : s.data.toList = [] := List.eq_nil_of_length_eq_zero (by omega)
    obtain rfl : s = ⟨#[]⟩ := by
      cases s with
      | mk d => congr 1; exact Array.toList_inj.1 hz
    clear hz hsz h0
    go_enter Tryz.func85, Tryz.ntmps85
    go_wp2
    go_ret
    exact ⟨rfl, rfl⟩
end Go.Proofs.YtalbehjjgdedcaaGreatDoor
