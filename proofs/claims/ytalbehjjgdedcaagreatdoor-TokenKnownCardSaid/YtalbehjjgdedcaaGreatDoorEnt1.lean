/- utf: is, Put. -/
import Derived.Test.YtalbehjjgdedcaaGreatDoorRows
import Derived.Test.YtalbehjjgdedcaaGreatDoorBase
import Derived.Test.YtalbehjjgdedcaaGreatDoorUtf
import Derived.Deep.QuietTactic
import Derived.BigQuiet
import Derived.Deep.RegionLaw
import Derived.Deep.RegionHeld3
import Derived.Deep.DrawnRows
namespace Go.Proofs.YtalbehjjgdedcaaGreatDoor
open Go.RowKit Go.Lib
attribute [local go_sem ↓] Go.wp_at_zero Go.wp_at_succ

def bL : List (Int × Int) := [(9, 10), (13, 13), (32, 55295), (57344, 65533), (65536, 1114111)]
def bC : List Int := [9, 10, 13, 13, 32, 55295, 57344, 65533, 65536, 1114111]
/-- the bounds lie as the program's text lays them -/
def UB (w : World) : Prop := ∀ j x, bC[j]? = some x → w.cell? ⟨0, j, none⟩ = some (.int .i32 x)
theorem UB.fr {fp : Nat → Prop} {w w' : World} (h : UB w) (hf : Fr fp w w') (hn : ¬ fp 0) : UB w' := fun j x hx => by
  have := h j x hx
  rw [hf.cell (p := ⟨0, j, none⟩) (World.block_lt_of_cell? w _ this) hn]
  exact this
theorem UB.same {w w' : World} (h : UB w) (hf : Fr (fun _ => False) w w') : UB w' := h.fr hf (fun h => h)
theorem isC_bL (c : Int) : isC c = bL.any fun p => decide (p.1 ≤ c ∧ c ≤ p.2) := by
  rw [Bool.eq_iff_iff]
  simp only [isC, bL, List.any_cons, List.any_nil, Bool.or_false, Bool.or_eq_true, decide_eq_true_eq]
  omega
theorem idx_b (k : Nat) (hk : k < 5) : ∃ lo hi : Int, bL[k]? = some (lo, hi) ∧ ∀ W : World, (Instr.index 214 (.agg #[.int .i32 9, .int .i32 10, .int .i32 13, .int .i32 13, .int .i32 32, .int .i32 55295, .int .i32 57344, .int .i32 65533, .int .i32 65536, .int .i32 1114111]) (.int .i64 (k : Int))).run Tryz.prog W = .ok (.agg #[.int .i32 lo, .int .i32 hi]) W := by
  match k, hk with
  | 0, _ => exact ⟨_, _, rfl, fun _ => by kernel_rfl⟩
  | 1, _ => exact ⟨_, _, rfl, fun _ => by kernel_rfl⟩
  | 2, _ => exact ⟨_, _, rfl, fun _ => by kernel_rfl⟩
  | 3, _ => exact ⟨_, _, rfl, fun _ => by kernel_rfl⟩
  | 4, _ => exact ⟨_, _, rfl, fun _ => by kernel_rfl⟩

set_option maxRecDepth 100000 in
set_option maxHeartbeats 1000000 in
theorem is_any (c : Int) (w : World) (hb : UB w) : Calls Tryz.prog 134 #[.int .i32 c] w fun e w' => e = .returned (.bool (isC c)) ∧ Fr (fun _ => False) w w' := by
  have b0 := hb 0 _ rfl
  have b1 := hb 1 _ rfl
  have b2 := hb 2 _ rfl
  have b3 := hb 3 _ rfl
  have b4 := hb 4 _ rfl
  have b5 := hb 5 _ rfl
  have b6 := hb 6 _ rfl
  have b7 := hb 7 _ rfl
  have b8 := hb 8 _ rfl
  have b9 := hb 9 _ rfl
  have HC := hide (isC_bL c)
  clear hb
  go_enter Tryz.func134, Tryz.ntmps134
  go_wp2_with fail
  clear b0 b1 b2 b3 b4 b5 b6 b7 b8 b9
  go_loopw [6] (fun i wr => ∃ k : Nat, k ≤ 5 ∧ i = .int .i64 k ∧ Hid (Fr (fun _ => False) w wr ∧ ∀ p ∈ bL.take k, ¬ (p.1 ≤ c ∧ c ≤ p.2))) (fun i _ => 5 - (intOf i).toNat)
  case atStart => exact ⟨0, Nat.zero_le _, rfl, Fr.refl _ _, by simp⟩
  case round =>
    obtain ⟨k, hk, rfl, hh⟩ := hrel
    by_cases hlt : k < 5
    · obtain ⟨lo, hi, hl, hix⟩ := idx_b k hlt
      have HL := hide hl
      clear hl
      by_cases hin : lo ≤ c ∧ c ≤ hi
      · obtain ⟨h1, h2⟩ := hin
        go_wp2_with fail
        go_ret
        refine ⟨?_, hh.out.1.alloc _⟩
        rw [show isC c = true by rw [HC.out, List.any_eq_true]; exact ⟨(lo, hi), List.mem_of_getElem? HL.out, by simp [h1, h2]⟩]
        rfl
      · have hor : c < lo ∨ (lo ≤ c ∧ hi < c) := by omega
        rcases hor with h1 | ⟨h1, h2⟩
        all_goals
          go_wp2_with fail
          go_roundw
          case rel => exact ⟨k + 1, by omega, by go_num, hh.out.1.alloc _, fun p hp => by
            rw [List.take_add_one, HL.out, Option.toList_some, List.mem_append, List.mem_singleton] at hp
            rcases hp with hp | rfl
            · exact hh.out.2 p hp
            · exact hin⟩
          case measure => simp [intOf]; omega
    · obtain rfl : k = 5 := by omega
      go_wp2_with fail
      go_ret
      refine ⟨?_, hh.out.1⟩
      rw [show isC c = false by
        rw [HC.out, List.any_eq_false]
        intro p hp
        have := hh.out.2 p hp
        simpa using this]
      rfl

theorem encode_putL {c : Int} (h : isC c = true) : Utf8.encode c = ⟨(putL c).toArray⟩ := by
  unfold putL
  rw [if_pos h]
  simp only [isC, decide_eq_true_eq] at h
  have hv : Utf8.valid c = true := by simp [Utf8.valid]; omega
  have hn : ((c.toNat : Nat) : Int) = c := by omega
  unfold Utf8.encode encodeRune
  simp only [hv, if_true]
  have hr : (0 ≤ c ∧ c ≤ 127) ∨ (128 ≤ c ∧ c ≤ 2047) ∨ ((2048 ≤ c ∧ c < 55296) ∨ (57343 < c ∧ c ≤ 65535)) ∨ (65536 ≤ c ∧ c ≤ 1114111) := by omega
  rcases hr with h1 | h1 | h1 | h1
  · rw [if_pos (by omega), encodeRuneZ_one h1.1 h1.2]
    rfl
  · rw [if_neg (by omega), if_pos (by omega), encodeRuneZ_two h1.1 h1.2]
    simp only [List.map_cons, List.map_nil, Nat.toUInt8]
    rw [show (192 + c / 64).toNat = 192 + c.toNat / 64 by omega, show (128 + c % 64).toNat = 128 + c.toNat % 64 by omega]
  · rw [if_neg (by omega), if_neg (by omega), if_pos (by omega), encodeRuneZ_three h1]
    simp only [List.map_cons, List.map_nil, Nat.toUInt8]
    rw [show (224 + c / 4096).toNat = 224 + c.toNat / 4096 by omega, show (128 + c / 64 % 64).toNat = 128 + c.toNat / 64 % 64 by omega, show (128 + c % 64).toNat = 128 + c.toNat % 64 by omega]
  · rw [if_neg (by omega), if_neg (by omega), if_neg (by omega), encodeRuneZ_four h1.1 h1.2]
    simp only [List.map_cons, List.map_nil, Nat.toUInt8]
    rw [show (240 + c / 262144).toNat = 240 + c.toNat / 262144 by omega, show (128 + c / 4096 % 64).toNat = 128 + c.toNat / 4096 % 64 by omega, show (128 + c / 64 % 64).toNat = 128 + c.toNat / 64 % 64 by omega, show (128 + c % 64).toNat = 128 + c.toNat % 64 by omega]

set_option maxHeartbeats 1000000 in
theorem put_any (c : Int) (w : World) (hb : UB w) : Calls Tryz.prog 105 #[.int .i32 c] w fun e w' => e = .returned (.string ⟨(putL c).toArray⟩) ∧ Fr (fun _ => False) w w' := by
  have HB := hide (is_any c w hb)
  clear hb
  cases hc : isC c with
  | true =>
    have HE := hide (encode_putL hc)
    rw [hc] at HB
    clear hc
    rw [← HE.out]
    go_enter Tryz.func105, Tryz.ntmps105
    go_wp2_with (go_at_call 134; refine HB.out.mono ?_; rintro e w1 ⟨rfl, f1⟩)
    go_ret
    exact ⟨rfl, f1⟩
  | false =>
    have he : putL c = [] := by simp [putL, hc]
    rw [hc] at HB
    rw [he]
    clear hc he
    go_enter Tryz.func105, Tryz.ntmps105
    go_wp2_with (go_at_call 134; refine HB.out.mono ?_; rintro e w1 ⟨rfl, f1⟩)
    go_ret
    exact ⟨rfl, f1⟩
end Go.Proofs.YtalbehjjgdedcaaGreatDoor
