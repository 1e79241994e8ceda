/- the reference's tokens: remark, attribute. -/
import Derived.Test.YtalbehjjgdedcaaGreatDoorRtkA
import Derived.Test.YtalbehjjgdedcaaGreatDoorTokB
namespace Go.Proofs.YtalbehjjgdedcaaGreatDoor
open Go.RowKit Go.Lib
attribute [local go_sem ↓] Go.wp_at_zero Go.wp_at_succ

set_option maxHeartbeats 2000000 in
theorem rremark_any (s : ByteArray) (p : Nat) (w : World) (hs : s.size ≤ 900000) (hp : p ≤ s.size) : Calls Tryz.prog 35 #[.string s, .int .i64 p] w fun e w' => e = .returned (.int .i64 (remarkP (s.data.toList.drop p))) ∧ w = w' := by
  have hsz : s.data.toList.length = s.size := rfl
  have h1 := has_any s ⟨#[60, 33, 45, 45]⟩ p w (by omega) (by decide) hp
  have h2 := has_any s ⟨#[60, 63]⟩ p w (by omega) (by decide) hp
  rw [show (⟨#[60, 33, 45, 45]⟩ : ByteArray).data.toList = [60, 33, 45, 45] from rfl] at h1
  rw [show (⟨#[60, 63]⟩ : ByteArray).data.toList = [60, 63] from rfl] at h2
  cases c1 : hasPrefix (s.data.toList.drop p) [60, 33, 45, 45] with
  | true =>
    have hlen := prefix_len c1
    rw [List.length_drop] at hlen
    simp only [List.length_cons, List.length_nil] at hlen
    have c2 : hasPrefix (s.data.toList.drop p) [60, 63] = false := by
      cases c2 : hasPrefix (s.data.toList.drop p) [60, 63] with
      | false => rfl
      | true =>
        have e1 := pre4 c1
        have e2 := pre2 c2
        rw [e1] at e2
        cases e2
    rw [c1] at h1
    rw [c2] at h2
    have hf := find_any s ⟨#[45, 45, 62]⟩ (p + 4) w (by omega) (by decide) (by omega)
    rw [show (⟨#[45, 45, 62]⟩ : ByteArray).data.toList = [45, 45, 62] from rfl] at hf
    have hr : remarkP (s.data.toList.drop p) = match findP [45, 45, 62] (s.data.toList.drop (p + 4)) with | some i => 4 + i + 3 | none => 0 := by
      unfold remarkP
      unfold hasPrefix at c1
      rw [if_pos c1, List.drop_drop]
      cases findP [45, 45, 62] (s.data.toList.drop (p + 4)) <;> rfl
    unfold findV at hf
    cases hff : findP [45, 45, 62] (s.data.toList.drop (p + 4)) with
    | none =>
      rw [hff] at hf hr
      simp only at hf hr
      rw [hr]
      clear c1 c2 hff hr hlen hsz
      simp only [Int.natCast_add, Int.cast_ofNat_Int] at hf
      go_enter Tryz.func35, Tryz.ntmps35
      go_wp2_with (first
        | (go_at_call 65; (first | go_fit h1 | go_fit h2); rintro e w' ⟨rfl, rfl⟩)
        | (go_at_call 33; refine hf.mono ?_; rintro e w' ⟨rfl, rfl⟩))
      go_ret
      exact ⟨rfl, rfl⟩
    | some i =>
      have hfl := findP_len hff
      rw [List.length_drop] at hfl
      rw [hff] at hf hr
      simp only at hf hr
      rw [hr]
      clear c1 c2 hff hr hlen
      simp only [Int.natCast_add, Int.cast_ofNat_Int] at hf
      obtain ⟨q, hq⟩ : ∃ q : Int, (p : Int) + 4 + i = q := ⟨_, rfl⟩
      have hq0 : 0 ≤ q := by omega
      have hq1 : q + 3 - p = 4 + i + 3 := by omega
      have hq2 : q ≤ 2000000 := by omega
      rw [hq] at hf
      have HQ := hide hq1
      clear hq hq1 hfl hsz
      go_enter Tryz.func35, Tryz.ntmps35
      go_wp2_with (first
        | (go_at_call 65; (first | go_fit h1 | go_fit h2); rintro e w' ⟨rfl, rfl⟩)
        | (go_at_call 33; refine hf.mono ?_; rintro e w' ⟨rfl, rfl⟩))
      go_ret
      refine ⟨?_, rfl⟩
      show Ending.returned (.int .i64 (q + 3 - p)) = _
      rw [HQ.out]
      simp
  | false =>
    rw [c1] at h1
    cases c2 : hasPrefix (s.data.toList.drop p) [60, 63] with
    | true =>
      have hlen := prefix_len c2
      rw [List.length_drop] at hlen
      simp only [List.length_cons, List.length_nil] at hlen
      rw [c2] at h2
      have hf := find_any s ⟨#[63, 62]⟩ (p + 2) w (by omega) (by decide) (by omega)
      rw [show (⟨#[63, 62]⟩ : ByteArray).data.toList = [63, 62] from rfl] at hf
      have hr : remarkP (s.data.toList.drop p) = match findP [63, 62] (s.data.toList.drop (p + 2)) with | some i => 2 + i + 2 | none => 0 := by
        unfold remarkP
        unfold hasPrefix at c1 c2
        rw [if_neg (by rw [c1]; decide), if_pos c2, List.drop_drop]
        cases findP [63, 62] (s.data.toList.drop (p + 2)) <;> rfl
      unfold findV at hf
      cases hff : findP [63, 62] (s.data.toList.drop (p + 2)) with
      | none =>
        rw [hff] at hf hr
        simp only at hf hr
        rw [hr]
        clear c1 c2 hff hr hlen hsz
        simp only [Int.natCast_add, Int.cast_ofNat_Int] at hf
        go_enter Tryz.func35, Tryz.ntmps35
        go_wp2_with (first
          | (go_at_call 65; (first | go_fit h1 | go_fit h2); rintro e w' ⟨rfl, rfl⟩)
          | (go_at_call 33; refine hf.mono ?_; rintro e w' ⟨rfl, rfl⟩))
        go_ret
        exact ⟨rfl, rfl⟩
      | some i =>
        have hfl := findP_len hff
        rw [List.length_drop] at hfl
        rw [hff] at hf hr
        simp only at hf hr
        rw [hr]
        clear c1 c2 hff hr hlen
        simp only [Int.natCast_add, Int.cast_ofNat_Int] at hf
        obtain ⟨q, hq⟩ : ∃ q : Int, (p : Int) + 2 + i = q := ⟨_, rfl⟩
        have hq0 : 0 ≤ q := by omega
        have hq1 : q + 2 - p = 2 + i + 2 := by omega
        have hq2 : q ≤ 2000000 := by omega
        rw [hq] at hf
        have HQ := hide hq1
        clear hq hq1 hfl hsz
        go_enter Tryz.func35, Tryz.ntmps35
        go_wp2_with (first
          | (go_at_call 65; (first | go_fit h1 | go_fit h2); rintro e w' ⟨rfl, rfl⟩)
          | (go_at_call 33; refine hf.mono ?_; rintro e w' ⟨rfl, rfl⟩))
        go_ret
        refine ⟨?_, rfl⟩
        show Ending.returned (.int .i64 (q + 2 - p)) = _
        rw [HQ.out]
        simp
    | false =>
      rw [c2] at h2
      have hr : remarkP (s.data.toList.drop p) = 0 := by
        unfold remarkP
        unfold hasPrefix at c1 c2
        rw [if_neg (by rw [c1]; decide), if_neg (by rw [c2]; decide)]
      rw [hr]
      clear c1 c2 hr hsz
      go_enter Tryz.func35, Tryz.ntmps35
      go_wp2_with (go_at_call 65; (first | go_fit h1 | go_fit h2); rintro e w' ⟨rfl, rfl⟩)
      go_ret
      exact ⟨rfl, rfl⟩
end Go.Proofs.YtalbehjjgdedcaaGreatDoor
