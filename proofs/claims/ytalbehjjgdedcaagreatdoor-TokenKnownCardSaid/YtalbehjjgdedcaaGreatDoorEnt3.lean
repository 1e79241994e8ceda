/- utf: Next, Valid; the reference's Is, Put. -/
import Derived.Test.YtalbehjjgdedcaaGreatDoorEnt2
namespace Go.Proofs.YtalbehjjgdedcaaGreatDoor
open Go.RowKit Go.Lib
attribute [local go_sem ↓] Go.wp_at_zero Go.wp_at_succ

/-- what Next tells: the character, its bytes, whether it is bad -/
def nextR (l : List UInt8) : Int × Nat × Int :=
  match nextL l with
  | some (x, k) => (x, k, 0)
  | none => if l = [] then (0, 0, 0) else (0, 0, 10)
theorem run1 (s : ByteArray) : runL 1 s.size s.data.toList 0 0 0 = match nextL s.data.toList with | some (x, k) => ((x : Int), 1, k) | none => (0, 0, 0) := by
  have hl : s.data.toList.length = s.size := rfl
  cases hsz : s.size with
  | zero =>
    have : s.data.toList = [] := List.eq_nil_of_length_eq_zero (by omega)
    rw [this, nextL_nil]
    rfl
  | succ f =>
    cases hn : nextL s.data.toList with
    | none => simp [runL, hn]
    | some r =>
      obtain ⟨x, k⟩ := r
      simp only [runL, hn]
      rw [if_neg (by decide)]
      cases f with
      | zero => simp [runL]
      | succ f => simp [runL]

set_option maxHeartbeats 1000000 in
theorem next_any (s : ByteArray) (w : World) (hb : UB w) (hs : s.size ≤ 1000000) : Calls Tryz.prog 114 #[.string s] w fun e w' =>
    e = .returned (.tuple #[.int .i32 (nextR s.data.toList).1, .int .i64 (nextR s.data.toList).2.1, .int .i64 (nextR s.data.toList).2.2]) ∧ Fr (fun _ => False) w w' := by
  have HE := hide (each_any s 1 w hb hs)
  have hl : s.data.toList.length = s.size := rfl
  rw [run1] at HE
  unfold nextR
  clear hb
  cases hn : nextL s.data.toList with
  | some r =>
    obtain ⟨x, k⟩ := r
    obtain ⟨-, -, -, -, hk, -⟩ := nextL_some hn
    simp only [hn] at HE
    clear hn
    have hkb : ((k : Int) == 0) = false := by simp; omega
    go_enter Tryz.func114, Tryz.ntmps114
    go_wp2_with (go_at_call 70; refine HE.out.mono ?_; rintro e w1 ⟨rfl, f1⟩)
    go_returns
    exact ⟨rfl, f1⟩
  | none =>
    simp only [hn] at HE
    clear hn
    by_cases h0 : s.data.toList = []
    · rw [if_pos h0]
      have hE : s.toList.isEmpty = true := by rw [toList_data, h0]; rfl
      have hE2 : s.toList = [] := by rw [toList_data, h0]
      clear h0
      go_enter Tryz.func114, Tryz.ntmps114
      go_wp2_with (go_at_call 70; refine HE.out.mono ?_; rintro e w1 ⟨rfl, f1⟩)
      go_returns
      exact ⟨rfl, f1⟩
    · rw [if_neg h0]
      have h1 : 1 ≤ s.size := by
        cases hs0 : s.size with
        | zero => exact absurd (List.eq_nil_of_length_eq_zero (by omega)) h0
        | succ k => omega
      have hE := ne_empty h1
      have hE2 := ne_nil h1
      clear h0
      go_enter Tryz.func114, Tryz.ntmps114
      go_wp2_with (go_at_call 70; refine HE.out.mono ?_; rintro e w1 ⟨rfl, f1⟩)
      go_returns
      exact ⟨rfl, f1⟩

/-- how many bytes at the beginning are characters -/
def goodL : Nat → List UInt8 → Nat
  | 0, _ => 0
  | f + 1, l => match nextL l with
    | none => 0
    | some (_, k) => k + goodL f (l.drop k)
theorem goodL_le (f : Nat) (l : List UInt8) : goodL f l ≤ l.length := by
  induction f generalizing l with
  | zero => simp [goodL]
  | succ f ih =>
    unfold goodL
    cases hn : nextL l with
    | none => simp
    | some r =>
      obtain ⟨x, k⟩ := r
      have := nextL_some hn
      have h2 := ih (l.drop k)
      rw [List.length_drop] at h2
      simp only
      omega
theorem run_good (most : Int) (f : Nat) (l : List UInt8) (c : Int) (n b : Nat) (hm : (n + l.length : Nat) ≤ most) (hf : l.length ≤ f) : (runL most f l c n b).2.2 = b + goodL f l := by
  induction f generalizing l c n b with
  | zero => rfl
  | succ f ih =>
    unfold runL goodL
    cases hn : nextL l with
    | none => by_cases h : (n : Int) = most <;> simp [h]
    | some r =>
      obtain ⟨x, k⟩ := r
      have := nextL_some hn
      rw [if_neg (by omega)]
      simp only
      rw [ih (l.drop k) x (n + 1) (b + k) (by rw [List.length_drop]; omega) (by rw [List.length_drop]; omega)]
      omega
def validR (l : List UInt8) : Nat × Int := if goodL l.length l < l.length then (goodL l.length l, 10) else (0, 0)

set_option maxHeartbeats 1000000 in
theorem valid_any (s : ByteArray) (w : World) (hb : UB w) (hs : s.size ≤ 1000000) : Calls Tryz.prog 38 #[.string s] w fun e w' =>
    e = .returned (.tuple #[.int .i64 (validR s.data.toList).1, .int .i64 (validR s.data.toList).2]) ∧ Fr (fun _ => False) w w' := by
  have HE := hide (each_any s s.size w hb hs)
  have hl : s.data.toList.length = s.size := rfl
  have hr := run_good s.size s.size s.data.toList 0 0 0 (by omega) (by omega)
  unfold validR
  rw [hl]
  rw [hr] at HE
  rw [Nat.zero_add] at HE
  clear hb hr
  generalize goodL s.size s.data.toList = g at *
  generalize (runL s.size s.size s.data.toList 0 0 0).1 = a at *
  generalize (runL s.size s.size s.data.toList 0 0 0).2.1 = b at *
  by_cases hg : g < s.size
  · rw [if_pos hg]
    go_enter Tryz.func38, Tryz.ntmps38
    go_wp2_with (go_at_call 70; refine HE.out.mono ?_; rintro e w1 ⟨rfl, f1⟩)
    go_returns
    exact ⟨rfl, f1⟩
  · rw [if_neg hg]
    go_enter Tryz.func38, Tryz.ntmps38
    go_wp2_with (go_at_call 70; refine HE.out.mono ?_; rintro e w1 ⟨rfl, f1⟩)
    go_returns
    exact ⟨rfl, f1⟩

end Go.Proofs.YtalbehjjgdedcaaGreatDoor
