/- the reference's UTF-8: Put, number, Next, Valid. -/
import Derived.Test.YtalbehjjgdedcaaGreatDoorEnt3
import Derived.Laws.BytesArg
import Derived.IntWalk
namespace Go.Proofs.YtalbehjjgdedcaaGreatDoor
open Go.RowKit Go.Lib
attribute [local go_sem ↓] Go.wp_at_zero Go.wp_at_succ

set_option maxHeartbeats 1000000 in
theorem ris_true (c : Int) (w : World) (h : isC c = true) : Calls Tryz.prog 87 #[.int .i64 c] w fun e w' => e = .returned (.bool true) ∧ w = w' := by
  simp only [isC, decide_eq_true_eq] at h
  have hh : c = 9 ∨ c = 10 ∨ c = 13 ∨ (32 ≤ c ∧ c ≤ 55295) ∨ (57344 ≤ c ∧ c ≤ 65533) ∨ (65536 ≤ c ∧ c ≤ 1114111) := by omega
  clear h
  rcases hh with rfl | rfl | rfl | ⟨h1, h2⟩ | ⟨h1, h2⟩ | ⟨h1, h2⟩
  all_goals try
    have e9 : (c == 9) = false := by simp; omega
    have e10 : (c == 10) = false := by simp; omega
    have e13 : (c == 13) = false := by simp; omega
  all_goals
    go_enter Tryz.func87, Tryz.ntmps87
    go_wp2
    go_ret
    exact ⟨rfl, rfl⟩
set_option maxHeartbeats 2000000 in
theorem ris_false (c : Int) (w : World) (h : isC c = false) : Calls Tryz.prog 87 #[.int .i64 c] w fun e w' => e = .returned (.bool false) ∧ w = w' := by
  simp only [isC, decide_eq_false_iff_not] at h
  have e9 : (c == 9) = false := by simp; omega
  have e10 : (c == 10) = false := by simp; omega
  have e13 : (c == 13) = false := by simp; omega
  have hh : c < 32 ∨ (32 ≤ c ∧ 55295 < c ∧ c < 57344) ∨ (32 ≤ c ∧ 55295 < c ∧ 57344 ≤ c ∧ 65533 < c ∧ c < 65536) ∨ (32 ≤ c ∧ 55295 < c ∧ 57344 ≤ c ∧ 65533 < c ∧ 65536 ≤ c ∧ 1114111 < c) := by omega
  clear h
  rcases hh with h1 | ⟨h1, h2, h3⟩ | ⟨h1, h2, h3, h4, h5⟩ | ⟨h1, h2, h3, h4, h5, h6⟩
  all_goals
    go_enter Tryz.func87, Tryz.ntmps87
    go_wp2
    go_ret
    refine ⟨?_, rfl⟩
    first
      | rfl
      | (show Ending.returned (.bool _) = _; congr 2; simp; omega)
theorem ris_any (c : Int) (w : World) : Calls Tryz.prog 87 #[.int .i64 c] w fun e w' => e = .returned (.bool (isC c)) ∧ w = w' := by
  cases h : isC c with
  | true => exact ris_true c w h
  | false => exact ris_false c w h

theorem conv_new (w : World) (xs : List Int) : (convert 51 9 (.slice (some ⟨w.heap.size, 0, none⟩) xs.length xs.length)).run Tryz.prog (w.alloc (.cells (xs.map (Value.int .u8)).toArray 5)) = .ok (.string (strOfNums xs)) (w.alloc (.cells (xs.map (Value.int .u8)).toArray 5)) :=
  run_convert_bytes_arg _ 51 5 Tryz.underlying51 Tryz.underlying5 _ 0 _ _ xs rfl (fun i hi => by
    have hb := heap_alloc_new w (.cells (xs.map (Value.int .u8)).toArray 5)
    rw [Nat.zero_add]
    unfold World.cell?
    simp only [hb]
    simp [hi]) 9 Tryz.underlying9
theorem str_put (c : Int) (xs : List Int) (h : encodeRuneZ c = xs) (hc : isC c = true) : strOfNums xs = ⟨(putL c).toArray⟩ := by
  unfold putL encodeRune
  rw [if_pos hc, h]
  rfl

set_option maxRecDepth 100000 in
set_option maxHeartbeats 2000000 in
theorem rput_any (c : Int) (w : World) : Calls Tryz.prog 88 #[.int .i64 c] w fun e w' => e = .returned (.string ⟨(putL c).toArray⟩) ∧ Fr (fun _ => False) w w' := by
  have HI := hide (ris_any c w)
  cases hc : isC c with
  | false =>
    have he : putL c = [] := by simp [putL, hc]
    rw [hc] at HI
    rw [he]
    clear hc he
    go_enter Tryz.func88, Tryz.ntmps88
    go_wp2_with (go_at_call 87; refine HI.out.mono ?_; rintro e w1 ⟨rfl, rfl⟩)
    go_ret
    exact ⟨rfl, Fr.refl _ _⟩
  | true =>
    rw [hc] at HI
    have hh := hc
    simp only [isC, decide_eq_true_eq] at hh
    have hr : (0 ≤ c ∧ c ≤ 127) ∨ (127 < c ∧ 128 ≤ c ∧ c ≤ 2047) ∨ (127 < c ∧ 2047 < c ∧ c ≤ 65535) ∨ (127 < c ∧ 2047 < c ∧ 65535 < c ∧ c ≤ 1114111) := by omega
    have HS := hide (fun xs h => str_put c xs h hc)
    have HH := hide hh
    clear hh hc
    generalize (⟨(putL c).toArray⟩ : ByteArray) = r at *
    rcases hr with ⟨h1, h2⟩ | ⟨h0, h1, h2⟩ | ⟨h00, h0, h1⟩ | ⟨h00, h0, h1, h2⟩
    · have hcv := conv_new w [c]
      simp only [List.map_cons, List.map_nil, List.length_cons, List.length_nil, Nat.zero_add] at hcv
      go_enter Tryz.func88, Tryz.ntmps88
      go_wp2_with (go_at_call 87; refine HI.out.mono ?_; rintro e w1 ⟨rfl, rfl⟩)
      go_ret
      exact ⟨by rw [← HS.out _ (encodeRuneZ_one h1 h2)]; rfl, Fr.alloc (Fr.refl _ _) _⟩
    · have hcv := conv_new w [192 + c / 64, 128 + c % 64]
      simp only [List.map_cons, List.map_nil, List.length_cons, List.length_nil, Nat.zero_add, Nat.reduceAdd] at hcv
      go_enter Tryz.func88, Tryz.ntmps88
      go_wp2_with (go_at_call 87; refine HI.out.mono ?_; rintro e w1 ⟨rfl, rfl⟩)
      go_ret
      exact ⟨by rw [← HS.out _ (encodeRuneZ_two h1 h2)]; rfl, Fr.alloc (Fr.refl _ _) _⟩
    · have hcv := conv_new w [224 + c / 4096, 128 + c / 64 % 64, 128 + c % 64]
      simp only [List.map_cons, List.map_nil, List.length_cons, List.length_nil, Nat.zero_add, Nat.reduceAdd] at hcv
      go_enter Tryz.func88, Tryz.ntmps88
      go_wp2_with (go_at_call 87; refine HI.out.mono ?_; rintro e w1 ⟨rfl, rfl⟩)
      go_ret
      exact ⟨by rw [← HS.out _ (encodeRuneZ_three (by have := HH.out; omega))]; rfl, Fr.alloc (Fr.refl _ _) _⟩
    · have hcv := conv_new w [240 + c / 262144, 128 + c / 4096 % 64, 128 + c / 64 % 64, 128 + c % 64]
      simp only [List.map_cons, List.map_nil, List.length_cons, List.length_nil, Nat.zero_add, Nat.reduceAdd] at hcv
      go_enter Tryz.func88, Tryz.ntmps88
      go_wp2_with (go_at_call 87; refine HI.out.mono ?_; rintro e w1 ⟨rfl, rfl⟩)
      go_ret
      exact ⟨by rw [← HS.out _ (encodeRuneZ_four (by omega) h2)]; rfl, Fr.alloc (Fr.refl _ _) _⟩

/-! number: of n bytes -/
theorem byte_at (s : ByteArray) (i : Nat) (h : i < s.size) : ((s[i]'h).toNat : Int) = byteAt s.data.toList i := by
  unfold byteAt
  have : s.data.toList[i]? = some (s[i]'h) := by
    rw [Array.getElem?_toList, Array.getElem?_eq_getElem h]
    rfl
  rw [this]
  rfl

set_option maxRecDepth 100000 in
set_option maxHeartbeats 4000000 in
theorem rnum_any (s : ByteArray) (n : Nat) (w : World) (h1 : 1 ≤ n) (h4 : n ≤ 4) (hn : n ≤ s.size) : Calls Tryz.prog 86 #[.string s, .int .i64 n] w fun e w' => e = .returned (.int .i64 (refNum s.data.toList n)) ∧ Fr (fun _ => False) w w' := by
  have hb : ∀ i, i < s.size → byteAt s.data.toList i < 256 := fun i hi => by unfold byteAt; exact UInt8.toNat_lt _
  have hcase : n = 1 ∨ n = 2 ∨ n = 3 ∨ n = 4 := by omega
  have h0 : 0 < s.size := by omega
  have b0 : (s[0]'h0).toNat < 256 := UInt8.toNat_lt _
  have hq := heap_alloc_new w (.cells #[.int .i64 0, .int .i64 256, .int .i64 192, .int .i64 224, .int .i64 240] 3)
  rcases hcase with rfl | rfl | rfl | rfl
  · have HX := hide (byte_at s 0 h0)
    clear hq hb
    go_enter Tryz.func86, Tryz.ntmps86
    go_wp2_with fail
    go_ret
    exact ⟨by unfold refNum; rw [← HX.out]; rfl, Fr.alloc (Fr.refl _ _) _⟩
  · have q2 := cell_of_row _ w.heap.size 2 _ _ _ hq
    have HX := hide (And.intro (byte_at s 0 (by omega)) (byte_at s 1 (by omega)))
    have b1 : (s[1]'(by omega)).toNat < 256 := UInt8.toNat_lt _
    clear hq hb
    go_enter Tryz.func86, Tryz.ntmps86
    go_wp2_with fail
    have e0 : IntKind.i64.wrap ((s[0]'h0).toNat : Int) = (s[0]'h0).toNat := IntWalk.i64_in _ (by omega)
    have e1 : IntKind.i64.wrap (((s[0]'h0).toNat : Int) - 192) = (s[0]'h0).toNat - 192 := IntWalk.i64_in _ (by omega)
    go_quiet (fail)
    clear e0 e1
    go_wp2_with fail
    refine wp_loop_rounds 3 ?_
    rw [rounds_succ]
    go_wp2_with fail
    rw [rounds_succ]
    go_wp2_with fail
    go_ret
    exact ⟨by unfold refNum; rw [← HX.out.1, ← HX.out.2]; rfl, (Fr.alloc (Fr.refl _ _) _).drewN _⟩
  · have q3 := cell_of_row _ w.heap.size 3 _ _ _ hq
    have HX := hide (And.intro (byte_at s 0 (by omega)) (And.intro (byte_at s 1 (by omega)) (byte_at s 2 (by omega))))
    have b1 : (s[1]'(by omega)).toNat < 256 := UInt8.toNat_lt _
    have b2 : (s[2]'(by omega)).toNat < 256 := UInt8.toNat_lt _
    clear hq hb
    go_enter Tryz.func86, Tryz.ntmps86
    go_wp2_with fail
    have e0 : IntKind.i64.wrap ((s[0]'h0).toNat : Int) = (s[0]'h0).toNat := IntWalk.i64_in _ (by omega)
    have e1 : IntKind.i64.wrap (((s[0]'h0).toNat : Int) - 224) = (s[0]'h0).toNat - 224 := IntWalk.i64_in _ (by omega)
    go_quiet (fail)
    clear e0 e1
    go_wp2_with fail
    refine wp_loop_rounds 4 ?_
    rw [rounds_succ]
    go_wp2_with fail
    rw [rounds_succ]
    go_wp2_with fail
    rw [rounds_succ]
    go_wp2_with fail
    go_ret
    exact ⟨by unfold refNum; rw [← HX.out.1, ← HX.out.2.1, ← HX.out.2.2]; rfl, (Fr.alloc (Fr.refl _ _) _).drewN _⟩
  · have q4 := cell_of_row _ w.heap.size 4 _ _ _ hq
    have HX := hide (And.intro (byte_at s 0 (by omega)) (And.intro (byte_at s 1 (by omega)) (And.intro (byte_at s 2 (by omega)) (byte_at s 3 (by omega)))))
    have b1 : (s[1]'(by omega)).toNat < 256 := UInt8.toNat_lt _
    have b2 : (s[2]'(by omega)).toNat < 256 := UInt8.toNat_lt _
    have b3 : (s[3]'(by omega)).toNat < 256 := UInt8.toNat_lt _
    clear hq hb
    go_enter Tryz.func86, Tryz.ntmps86
    go_wp2_with fail
    have e0 : IntKind.i64.wrap ((s[0]'h0).toNat : Int) = (s[0]'h0).toNat := IntWalk.i64_in _ (by omega)
    have e1 : IntKind.i64.wrap (((s[0]'h0).toNat : Int) - 240) = (s[0]'h0).toNat - 240 := IntWalk.i64_in _ (by omega)
    go_quiet (fail)
    clear e0 e1
    go_wp2_with fail
    refine wp_loop_rounds 5 ?_
    rw [rounds_succ]
    go_wp2_with fail
    rw [rounds_succ]
    go_wp2_with fail
    rw [rounds_succ]
    go_wp2_with fail
    rw [rounds_succ]
    go_wp2_with fail
    go_ret
    exact ⟨by unfold refNum; rw [← HX.out.1, ← HX.out.2.1, ← HX.out.2.2.1, ← HX.out.2.2.2]; rfl, (Fr.alloc (Fr.refl _ _) _).drewN _⟩
end Go.Proofs.YtalbehjjgdedcaaGreatDoor
