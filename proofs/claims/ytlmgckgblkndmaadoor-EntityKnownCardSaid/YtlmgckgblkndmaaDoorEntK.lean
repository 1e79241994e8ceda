/- EntityBack. -/
import Derived.Test.YtlmgckgblkndmaaDoorEntJ
import Derived.Deep.DeepFit
namespace Go.Proofs.YtlmgckgblkndmaaDoor
open Go.RowKit Go.Lib
attribute [local go_sem ↓] Go.wp_at_zero Go.wp_at_succ

theorem dec_len {l t : List UInt8} (h : Dec l t) : t.length ≤ 4 * l.length := by
  induction h with
  | nil => simp
  | @cons l t h0 h1 _ ih =>
    have h2 := step_len l
    have h3 := (stepD_app h0 h1 []).2.2.1
    rw [List.length_drop] at ih
    rw [List.length_append]
    omega
theorem back_str (s : ByteArray) : (⟨s.data.toList.toArray⟩ : ByteArray) = s := by cases s; simp
/-- what is encoded: the call, where the text may be encoded -/
theorem encode_ok (s : ByteArray) (attr : Bool) (hu : IsU s.data.toList) (hs : s.size ≤ 10000) : ∃ W : ByteArray, W.data.toList = encL attr s.data.toList ∧ W.size ≤ 6 * s.size ∧
    ∀ w, St w → Calls Tryd.prog 13 #[.string s, .bool attr] w fun e w' => e = .returned (.tuple #[.string W, .int .i64 0]) ∧ Fr (fun _ => False) w w' := by
  have hl : s.data.toList.length = s.size := rfl
  have hr : encodeR attr s.data.toList = (encL attr s.data.toList, 0) := by unfold encodeR; rw [if_pos ((validR_iff _).2 hu)]
  refine ⟨⟨(encL attr s.data.toList).toArray⟩, by simp, ?_, fun w hst => ?_⟩
  · have := enc_len attr s.data.toList
    show (encL attr s.data.toList).toArray.size ≤ _
    rw [List.size_toArray]
    omega
  · have := encode_any s attr w hst (by omega)
    rw [hr] at this
    exact this
theorem encode_err (s : ByteArray) (attr : Bool) (hu : ¬ IsU s.data.toList) (hs : s.size ≤ 10000) : ∀ w, St w → Calls Tryd.prog 13 #[.string s, .bool attr] w fun e w' => e = .returned (.tuple #[.string ⟨#[]⟩, .int .i64 10]) ∧ Fr (fun _ => False) w w' := fun w hst => by
  have hr : encodeR attr s.data.toList = ([], 10) := by unfold encodeR; rw [if_neg (fun h => hu ((validR_iff _).1 h))]
  have := encode_any s attr w hst (by omega)
  rw [hr] at this
  exact this
theorem decode_ok (s : ByteArray) {t : List UInt8} (h : Dec s.data.toList t) (hs : s.size ≤ 10000) : ∀ w, St w → Calls Tryd.prog 9 #[.string s] w fun e w' => e = .returned (.tuple #[.string ⟨t.toArray⟩, .int .i64 0, .int .i64 0]) ∧ Fr (fun _ => False) w w' := fun w hst => by
  have := decode_any s w hst (by omega)
  rw [h.done] at this
  exact this
theorem bf {x n : Int} (h : ¬ x = n) : (x == n) = false := by simpa using h
theorem good_get {W : ByteArray} {attr : Bool} {l : List UInt8} (hW : W.data.toList = encL attr l) (p : Nat) (h : p < W.size) :
    (¬ ((W[p]'h).toNat : Int) = 60 ∧ ¬ ((W[p]'h).toNat : Int) = 62 ∧ ¬ ((W[p]'h).toNat : Int) = 13) ∧ (attr = true → ¬ ((W[p]'h).toNat : Int) = 34 ∧ ¬ ((W[p]'h).toNat : Int) = 9 ∧ ¬ ((W[p]'h).toNat : Int) = 10) := by
  have hm : (W[p]'h) ∈ encL attr l := by
    rw [← hW]
    exact List.mem_of_getElem? (data_getElem? W p h)
  have hg := enc_good hm
  unfold badB at hg
  simp only [Bool.or_eq_false_iff, Bool.and_eq_false_imp, beq_eq_false_iff_ne, ne_eq] at hg
  obtain ⟨⟨⟨g1, g2⟩, g3⟩, g4⟩ := hg
  exact ⟨⟨byte_ne g1, byte_ne g2, byte_ne g3⟩, fun ha => ⟨byte_ne (g4 ha).1.1, byte_ne (g4 ha).1.2, byte_ne (g4 ha).2⟩⟩

theorem decode_err (s : ByteArray) (h : (decodeR s.data.toList).2.2 ≠ 0) (hs : s.size ≤ 10000) : ∀ w, St w → Calls Tryd.prog 9 #[.string s] w fun e w' => e = .returned (.tuple #[.string ⟨#[]⟩, .int .i64 (decodeR s.data.toList).2.1, .int .i64 (decodeR s.data.toList).2.2]) ∧ Fr (fun _ => False) w w' := fun w hst => by
  have := decode_any s w hst (by omega)
  unfold wp3 at this
  rw [decodeR_err h] at this
  exact this

set_option maxRecDepth 100000 in
set_option maxHeartbeats 4000000 in
theorem entityBack_any (s : ByteArray) (attr : Bool) (w : World) (hst : St w) : Calls Tryd.prog 5 #[.string s, .bool attr] w fun e w' => e = .returned (.bool true) ∧ Fr (fun _ => False) w w' := by
  have HST := hide hst
  clear hst
  have hl : s.data.toList.length = s.size := rfl
  by_cases hs : s.size ≤ 500
  · have hsi : ¬ (500 : Int) < s.size := by omega
    by_cases hu : IsU s.data.toList
    · obtain ⟨W, hW, hWs, h1⟩ := encode_ok s attr hu (by omega)
      have h2 := decode_ok W (t := s.data.toList) (by rw [hW]; exact enc_dec attr hu) (by omega)
      rw [back_str] at h2
      have HG := hide (good_get hW)
      have H1 := hide h1
      have H2 := hide h2
      clear h1 h2 hW hu
      by_cases hd : (decodeR s.data.toList).2.2 = 0
      · have hdd := dec_of_ok hd
        have h3 := decode_ok s hdd (by omega)
        have hdl := dec_len hdd
        obtain ⟨D, hD⟩ : ∃ D : ByteArray, (⟨(decodeR s.data.toList).1.toArray⟩ : ByteArray) = D := ⟨_, rfl⟩
        have hDl : D.data.toList = (decodeR s.data.toList).1 := by rw [← hD]
        have hDs : D.size ≤ 2000 := by
          have : D.data.toList.length = D.size := rfl
          rw [hDl] at this
          omega
        obtain ⟨X, -, -, h4⟩ := encode_ok D attr (by rw [hDl]; exact hdd.isU) (by omega)
        rw [hD] at h3
        have H3 := hide h3
        have H4 := hide h4
        clear h3 h4 hdd hd hD hDl hdl
        go_enter Tryd.func5, Tryd.ntmps5
        go_wp2_with (first
          | (go_at_call 13; refine (H1.out _ HST.out).mono ?_; rintro e w1 ⟨rfl, f1⟩; have s1 := hide (HST.out.same f1))
          | (go_at_call 9; refine (H2.out _ s1.out).mono ?_; rintro e w2 ⟨rfl, f2⟩; have s2 := hide (s1.out.same f2)))
        go_loopw [10] (fun i wr => ∃ p : Nat, p ≤ W.size ∧ i = .int .i64 p ∧ w2 = wr) (fun i _ => W.size - (Go.RowKit.intOf i).toNat)
        case atStart => exact ⟨0, by omega, rfl, by trivial⟩
        case round =>
          obtain ⟨p, hp, rfl, rfl⟩ := hrel
          by_cases hps : p < W.size
          · have hpi : (p : Int) < (W.size : Int) := by omega
            obtain ⟨⟨g1, g2, g3⟩, g4⟩ := HG.out p hps
            have g1 := bf g1
            have g2 := bf g2
            have g3 := bf g3
            cases attr with
            | true =>
              obtain ⟨g4, g5, g6⟩ := g4 rfl
              have g4 := bf g4
              have g5 := bf g5
              have g6 := bf g6
              go_wp2_with fail
              go_roundw
              case rel => exact ⟨p + 1, by omega, by go_num, by trivial⟩
              case measure => simp [Go.RowKit.intOf]; omega
            | false =>
              clear g4
              go_wp2_with fail
              go_roundw
              case rel => exact ⟨p + 1, by omega, by go_num, by trivial⟩
              case measure => simp [Go.RowKit.intOf]; omega
          · obtain rfl : p = W.size := by omega
            skip
            go_wp2_with (first
              | (go_at_call 9; go_fit (H3.out _ s2.out); rintro e w3 ⟨rfl, f3⟩; have s3 := hide (s2.out.same f3))
              | (go_at_call 13; go_fit (H4.out _ s3.out); rintro e w4 ⟨rfl, f4⟩; have s4 := hide (s3.out.same f4))
              | (go_at_call 8; refine (eworks_any _ s4.out).mono ?_; rintro e w5 ⟨rfl, f5⟩))
            go_ret
            exact ⟨rfl, (((f1.trans f2).trans f3).trans f4).trans f5⟩
      · have h3 := decode_err s hd (by omega)
        generalize (decodeR s.data.toList).2.1 = n1 at *
        generalize (decodeR s.data.toList).2.2 = e1 at *
        have hd1 : ¬ e1 = 0 := hd
        have H3 := hide h3
        clear h3 hd
        go_enter Tryd.func5, Tryd.ntmps5
        go_wp2_with (first
          | (go_at_call 13; refine (H1.out _ HST.out).mono ?_; rintro e w1 ⟨rfl, f1⟩; have s1 := hide (HST.out.same f1))
          | (go_at_call 9; refine (H2.out _ s1.out).mono ?_; rintro e w2 ⟨rfl, f2⟩; have s2 := hide (s1.out.same f2)))
        go_loopw [10] (fun i wr => ∃ p : Nat, p ≤ W.size ∧ i = .int .i64 p ∧ w2 = wr) (fun i _ => W.size - (Go.RowKit.intOf i).toNat)
        case atStart => exact ⟨0, by omega, rfl, by trivial⟩
        case round =>
          obtain ⟨p, hp, rfl, rfl⟩ := hrel
          by_cases hps : p < W.size
          · have hpi : (p : Int) < (W.size : Int) := by omega
            obtain ⟨⟨g1, g2, g3⟩, g4⟩ := HG.out p hps
            have g1 := bf g1
            have g2 := bf g2
            have g3 := bf g3
            cases attr with
            | true =>
              obtain ⟨g4, g5, g6⟩ := g4 rfl
              have g4 := bf g4
              have g5 := bf g5
              have g6 := bf g6
              go_wp2_with fail
              go_roundw
              case rel => exact ⟨p + 1, by omega, by go_num, by trivial⟩
              case measure => simp [Go.RowKit.intOf]; omega
            | false =>
              clear g4
              go_wp2_with fail
              go_roundw
              case rel => exact ⟨p + 1, by omega, by go_num, by trivial⟩
              case measure => simp [Go.RowKit.intOf]; omega
          · obtain rfl : p = W.size := by omega
            skip
            go_wp2_with (first
              | (go_at_call 9; go_fit (H3.out _ s2.out); rintro e w3 ⟨rfl, f3⟩; have s3 := hide (s2.out.same f3))
              | (go_at_call 8; refine (eworks_any _ s3.out).mono ?_; rintro e w5 ⟨rfl, f5⟩))
            go_ret
            exact ⟨rfl, ((f1.trans f2).trans f3).trans f5⟩
    · have h1 := encode_err s attr hu (by omega)
      have H1 := hide h1
      clear h1 hu
      by_cases hd : (decodeR s.data.toList).2.2 = 0
      · have hdd := dec_of_ok hd
        have h3 := decode_ok s hdd (by omega)
        have hdl := dec_len hdd
        obtain ⟨D, hD⟩ : ∃ D : ByteArray, (⟨(decodeR s.data.toList).1.toArray⟩ : ByteArray) = D := ⟨_, rfl⟩
        have hDl : D.data.toList = (decodeR s.data.toList).1 := by rw [← hD]
        have hDs : D.size ≤ 2000 := by
          have : D.data.toList.length = D.size := rfl
          rw [hDl] at this
          omega
        obtain ⟨X, -, -, h4⟩ := encode_ok D attr (by rw [hDl]; exact hdd.isU) (by omega)
        rw [hD] at h3
        have H3 := hide h3
        have H4 := hide h4
        clear h3 h4 hdd hd hD hDl hdl
        go_enter Tryd.func5, Tryd.ntmps5
        go_wp2_with (first
          | (go_at_call 13; go_fit (H1.out _ HST.out); rintro e w1 ⟨rfl, f1⟩; have s1 := hide (HST.out.same f1))
          | (go_at_call 9; go_fit (H3.out _ s1.out); rintro e w3 ⟨rfl, f3⟩; have s3 := hide (s1.out.same f3))
          | (go_at_call 13; go_fit (H4.out _ s3.out); rintro e w4 ⟨rfl, f4⟩; have s4 := hide (s3.out.same f4))
          | (go_at_call 8; refine (eworks_any _ s4.out).mono ?_; rintro e w5 ⟨rfl, f5⟩))
        go_ret
        exact ⟨rfl, ((f1.trans f3).trans f4).trans f5⟩
      · have h3 := decode_err s hd (by omega)
        generalize (decodeR s.data.toList).2.1 = n1 at *
        generalize (decodeR s.data.toList).2.2 = e1 at *
        have hd1 : ¬ e1 = 0 := hd
        have H3 := hide h3
        clear h3 hd
        go_enter Tryd.func5, Tryd.ntmps5
        go_wp2_with (first
          | (go_at_call 13; go_fit (H1.out _ HST.out); rintro e w1 ⟨rfl, f1⟩; have s1 := hide (HST.out.same f1))
          | (go_at_call 9; go_fit (H3.out _ s1.out); rintro e w3 ⟨rfl, f3⟩; have s3 := hide (s1.out.same f3))
          | (go_at_call 8; refine (eworks_any _ s3.out).mono ?_; rintro e w5 ⟨rfl, f5⟩))
        go_ret
        exact ⟨rfl, (f1.trans f3).trans f5⟩
  · have hsi : (500 : Int) < s.size := by omega
    go_enter Tryd.func5, Tryd.ntmps5
    go_wp2_with (go_at_call 8; refine (eworks_any _ HST.out).mono ?_; rintro e w5 ⟨rfl, f5⟩)
    go_ret
    exact ⟨rfl, f5⟩
end Go.Proofs.YtlmgckgblkndmaaDoor
