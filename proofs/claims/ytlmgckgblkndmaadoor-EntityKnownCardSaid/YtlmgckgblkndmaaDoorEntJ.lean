/- the laws of the entity layer: works, EntityDecode, EntityEncode, EntityBack, EntityPieces. -/
import Derived.Test.YtlmgckgblkndmaaDoorEntI
namespace Go.Proofs.YtlmgckgblkndmaaDoor
open Go.RowKit Go.Lib
attribute [local go_sem ↓] Go.wp_at_zero Go.wp_at_succ

theorem dw1 : decodeR [97, 38, 108, 116, 59, 98, 38, 35, 54, 53, 59, 38, 35, 120, 50, 48, 65, 67, 59] = ([97, 60, 98, 65, 226, 130, 172], 0, 0) := by decide +kernel
theorem dw2 : decodeR [97, 38, 98, 59] = ([], 1, 30) := by decide +kernel
theorem dw3 : decodeR [38, 35, 48, 59] = ([], 0, 30) := by decide +kernel
theorem dw4 : decodeR [38, 108, 116] = ([], 0, 30) := by decide +kernel
theorem ew1 : encodeR true [97, 60, 34, 98] = ([97, 38, 108, 116, 59, 38, 113, 117, 111, 116, 59, 98], 0) := by decide +kernel
theorem ew2 : encodeR false [97, 60, 34, 98] = ([97, 38, 108, 116, 59, 34, 98], 0) := by decide +kernel

set_option maxRecDepth 100000 in
set_option maxHeartbeats 4000000 in
theorem eworks_any (w : World) (hst : St w) : Calls Tryd.prog 8 #[] w fun e w' => e = .returned (.bool true) ∧ Fr (fun _ => False) w w' := by
  have h1 := fun W hW => decode_any ⟨#[97, 38, 108, 116, 59, 98, 38, 35, 54, 53, 59, 38, 35, 120, 50, 48, 65, 67, 59]⟩ W hW (by decide)
  have h2 := fun W hW => decode_any ⟨#[97, 38, 98, 59]⟩ W hW (by decide)
  have h3 := fun W hW => decode_any ⟨#[38, 35, 48, 59]⟩ W hW (by decide)
  have h4 := fun W hW => decode_any ⟨#[38, 108, 116]⟩ W hW (by decide)
  have h5 := fun W hW => encode_any ⟨#[97, 60, 34, 98]⟩ true W hW (by decide)
  have h6 := fun W hW => encode_any ⟨#[97, 60, 34, 98]⟩ false W hW (by decide)
  simp only [dw1, dw2, dw3, dw4, ew1, ew2, wp3, wp2] at h1 h2 h3 h4 h5 h6
  have H1 := hide h1
  have H2 := hide h2
  have H3 := hide h3
  have H4 := hide h4
  have H5 := hide h5
  have H6 := hide h6
  have HST := hide hst
  clear h1 h2 h3 h4 h5 h6 hst
  go_enter Tryd.func8, Tryd.ntmps8
  go_wp2_with (first
    | (go_at_call 9; go_fit (H1.out _ HST.out); rintro e w1 ⟨rfl, f1⟩; have s1 := hide (HST.out.same f1))
    | (go_at_call 9; go_fit (H2.out _ s1.out); rintro e w2 ⟨rfl, f2⟩; have s2 := hide (s1.out.same f2))
    | (go_at_call 9; go_fit (H3.out _ s2.out); rintro e w3 ⟨rfl, f3⟩; have s3 := hide (s2.out.same f3))
    | (go_at_call 9; go_fit (H4.out _ s3.out); rintro e w4 ⟨rfl, f4⟩; have s4 := hide (s3.out.same f4))
    | (go_at_call 13; go_fit (H5.out _ s4.out); rintro e w5 ⟨rfl, f5⟩; have s5 := hide (s4.out.same f5))
    | (go_at_call 13; go_fit (H6.out _ s5.out); rintro e w6 ⟨rfl, f6⟩))
  go_ret
  exact ⟨rfl, ((((f1.trans f2).trans f3).trans f4).trans f5).trans f6⟩

set_option maxRecDepth 100000 in
set_option maxHeartbeats 4000000 in
theorem entityDecode_any (s : ByteArray) (w : World) (hst : St w) : Calls Tryd.prog 3 #[.string s] w fun e w' => e = .returned (.bool true) ∧ Fr (fun _ => False) w w' := by
  have HST := hide hst
  clear hst
  by_cases hs : s.size ≤ 500
  · have hsi : ¬ (500 : Int) < s.size := by omega
    have h1 := fun W hW => decode_any s W hW (by omega)
    have h2 := fun W => rdecode_any s W (by omega)
    have h3 := fun W hW => reference_any s W hW (by omega)
    have h4 := fun W => rreference_any s W (by omega)
    simp only [wp3] at h1 h2
    obtain ⟨A, hA⟩ : ∃ A : ByteArray, (⟨(decodeR s.data.toList).1.toArray⟩ : ByteArray) = A := ⟨_, rfl⟩
    obtain ⟨B, hB⟩ : ∃ B : ByteArray, (⟨(refP s.data.toList).1.toArray⟩ : ByteArray) = B := ⟨_, rfl⟩
    rw [hA] at h1 h2
    rw [hB] at h3 h4
    generalize (decodeR s.data.toList).2.1 = n1 at *
    generalize (decodeR s.data.toList).2.2 = e1 at *
    generalize (refP s.data.toList).2 = n2 at *
    have H1 := hide h1
    have H2 := hide h2
    have H3 := hide h3
    have H4 := hide h4
    clear h1 h2 h3 h4 hA hB
    go_enter Tryd.func3, Tryd.ntmps3
    go_wp2_with (first
      | (go_at_call 9; refine (H1.out _ HST.out).mono ?_; rintro e w1 ⟨rfl, f1⟩)
      | (go_at_call 10; refine (H2.out _).mono ?_; rintro e w2 ⟨rfl, f2⟩)
      | (go_at_call 11; refine (H3.out _ ((HST.out.same f1).same f2)).mono ?_; rintro e w3 ⟨rfl, f3⟩)
      | (go_at_call 12; refine (H4.out _).mono ?_; rintro e w4 ⟨rfl, f4⟩)
      | (go_at_call 8; refine (eworks_any _ ((((HST.out.same f1).same f2).same f3).same f4)).mono ?_; rintro e w5 ⟨rfl, f5⟩))
    go_ret
    exact ⟨rfl, (((f1.trans f2).trans f3).trans f4).trans f5⟩
  · have hsi : (500 : Int) < s.size := by omega
    go_enter Tryd.func3, Tryd.ntmps3
    go_wp2_with (go_at_call 8; refine (eworks_any _ HST.out).mono ?_; rintro e w5 ⟨rfl, f5⟩)
    go_ret
    exact ⟨rfl, f5⟩

set_option maxRecDepth 100000 in
set_option maxHeartbeats 4000000 in
theorem entityEncode_any (s : ByteArray) (attr : Bool) (w : World) (hst : St w) : Calls Tryd.prog 4 #[.string s, .bool attr] w fun e w' => e = .returned (.bool true) ∧ Fr (fun _ => False) w w' := by
  have HST := hide hst
  clear hst
  by_cases hs : s.size ≤ 500
  · have hsi : ¬ (500 : Int) < s.size := by omega
    have h1 := fun W hW => encode_any s attr W hW (by omega)
    have h2 := fun W => rencode_any s attr W (by omega)
    simp only [wp2] at h1 h2
    obtain ⟨A, hA⟩ : ∃ A : ByteArray, (⟨(encodeR attr s.data.toList).1.toArray⟩ : ByteArray) = A := ⟨_, rfl⟩
    rw [hA] at h1 h2
    generalize (encodeR attr s.data.toList).2 = e1 at *
    have H1 := hide h1
    have H2 := hide h2
    clear h1 h2 hA
    go_enter Tryd.func4, Tryd.ntmps4
    go_wp2_with (first
      | (go_at_call 13; refine (H1.out _ HST.out).mono ?_; rintro e w1 ⟨rfl, f1⟩)
      | (go_at_call 14; refine (H2.out _).mono ?_; rintro e w2 ⟨rfl, f2⟩)
      | (go_at_call 8; refine (eworks_any _ ((HST.out.same f1).same f2)).mono ?_; rintro e w5 ⟨rfl, f5⟩))
    go_ret
    exact ⟨rfl, (f1.trans f2).trans f5⟩
  · have hsi : (500 : Int) < s.size := by omega
    go_enter Tryd.func4, Tryd.ntmps4
    go_wp2_with (go_at_call 8; refine (eworks_any _ HST.out).mono ?_; rintro e w5 ⟨rfl, f5⟩)
    go_ret
    exact ⟨rfl, f5⟩
end Go.Proofs.YtlmgckgblkndmaaDoor
