/- EntityPieces. -/
import Derived.Test.YtlmgckgblkndmaaDoorEntK
namespace Go.Proofs.YtlmgckgblkndmaaDoor
open Go.RowKit Go.Lib
attribute [local go_sem ↓] Go.wp_at_zero Go.wp_at_succ

theorem app_str (A B : ByteArray) (l : List UInt8) (h : l = A.data.toList ++ B.data.toList) : (⟨l.toArray⟩ : ByteArray) = A ++ B := by
  apply bytes_ext
  rw [h]
  simp
theorem encL_app (attr : Bool) (a b : List UInt8) : encL attr (a ++ b) = encL attr a ++ encL attr b := by simp [encL]
theorem decode_pos : ∀ (n : Nat) (l acc : List UInt8) (a : Nat), l.length ≤ n → (decode l.length l acc a).2.1 ≤ a + l.length
  | 0, l, acc, a, hn => by
    have : l = [] := List.eq_nil_of_length_eq_zero (by omega)
    subst this
    exact Nat.zero_le _
  | n + 1, l, acc, a, hn => by
    by_cases h0 : l = []
    · subst h0
      exact Nat.zero_le _
    · rw [decode_step h0]
      by_cases he : (stepD l).2.2 ≠ 0
      · rw [if_pos he]
        simp only
        omega
      · rw [if_neg he]
        have he : (stepD l).2.2 = 0 := by omega
        obtain ⟨-, h1, h2, -⟩ := stepD_app h0 he []
        have := decode_pos n (l.drop (stepD l).2.1) (acc ++ (stepD l).1) (a + (stepD l).2.1) (by rw [List.length_drop]; omega)
        have hdl : (l.drop (stepD l).2.1).length = l.length - (stepD l).2.1 := List.length_drop
        omega
theorem dec_size {s : ByteArray} {t : List UInt8} (h : Dec s.data.toList t) (hs : s.size ≤ 300) : (⟨t.toArray⟩ : ByteArray).size ≤ 1200 := by
  have h1 := dec_len h
  have h2 : s.data.toList.length = s.size := rfl
  show t.toArray.size ≤ _
  rw [List.size_toArray]
  omega
theorem app_toList (a b : ByteArray) : (a ++ b).data.toList = a.data.toList ++ b.data.toList := by simp

/-- the second half: what is decoded, of both -/
theorem pieces_dec (a b : ByteArray) {t : List UInt8} (ha : Dec a.data.toList t) (hsa : a.size ≤ 300) (hsb : b.size ≤ 300) (w : World) (hst : St w) :
    ((decodeR b.data.toList).2.2 = 0 ∧ ∃ Q : ByteArray, Q.size ≤ 1200 ∧ ∀ w, St w → Calls Tryd.prog 9 #[.string b] w (fun e w' => e = .returned (.tuple #[.string Q, .int .i64 0, .int .i64 0]) ∧ Fr (fun _ => False) w w') ∧
      Calls Tryd.prog 9 #[.string (a ++ b)] w (fun e w' => e = .returned (.tuple #[.string ((⟨t.toArray⟩ : ByteArray) ++ Q), .int .i64 0, .int .i64 0]) ∧ Fr (fun _ => False) w w')) ∨
    (∃ (n : Nat) (k : Int), k ≠ 0 ∧ n ≤ 300 ∧ ∀ w, St w → Calls Tryd.prog 9 #[.string b] w (fun e w' => e = .returned (.tuple #[.string ⟨#[]⟩, .int .i64 n, .int .i64 k]) ∧ Fr (fun _ => False) w w') ∧
      Calls Tryd.prog 9 #[.string (a ++ b)] w (fun e w' => e = .returned (.tuple #[.string ⟨#[]⟩, .int .i64 ((n : Int) + a.size), .int .i64 k]) ∧ Fr (fun _ => False) w w')) := by
  have hla : a.data.toList.length = a.size := rfl
  have hlb : b.data.toList.length = b.size := rfl
  have hz : (a ++ b).size ≤ 10000 := by rw [ByteArray.size_append]; omega
  have hrun := ha.run b.data.toList [] 0
  rw [← app_toList] at hrun
  have hrun : decodeR (a ++ b).data.toList = decode b.data.toList.length b.data.toList t a.size := by unfold decodeR; rw [hrun, hla, List.nil_append, Nat.zero_add]
  obtain ⟨g1, g2⟩ := decode_acc b.data.toList.length b.data.toList [] t 0 a.size (Nat.le_refl _)
  by_cases hd : (decodeR b.data.toList).2.2 = 0
  · left
    have hdd := dec_of_ok hd
    refine ⟨hd, ⟨(decodeR b.data.toList).1.toArray⟩, dec_size hdd (by omega), fun w hst => ⟨decode_ok b hdd (by omega) w hst, ?_⟩⟩
    have h2 := hdd.run [] t a.size
    simp only [List.append_nil] at h2
    have := decode_any (a ++ b) w hst (by omega)
    rw [hrun, h2] at this
    rw [← app_str ⟨t.toArray⟩ ⟨(decodeR b.data.toList).1.toArray⟩ (t ++ (decodeR b.data.toList).1) rfl]
    exact this
  · right
    have hp := decode_pos b.data.toList.length b.data.toList [] 0 (Nat.le_refl _)
    obtain ⟨-, k2, k3⟩ := g2 hd
    refine ⟨(decodeR b.data.toList).2.1, (decodeR b.data.toList).2.2, hd, ?_, fun w hst => ⟨decode_err b hd (by omega) w hst, ?_⟩⟩
    · show (decode b.data.toList.length b.data.toList [] 0).2.1 ≤ 300
      omega
    · have hne : (decodeR (a ++ b).data.toList).2.2 ≠ 0 := by rw [hrun, g1]; exact hd
      have := decode_err (a ++ b) hne hz w hst
      have e1 : (decodeR (a ++ b).data.toList).2.2 = (decodeR b.data.toList).2.2 := by rw [hrun, g1]; rfl
      have e2 : ((decodeR (a ++ b).data.toList).2.1 : Int) = ((decodeR b.data.toList).2.1 : Int) + a.size := by
        rw [hrun]
        show ((decode b.data.toList.length b.data.toList t a.size).2.1 : Int) = ((decode b.data.toList.length b.data.toList [] 0).2.1 : Int) + a.size
        omega
      rw [e1, e2] at this
      exact this

set_option maxRecDepth 100000 in
set_option maxHeartbeats 4000000 in
theorem entityPieces_any (a b : ByteArray) (attr : Bool) (w : World) (hst : St w) : Calls Tryd.prog 6 #[.string a, .string b, .bool attr] w fun e w' => e = .returned (.bool true) ∧ Fr (fun _ => False) w w' := by
  have HST := hide hst
  have hla : a.data.toList.length = a.size := rfl
  have hlb : b.data.toList.length = b.size := rfl
  by_cases hs : a.size ≤ 300
  · have hsi : ¬ (300 : Int) < a.size := by omega
    by_cases hs2 : b.size ≤ 300
    · have hsi2 : ¬ (300 : Int) < b.size := by omega
      have hz : (a ++ b).size ≤ 10000 := by rw [ByteArray.size_append]; omega
      by_cases hu : IsU a.data.toList
      · by_cases hv : IsU b.data.toList
        · obtain ⟨X, hX, hXs, h1⟩ := encode_ok a attr hu (by omega)
          obtain ⟨Y, hY, hYs, h2⟩ := encode_ok b attr hv (by omega)
          have h3 : ∀ w, St w → Calls Tryd.prog 13 #[.string (a ++ b), .bool attr] w (fun e w' => e = .returned (.tuple #[.string (X ++ Y), .int .i64 0]) ∧ Fr (fun _ => False) w w') := by
            obtain ⟨Z, hZ, -, h3⟩ := encode_ok (a ++ b) attr (by rw [app_toList]; exact hu.append hv) hz
            have : Z = X ++ Y := by
              apply bytes_ext
              rw [app_toList, hZ, hX, hY, app_toList, encL_app]
            rw [← this]
            exact h3
          have H1 := hide h1
          have H2 := hide h2
          have H3 := hide h3
          clear h1 h2 h3 hX hY hu hv
          by_cases hd : (decodeR a.data.toList).2.2 = 0
          · have hda := dec_of_ok hd
            rcases pieces_dec a b hda hs hs2 w hst with hq | hq
            · obtain ⟨-, Q, hQs, h5⟩ := hq
              have hTs := dec_size hda hs
              have h4 := decode_ok a hda (by omega)
              obtain ⟨T, hT⟩ : ∃ T : ByteArray, (⟨(decodeR a.data.toList).1.toArray⟩ : ByteArray) = T := ⟨_, rfl⟩
              rw [hT] at h4 hTs
              simp only [hT] at h5
              have H4 := hide h4
              have H5 := hide h5
              clear h4 h5 hT hda hd
              clear hst
              go_enter Tryd.func6, Tryd.ntmps6
              go_wp2_with (first
                | (go_at_call 13; go_fit (H1.out _ HST.out); rintro e w1 ⟨rfl, f1⟩; have s1 := hide (HST.out.same f1))
                | (go_at_call 13; go_fit (H2.out _ s1.out); rintro e w2 ⟨rfl, f2⟩; have s2 := hide (s1.out.same f2))
                | (go_at_call 13; go_fit (H3.out _ s2.out); rintro e w3 ⟨rfl, f3⟩; have s3 := hide (s2.out.same f3))
                | (go_at_call 9; go_fit (H4.out _ s3.out); rintro e w4 ⟨rfl, f4⟩; have s4 := hide (s3.out.same f4))
                | (go_at_call 9; go_fit ((H5.out _ s4.out).1); rintro e w5 ⟨rfl, f5⟩; have s5 := hide (s4.out.same f5))
                | (go_at_call 9; go_fit ((H5.out _ s5.out).2); rintro e w6 ⟨rfl, f6⟩; have s6 := hide (s5.out.same f6))
                | (go_at_call 8; refine (eworks_any _ s6.out).mono ?_; rintro e w7 ⟨rfl, f7⟩))
              go_ret
              exact ⟨rfl, ((((((f1.trans f2).trans f3).trans f4).trans f5).trans f6).trans f7)⟩
            · obtain ⟨n2, e2, hk, hn2, h5⟩ := hq
              have hk1 : ¬ e2 = 0 := hk
              have hk2 := bf hk1
              have hk3 : (e2 != 0) = true := by simpa using hk1
              have h4 := decode_ok a hda (by omega)
              generalize (⟨(decodeR a.data.toList).1.toArray⟩ : ByteArray) = T at *
              have H4 := hide h4
              have H5 := hide h5
              clear h4 h5 hda hd hk
              clear hst
              go_enter Tryd.func6, Tryd.ntmps6
              go_wp2_with (first
                | (go_at_call 13; go_fit (H1.out _ HST.out); rintro e w1 ⟨rfl, f1⟩; have s1 := hide (HST.out.same f1))
                | (go_at_call 13; go_fit (H2.out _ s1.out); rintro e w2 ⟨rfl, f2⟩; have s2 := hide (s1.out.same f2))
                | (go_at_call 13; go_fit (H3.out _ s2.out); rintro e w3 ⟨rfl, f3⟩; have s3 := hide (s2.out.same f3))
                | (go_at_call 9; go_fit (H4.out _ s3.out); rintro e w4 ⟨rfl, f4⟩; have s4 := hide (s3.out.same f4))
                | (go_at_call 9; go_fit ((H5.out _ s4.out).1); rintro e w5 ⟨rfl, f5⟩; have s5 := hide (s4.out.same f5))
                | (go_at_call 9; go_fit ((H5.out _ s5.out).2); rintro e w6 ⟨rfl, f6⟩; have s6 := hide (s5.out.same f6))
                | (go_at_call 8; refine (eworks_any _ s6.out).mono ?_; rintro e w7 ⟨rfl, f7⟩))
              go_ret
              exact ⟨rfl, ((((((f1.trans f2).trans f3).trans f4).trans f5).trans f6).trans f7)⟩
          · have h4 := decode_err a hd (by omega)
            generalize (decodeR a.data.toList).2.1 = n1 at *
            generalize (decodeR a.data.toList).2.2 = e1 at *
            have hd1 : ¬ e1 = 0 := hd
            obtain ⟨PB, n2, e2, h5⟩ : ∃ (PB : ByteArray) (n2 : Nat) (e2 : Int), ∀ w, St w → Calls Tryd.prog 9 #[.string b] w (fun e w' => e = .returned (.tuple #[.string PB, .int .i64 n2, .int .i64 e2]) ∧ Fr (fun _ => False) w w') := ⟨_, _, _, fun w hst => decode_any b w hst (by omega)⟩
            have H4 := hide h4
            have H5 := hide h5
            clear h4 h5 hd
            clear hst
            go_enter Tryd.func6, Tryd.ntmps6
            go_wp2_with (first
              | (go_at_call 13; go_fit (H1.out _ HST.out); rintro e w1 ⟨rfl, f1⟩; have s1 := hide (HST.out.same f1))
              | (go_at_call 13; go_fit (H2.out _ s1.out); rintro e w2 ⟨rfl, f2⟩; have s2 := hide (s1.out.same f2))
              | (go_at_call 13; go_fit (H3.out _ s2.out); rintro e w3 ⟨rfl, f3⟩; have s3 := hide (s2.out.same f3))
              | (go_at_call 9; go_fit (H4.out _ s3.out); rintro e w4 ⟨rfl, f4⟩; have s4 := hide (s3.out.same f4))
              | (go_at_call 9; go_fit (H5.out _ s4.out); rintro e w5 ⟨rfl, f5⟩; have s5 := hide (s4.out.same f5))
              | (go_at_call 8; refine (eworks_any _ s5.out).mono ?_; rintro e w6 ⟨rfl, f6⟩))
            go_ret
            exact ⟨rfl, (((((f1.trans f2).trans f3).trans f4).trans f5).trans f6)⟩
        · obtain ⟨X, -, hXs, h1⟩ := encode_ok a attr hu (by omega)
          have h2 := encode_err b attr hv (by omega)
          have H1 := hide h1
          have H2 := hide h2
          clear h1 h2 hu hv
          by_cases hd : (decodeR a.data.toList).2.2 = 0
          · have hda := dec_of_ok hd
            rcases pieces_dec a b hda hs hs2 w hst with hq | hq
            · obtain ⟨-, Q, hQs, h5⟩ := hq
              have hTs := dec_size hda hs
              have h4 := decode_ok a hda (by omega)
              obtain ⟨T, hT⟩ : ∃ T : ByteArray, (⟨(decodeR a.data.toList).1.toArray⟩ : ByteArray) = T := ⟨_, rfl⟩
              rw [hT] at h4 hTs
              simp only [hT] at h5
              have H4 := hide h4
              have H5 := hide h5
              clear h4 h5 hT hda hd
              clear hst
              go_enter Tryd.func6, Tryd.ntmps6
              go_wp2_with (first
                | (go_at_call 13; go_fit (H1.out _ HST.out); rintro e w1 ⟨rfl, f1⟩; have s1 := hide (HST.out.same f1))
                | (go_at_call 13; go_fit (H2.out _ s1.out); rintro e w2 ⟨rfl, f2⟩; have s2 := hide (s1.out.same f2))
                | (go_at_call 9; go_fit (H4.out _ s2.out); rintro e w3 ⟨rfl, f3⟩; have s3 := hide (s2.out.same f3))
                | (go_at_call 9; go_fit ((H5.out _ s3.out).1); rintro e w4 ⟨rfl, f4⟩; have s4 := hide (s3.out.same f4))
                | (go_at_call 9; go_fit ((H5.out _ s4.out).2); rintro e w5 ⟨rfl, f5⟩; have s5 := hide (s4.out.same f5))
                | (go_at_call 8; refine (eworks_any _ s5.out).mono ?_; rintro e w6 ⟨rfl, f6⟩))
              go_ret
              exact ⟨rfl, (((((f1.trans f2).trans f3).trans f4).trans f5).trans f6)⟩
            · obtain ⟨n2, e2, hk, hn2, h5⟩ := hq
              have hk1 : ¬ e2 = 0 := hk
              have hk2 := bf hk1
              have hk3 : (e2 != 0) = true := by simpa using hk1
              have h4 := decode_ok a hda (by omega)
              generalize (⟨(decodeR a.data.toList).1.toArray⟩ : ByteArray) = T at *
              have H4 := hide h4
              have H5 := hide h5
              clear h4 h5 hda hd hk
              clear hst
              go_enter Tryd.func6, Tryd.ntmps6
              go_wp2_with (first
                | (go_at_call 13; go_fit (H1.out _ HST.out); rintro e w1 ⟨rfl, f1⟩; have s1 := hide (HST.out.same f1))
                | (go_at_call 13; go_fit (H2.out _ s1.out); rintro e w2 ⟨rfl, f2⟩; have s2 := hide (s1.out.same f2))
                | (go_at_call 9; go_fit (H4.out _ s2.out); rintro e w3 ⟨rfl, f3⟩; have s3 := hide (s2.out.same f3))
                | (go_at_call 9; go_fit ((H5.out _ s3.out).1); rintro e w4 ⟨rfl, f4⟩; have s4 := hide (s3.out.same f4))
                | (go_at_call 9; go_fit ((H5.out _ s4.out).2); rintro e w5 ⟨rfl, f5⟩; have s5 := hide (s4.out.same f5))
                | (go_at_call 8; refine (eworks_any _ s5.out).mono ?_; rintro e w6 ⟨rfl, f6⟩))
              go_ret
              exact ⟨rfl, (((((f1.trans f2).trans f3).trans f4).trans f5).trans f6)⟩
          · have h4 := decode_err a hd (by omega)
            generalize (decodeR a.data.toList).2.1 = n1 at *
            generalize (decodeR a.data.toList).2.2 = e1 at *
            have hd1 : ¬ e1 = 0 := hd
            obtain ⟨PB, n2, e2, h5⟩ : ∃ (PB : ByteArray) (n2 : Nat) (e2 : Int), ∀ w, St w → Calls Tryd.prog 9 #[.string b] w (fun e w' => e = .returned (.tuple #[.string PB, .int .i64 n2, .int .i64 e2]) ∧ Fr (fun _ => False) w w') := ⟨_, _, _, fun w hst => decode_any b w hst (by omega)⟩
            have H4 := hide h4
            have H5 := hide h5
            clear h4 h5 hd
            clear hst
            go_enter Tryd.func6, Tryd.ntmps6
            go_wp2_with (first
              | (go_at_call 13; go_fit (H1.out _ HST.out); rintro e w1 ⟨rfl, f1⟩; have s1 := hide (HST.out.same f1))
              | (go_at_call 13; go_fit (H2.out _ s1.out); rintro e w2 ⟨rfl, f2⟩; have s2 := hide (s1.out.same f2))
              | (go_at_call 9; go_fit (H4.out _ s2.out); rintro e w3 ⟨rfl, f3⟩; have s3 := hide (s2.out.same f3))
              | (go_at_call 9; go_fit (H5.out _ s3.out); rintro e w4 ⟨rfl, f4⟩; have s4 := hide (s3.out.same f4))
              | (go_at_call 8; refine (eworks_any _ s4.out).mono ?_; rintro e w5 ⟨rfl, f5⟩))
            go_ret
            exact ⟨rfl, ((((f1.trans f2).trans f3).trans f4).trans f5)⟩
      · have h1 := encode_err a attr hu (by omega)
        obtain ⟨Y, ye, h2⟩ : ∃ (Y : ByteArray) (ye : Int), ∀ w, St w → Calls Tryd.prog 13 #[.string b, .bool attr] w (fun e w' => e = .returned (.tuple #[.string Y, .int .i64 ye]) ∧ Fr (fun _ => False) w w') := ⟨_, _, fun w hst => encode_any b attr w hst (by omega)⟩
        have H1 := hide h1
        have H2 := hide h2
        clear h1 h2 hu
        by_cases hd : (decodeR a.data.toList).2.2 = 0
        · have hda := dec_of_ok hd
          rcases pieces_dec a b hda hs hs2 w hst with hq | hq
          · obtain ⟨-, Q, hQs, h5⟩ := hq
            have hTs := dec_size hda hs
            have h4 := decode_ok a hda (by omega)
            obtain ⟨T, hT⟩ : ∃ T : ByteArray, (⟨(decodeR a.data.toList).1.toArray⟩ : ByteArray) = T := ⟨_, rfl⟩
            rw [hT] at h4 hTs
            simp only [hT] at h5
            have H4 := hide h4
            have H5 := hide h5
            clear h4 h5 hT hda hd
            clear hst
            go_enter Tryd.func6, Tryd.ntmps6
            go_wp2_with (first
              | (go_at_call 13; go_fit (H1.out _ HST.out); rintro e w1 ⟨rfl, f1⟩; have s1 := hide (HST.out.same f1))
              | (go_at_call 13; go_fit (H2.out _ s1.out); rintro e w2 ⟨rfl, f2⟩; have s2 := hide (s1.out.same f2))
              | (go_at_call 9; go_fit (H4.out _ s2.out); rintro e w3 ⟨rfl, f3⟩; have s3 := hide (s2.out.same f3))
              | (go_at_call 9; go_fit ((H5.out _ s3.out).1); rintro e w4 ⟨rfl, f4⟩; have s4 := hide (s3.out.same f4))
              | (go_at_call 9; go_fit ((H5.out _ s4.out).2); rintro e w5 ⟨rfl, f5⟩; have s5 := hide (s4.out.same f5))
              | (go_at_call 8; refine (eworks_any _ s5.out).mono ?_; rintro e w6 ⟨rfl, f6⟩))
            go_ret
            exact ⟨rfl, (((((f1.trans f2).trans f3).trans f4).trans f5).trans f6)⟩
          · obtain ⟨n2, e2, hk, hn2, h5⟩ := hq
            have hk1 : ¬ e2 = 0 := hk
            have hk2 := bf hk1
            have hk3 : (e2 != 0) = true := by simpa using hk1
            have h4 := decode_ok a hda (by omega)
            generalize (⟨(decodeR a.data.toList).1.toArray⟩ : ByteArray) = T at *
            have H4 := hide h4
            have H5 := hide h5
            clear h4 h5 hda hd hk
            clear hst
            go_enter Tryd.func6, Tryd.ntmps6
            go_wp2_with (first
              | (go_at_call 13; go_fit (H1.out _ HST.out); rintro e w1 ⟨rfl, f1⟩; have s1 := hide (HST.out.same f1))
              | (go_at_call 13; go_fit (H2.out _ s1.out); rintro e w2 ⟨rfl, f2⟩; have s2 := hide (s1.out.same f2))
              | (go_at_call 9; go_fit (H4.out _ s2.out); rintro e w3 ⟨rfl, f3⟩; have s3 := hide (s2.out.same f3))
              | (go_at_call 9; go_fit ((H5.out _ s3.out).1); rintro e w4 ⟨rfl, f4⟩; have s4 := hide (s3.out.same f4))
              | (go_at_call 9; go_fit ((H5.out _ s4.out).2); rintro e w5 ⟨rfl, f5⟩; have s5 := hide (s4.out.same f5))
              | (go_at_call 8; refine (eworks_any _ s5.out).mono ?_; rintro e w6 ⟨rfl, f6⟩))
            go_ret
            exact ⟨rfl, (((((f1.trans f2).trans f3).trans f4).trans f5).trans f6)⟩
        · have h4 := decode_err a hd (by omega)
          generalize (decodeR a.data.toList).2.1 = n1 at *
          generalize (decodeR a.data.toList).2.2 = e1 at *
          have hd1 : ¬ e1 = 0 := hd
          obtain ⟨PB, n2, e2, h5⟩ : ∃ (PB : ByteArray) (n2 : Nat) (e2 : Int), ∀ w, St w → Calls Tryd.prog 9 #[.string b] w (fun e w' => e = .returned (.tuple #[.string PB, .int .i64 n2, .int .i64 e2]) ∧ Fr (fun _ => False) w w') := ⟨_, _, _, fun w hst => decode_any b w hst (by omega)⟩
          have H4 := hide h4
          have H5 := hide h5
          clear h4 h5 hd
          clear hst
          go_enter Tryd.func6, Tryd.ntmps6
          go_wp2_with (first
            | (go_at_call 13; go_fit (H1.out _ HST.out); rintro e w1 ⟨rfl, f1⟩; have s1 := hide (HST.out.same f1))
            | (go_at_call 13; go_fit (H2.out _ s1.out); rintro e w2 ⟨rfl, f2⟩; have s2 := hide (s1.out.same f2))
            | (go_at_call 9; go_fit (H4.out _ s2.out); rintro e w3 ⟨rfl, f3⟩; have s3 := hide (s2.out.same f3))
            | (go_at_call 9; go_fit (H5.out _ s3.out); rintro e w4 ⟨rfl, f4⟩; have s4 := hide (s3.out.same f4))
            | (go_at_call 8; refine (eworks_any _ s4.out).mono ?_; rintro e w5 ⟨rfl, f5⟩))
          go_ret
          exact ⟨rfl, ((((f1.trans f2).trans f3).trans f4).trans f5)⟩
    · have hsi2 : (300 : Int) < b.size := by omega
      go_enter Tryd.func6, Tryd.ntmps6
      go_wp2_with (go_at_call 8; refine (eworks_any _ HST.out).mono ?_; rintro e w5 ⟨rfl, f5⟩)
      go_ret
      exact ⟨rfl, f5⟩
  · have hsi : (300 : Int) < a.size := by omega
    go_enter Tryd.func6, Tryd.ntmps6
    go_wp2_with (go_at_call 8; refine (eworks_any _ HST.out).mono ?_; rintro e w5 ⟨rfl, f5⟩)
    go_ret
    exact ⟨rfl, f5⟩
end Go.Proofs.YtlmgckgblkndmaaDoor
