/- the reference's UTF-8: Next, Valid. -/
import Derived.Test.YtalbehjjgdedcaaGreatDoorEnt4
import Derived.Lib.IndexBytes
namespace Go.Proofs.YtalbehjjgdedcaaGreatDoor
open Go.RowKit Go.Lib
attribute [local go_sem ↓] Go.wp_at_zero Go.wp_at_succ

theorem extract_zero (s : ByteArray) (k : Nat) : (s.extract 0 k).data.toList = s.data.toList.take k := by rw [extract_toList]; simp
theorem bytes_ext {a b : ByteArray} (h : a.data.toList = b.data.toList) : a = b := by
  have : a.data = b.data := Array.toList_inj.1 h
  cases a; cases b; simp_all
theorem nextR_none {l : List UInt8} (h : nextL l = none) (h0 : l ≠ []) : nextR l = (0, 0, 10) := by simp [nextR, h, h0]
theorem refOk_nextR {l : List UInt8} {k : Nat} (h : refOk l k = true) : nextR l = (refNum l k, k, 0) := by
  have hn := (refOk_iff l k).1 h
  have hc := (nextL_some hn).1
  have h0 : 0 ≤ refNum l k := by
    simp only [refOk, Bool.and_eq_true] at h
    have := h.1.2
    simp only [isC, decide_eq_true_eq] at this
    omega
  simp only [nextR, hn]
  rw [Int.toNat_of_nonneg h0]

set_option maxRecDepth 100000 in
set_option maxHeartbeats 4000000 in
theorem rnext_any (s : ByteArray) (w : World) (hs : s.size ≤ 1000000) : Calls Tryz.prog 45 #[.string s] w fun e w' =>
    e = .returned (.tuple #[.int .i64 (nextR s.data.toList).1, .int .i64 (nextR s.data.toList).2.1, .int .i64 (nextR s.data.toList).2.2]) ∧ Fr (fun _ => False) w w' := by
  have hl : s.data.toList.length = s.size := rfl
  obtain ⟨r1, r2, r3, hr⟩ : ∃ a b c, nextR s.data.toList = (a, b, c) := ⟨_, _, _, rfl⟩
  rw [hr]
  have HR := hide hr
  clear hr
  by_cases h1 : 1 ≤ s.size
  · have hE := ne_empty h1
    have hE2 := ne_nil h1
    go_enter Tryz.func45, Tryz.ntmps45
    go_wp2_with fail
    go_loopw [5] (fun i wr => ∃ k : Nat, 1 ≤ k ∧ k ≤ 5 ∧ i = .int .i64 k ∧ Hid (Fr (fun _ => False) w wr) ∧ Hid (∀ m, m < k → refOk s.data.toList m = false)) (fun i _ => 5 - (intOf i).toNat)
    case atStart => exact ⟨1, by omega, by omega, rfl, Fr.refl _ _, fun m hm => by simp [refOk]; omega⟩
    case round =>
      obtain ⟨k, hk1, hk5, rfl, hfr, hno⟩ := hrel
      by_cases hk : k ≤ 4 ∧ k ≤ s.size
      · obtain ⟨hk4, hks⟩ := hk
        have HN := hide (rnum_any s k wr hk1 hk4 hks)
        have HS : Hid (∀ m, m < k + 1 → m ≠ k → refOk s.data.toList m = false) := fun m hm hne => hno.out m (by omega)
        cases hc : isC (refNum s.data.toList k) with
        | false =>
          have hok := hide (show refOk s.data.toList k = false by simp [refOk, hc])
          have HI := fun W => ris_any (refNum s.data.toList k) W
          rw [hc] at HI
          have HI := hide HI
          clear hc
          generalize refNum s.data.toList k = c at *
          go_wp2_with fail
          refine HN.out.mono ?_
          rintro e w1 ⟨rfl, f1⟩
          go_wp2_with fail
          go_quiet ((go_at_call 87; exact quiet_left (HI.out _)))
          go_wp2_with fail
          go_roundw
          case rel => exact ⟨k + 1, by omega, by omega, by go_num, (hfr.out.trans f1).drewN _, fun m hm => by
            by_cases hmk : m = k
            · rw [hmk]; exact hok.out
            · exact HS.out m hm hmk⟩
          case measure => simp [intOf]; omega
        | true =>
          have HI := fun W => ris_any (refNum s.data.toList k) W
          rw [hc] at HI
          have HI := hide HI
          have HP := fun W => rput_any (refNum s.data.toList k) W
          by_cases hp : putL (refNum s.data.toList k) = s.data.toList.take k
          · have hok : refOk s.data.toList k = true := by
              simp only [refOk, Bool.and_eq_true, decide_eq_true_eq]
              exact ⟨⟨⟨hk1, hk4, by omega⟩, hc⟩, hp⟩
            have he : (⟨(putL (refNum s.data.toList k)).toArray⟩ : ByteArray) = s.extract 0 k := bytes_ext (by rw [extract_zero, hp])
            rw [he] at HP
            have HP := hide HP
            have hres := HR.out
            rw [refOk_nextR hok] at hres
            simp only [Prod.mk.injEq] at hres
            obtain ⟨hr1, rfl, rfl⟩ := hres
            clear hc hp hok he HS hno HR
            generalize refNum s.data.toList k = c at *
            subst hr1
            go_wp2_with fail
            refine HN.out.mono ?_
            rintro e w1 ⟨rfl, f1⟩
            go_wp2_with fail
            go_region_held3 (fun _ => True) (first | trivial)
              (first
                | (go_at_call 87; refine (HI.out _).mono ?_; rintro e w2 ⟨rfl, rfl⟩)
                | (go_at_call 88; refine (HP.out _).mono ?_; rintro e w2 ⟨rfl, f2⟩))
            go_wp2_with fail
            go_returns
            exact ⟨rfl, (hfr.out.trans f1).then_ (Fr.trans (Fr.drew (Fr.refl _ _)) f2) (fun _ _ h => h)⟩
          · have hok := hide (show refOk s.data.toList k = false by
              cases hq : refOk s.data.toList k with
              | false => rfl
              | true =>
                simp only [refOk, Bool.and_eq_true, decide_eq_true_eq] at hq
                exact absurd hq.2 hp)
            have hne := str_ne (P := ⟨(putL (refNum s.data.toList k)).toArray⟩) (Q := s.extract 0 k) (fun hq => hp (by rw [← extract_zero, ← hq]))
            generalize (⟨(putL (refNum s.data.toList k)).toArray⟩ : ByteArray) = P at *
            have HP := hide HP
            clear hc hp
            generalize refNum s.data.toList k = c at *
            go_wp2_with fail
            refine HN.out.mono ?_
            rintro e w1 ⟨rfl, f1⟩
            go_wp2_with fail
            go_region_held3 (fun _ => True) (first | trivial)
              (first
                | (go_at_call 87; refine (HI.out _).mono ?_; rintro e w2 ⟨rfl, rfl⟩)
                | (go_at_call 88; refine (HP.out _).mono ?_; rintro e w2 ⟨rfl, f2⟩))
            go_wp2_with fail
            go_roundw
            case rel => exact ⟨k + 1, by omega, by omega, by go_num, (hfr.out.trans f1).then_ (Fr.trans (Fr.drew (Fr.refl _ _)) f2) (fun _ _ h => h), fun m hm => by
              by_cases hmk : m = k
              · rw [hmk]; exact hok.out
              · exact HS.out m hm hmk⟩
            case measure => simp [intOf]; omega
      · have hn : nextL s.data.toList = none := by
          cases hq : nextL s.data.toList with
          | none => rfl
          | some r =>
            obtain ⟨x, m⟩ := r
            obtain ⟨-, -, -, g1, g2, g3⟩ := nextL_some hq
            have := hno.out m (by omega)
            rw [(refOk_len hq).1] at this
            cases this
        have hres := HR.out
        rw [nextR_none hn (fun h0 => by rw [h0] at hl; simp at hl; omega)] at hres
        simp only [Prod.mk.injEq] at hres
        obtain ⟨rfl, rfl, rfl⟩ := hres
        clear hn
        have hor : 4 < k ∨ (k ≤ 4 ∧ s.size < k) := by omega
        clear hk
        rcases hor with g1 | ⟨g1, g2⟩
        all_goals
          go_wp2_with fail
          go_returns
          exact ⟨rfl, hfr.out⟩
  · have h0 : s.data.toList = [] := List.eq_nil_of_length_eq_zero (by omega)
    have hE : s.toList.isEmpty = true := by rw [toList_data, h0]; rfl
    have hE2 : s.toList = [] := by rw [toList_data, h0]
    have hres := HR.out
    rw [h0] at hres
    simp only [nextR, nextL_nil, if_true, Prod.mk.injEq] at hres
    obtain ⟨rfl, rfl, rfl⟩ := hres
    clear h0
    go_enter Tryz.func45, Tryz.ntmps45
    go_wp2_with fail
    go_returns
    exact ⟨rfl, Fr.refl _ _⟩

set_option maxRecDepth 100000 in
set_option maxHeartbeats 2000000 in
theorem rvalid_any (s : ByteArray) (w : World) (hs : s.size ≤ 1000000) : Calls Tryz.prog 19 #[.string s] w fun e w' =>
    e = .returned (.tuple #[.int .i64 (validR s.data.toList).1, .int .i64 (validR s.data.toList).2]) ∧ Fr (fun _ => False) w w' := by
  have hl : s.data.toList.length = s.size := rfl
  obtain ⟨r1, r2, hr⟩ : ∃ a b, validR s.data.toList = (a, b) := ⟨_, _, rfl⟩
  rw [hr]
  unfold validR at hr
  rw [hl] at hr
  have HR := hide hr
  clear hr
  go_enter Tryz.func19, Tryz.ntmps19
  go_wp2_with fail
  go_loopw [4] (fun i wr => ∃ p f : Nat, p ≤ s.size ∧ i = .int .i64 p ∧ Hid (Fr (fun _ => False) w wr) ∧ Hid (p + goodL f (s.data.toList.drop p) = goodL s.size s.data.toList ∧ s.size ≤ p + f)) (fun i _ => s.size - (intOf i).toNat)
  case atStart => exact ⟨0, s.size, by omega, rfl, Fr.refl _ _, by simp, by omega⟩
  case round =>
    obtain ⟨p, f, hps, rfl, hfr, hg⟩ := hrel
    by_cases hp : p < s.size
    · obtain ⟨f, rfl⟩ : ∃ f', f = f' + 1 := ⟨f - 1, by have := hg.out.2; omega⟩
      have hext : (s.extract p s.size).data.toList = s.data.toList.drop p := extract_to_end s p
      have hsz : (s.extract p s.size).size ≤ 1000000 := by
        have : (s.extract p s.size).data.toList.length = (s.extract p s.size).size := rfl
        rw [hext, List.length_drop] at this
        omega
      have HN := rnext_any (s.extract p s.size) wr hsz
      rw [hext] at HN
      cases hn : nextL (s.data.toList.drop p) with
      | some r =>
        obtain ⟨x, k⟩ := r
        obtain ⟨-, -, -, g1, g2, g3⟩ := nextL_some hn
        rw [List.length_drop] at g1
        simp only [nextR, hn] at HN
        have HN := hide HN
        have hgo := hg.out.1
        simp only [goodL, hn, List.drop_drop] at hgo
        have HG := hide hgo
        have hpk : p + k ≤ s.size := by omega
        clear hn hgo hext hsz g1
        go_wp2_with (go_at_call 45; refine HN.out.mono ?_; rintro e w1 ⟨rfl, f1⟩)
        go_roundw
        case rel => exact ⟨p + k, f, by omega, by go_num, hfr.out.trans f1, by have := HG.out; omega, by have := hg.out.2; omega⟩
        case measure => simp [intOf]; omega
      | none =>
        rw [nextR_none hn (fun h0 => by have := congrArg List.length h0; rw [List.length_drop] at this; simp at this; omega)] at HN
        have HN := hide HN
        have hgo := hg.out.1
        simp only [goodL, hn, Nat.add_zero] at hgo
        have hres := HR.out
        rw [← hgo, if_pos hp] at hres
        simp only [Prod.mk.injEq] at hres
        obtain ⟨rfl, rfl⟩ := hres
        clear hn hgo hext hsz
        go_wp2_with (go_at_call 45; refine HN.out.mono ?_; rintro e w1 ⟨rfl, f1⟩)
        go_returns
        exact ⟨rfl, hfr.out.trans f1⟩
    · obtain rfl : p = s.size := by omega
      have hgo := hg.out.1
      have hres := HR.out
      rw [← hgo, if_neg (by omega)] at hres
      simp only [Prod.mk.injEq] at hres
      obtain ⟨rfl, rfl⟩ := hres
      clear hgo
      go_wp2_with fail
      go_returns
      exact ⟨rfl, hfr.out⟩
end Go.Proofs.YtalbehjjgdedcaaGreatDoor
