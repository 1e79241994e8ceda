/- the reference's entity layer: begins, digit, number, Reference, Decode, Encode. -/
import Derived.Test.YtalbehjjgdedcaaGreatDoorEnt5
import Derived.Test.YtalbehjjgdedcaaGreatDoorEntE
namespace Go.Proofs.YtalbehjjgdedcaaGreatDoor
open Go.RowKit Go.Lib
attribute [local go_sem ↓] Go.wp_at_zero Go.wp_at_succ

theorem app_data (a b : ByteArray) : (a ++ b).data.toList = a.data.toList ++ b.data.toList := by simp
theorem begins_any (s t : ByteArray) (w : World) (hs : s.size ≤ 1000000) (ht : t.size ≤ 1000000) : Calls Tryz.prog 103 #[.string s, .string t] w fun e w' => e = .returned (.bool (hasPrefix s.data.toList t.data.toList)) ∧ w = w' := by
  rw [← hasPrefix_raw]
  by_cases h : t.size ≤ s.size
  · have hi : (t.size : Int) ≤ s.size := by omega
    rw [decide_eq_true h, Bool.true_and]
    go_enter Tryz.func103, Tryz.ntmps103
    go_wp2
    go_ret
    exact ⟨rfl, rfl⟩
  · have hi : ¬ (t.size : Int) ≤ s.size := by omega
    rw [decide_eq_false h, Bool.false_and]
    go_enter Tryz.func103, Tryz.ntmps103
    go_wp2
    go_ret
    exact ⟨rfl, rfl⟩

set_option maxHeartbeats 2000000 in
theorem digit_any (b : UInt8) (w : World) : Calls Tryz.prog 133 #[.int .u8 (b.toNat : Int)] w fun e w' => e = .returned (.int .i64 (digV b)) ∧ w = w' := by
  have hb := UInt8.toNat_lt b
  unfold digV
  by_cases h1 : 48 ≤ b.toNat ∧ b.toNat ≤ 57
  · rw [if_pos h1]
    have a1 : (48 : Int) ≤ b.toNat := by omega
    have a2 : (b.toNat : Int) ≤ 57 := by omega
    clear h1
    go_enter Tryz.func133, Tryz.ntmps133
    go_wp2
    go_ret
    exact ⟨rfl, rfl⟩
  · rw [if_neg h1]
    by_cases h2 : 97 ≤ b.toNat ∧ b.toNat ≤ 102
    · rw [if_pos h2]
      have a1 : (57 : Int) < b.toNat := by omega
      have a2 : (97 : Int) ≤ b.toNat := by omega
      have a3 : (b.toNat : Int) ≤ 102 := by omega
      clear h1 h2
      go_enter Tryz.func133, Tryz.ntmps133
      go_wp2
      go_ret
      refine ⟨?_, rfl⟩
      show Ending.returned (.int .i64 ((b.toNat : Int) - 97 + 10)) = _
      congr 2; omega
    · rw [if_neg h2]
      by_cases h3 : 65 ≤ b.toNat ∧ b.toNat ≤ 70
      · rw [if_pos h3]
        have a1 : (57 : Int) < b.toNat := by omega
        have a2 : (b.toNat : Int) < 97 := by omega
        have a3 : (65 : Int) ≤ b.toNat := by omega
        have a4 : (b.toNat : Int) ≤ 70 := by omega
        clear h1 h2 h3
        go_enter Tryz.func133, Tryz.ntmps133
        go_wp2
        go_ret
        refine ⟨?_, rfl⟩
        show Ending.returned (.int .i64 ((b.toNat : Int) - 65 + 10)) = _
        congr 2; omega
      · rw [if_neg h3]
        have hc : ((b.toNat : Int) < 48) ∨ ((57 : Int) < b.toNat ∧ (b.toNat : Int) < 65) ∨ ((57 : Int) < b.toNat ∧ (b.toNat : Int) < 97 ∧ (70 : Int) < b.toNat) ∨ ((57 : Int) < b.toNat ∧ (102 : Int) < b.toNat) := by omega
        clear h1 h2 h3
        rcases hc with a1 | ⟨a1, a2⟩ | ⟨a1, a2, a3⟩ | ⟨a1, a2⟩
        all_goals
          go_enter Tryz.func133, Tryz.ntmps133
          go_wp2
          go_ret
          exact ⟨rfl, rfl⟩

theorem digV_lt (b : UInt8) : -1 ≤ digV b ∧ digV b < 16 := by
  unfold digV
  repeat' split
  all_goals omega
theorem byte_ne {a b : UInt8} (h : a ≠ b) : ¬ (a.toNat : Int) = b.toNat := fun e => h (UInt8.toNat_inj.1 (by omega))

set_option maxRecDepth 100000 in
set_option maxHeartbeats 4000000 in
theorem rnumber_any (base : Int) (most : Nat) (hb : base = 10 ∨ base = 16) (hm : most ≤ 7) (t : ByteArray) (w : World) (hts : t.size ≤ 1000000) :
    Calls Tryz.prog 104 #[.string t, .int .i64 base, .int .i64 most] w fun e w' => e = .returned (.tuple #[.string ⟨(numR base most t.data.toList).1.toArray⟩, .int .i64 (numR base most t.data.toList).2]) ∧ Fr (fun _ => False) w w' := by
  have hl : t.data.toList.length = t.size := rfl
  have hbb : 10 ≤ base ∧ base ≤ 16 := by omega
  obtain ⟨hb0, hb1⟩ := hbb
  obtain ⟨R, hR⟩ : ∃ R, numR base most t.data.toList = R := ⟨_, rfl⟩
  rw [hR]
  have HR := hide hR
  clear hR
  go_enter Tryz.func104, Tryz.ntmps104
  go_wp2_with fail
  go_loopw [8, 9] (fun n i wr => ∃ (a : Int) (k : Nat), n = .int .i64 a ∧ i = .int .i64 k ∧ k ≤ most ∧ k ≤ t.size ∧ 0 ≤ a ∧ w = wr ∧ Hid (a < 16 ^ k ∧ spanD base most t.data.toList = k + spanD base (most - k) (t.data.toList.drop k) ∧ valL base (t.data.toList.take (spanD base most t.data.toList)) 0 = valL base ((t.data.toList.drop k).take (spanD base (most - k) (t.data.toList.drop k))) a)) (fun _ i _ => most - (Go.RowKit.intOf i).toNat)
  case atStart => exact ⟨0, 0, rfl, rfl, by omega, by omega, by omega, rfl, by decide, by simp, by simp⟩
  case round =>
    obtain ⟨a, k, rfl, rfl, hkm, hkt, ha, rfl, hh⟩ := hrel
    have hpow : (16 : Int) ^ k ≤ 268435456 := by
      have h3 : ∀ k, k ≤ 7 → (16 : Int) ^ k ≤ 268435456 := by
        intro k hk
        match k, hk with
        | 0, _ => decide
        | 1, _ => decide
        | 2, _ => decide
        | 3, _ => decide
        | 4, _ => decide
        | 5, _ => decide
        | 6, _ => decide
        | 7, _ => decide
      exact h3 k (by omega)
    have ha2 : a < 268435456 := by have := hh.out.1; omega
    clear hpow
    have hout : spanD base (most - k) (t.data.toList.drop k) = 0 → spanD base most t.data.toList = k ∧ valL base (t.data.toList.take k) 0 = a := fun h0 => by
      have h2 := hh.out.2
      rw [h0] at h2
      refine ⟨h2.1, ?_⟩
      have h3 := h2.2
      rw [h2.1] at h3
      simpa [valL] using h3
    have HO := hide hout
    clear hout
    -- the loop's end
    have hend : spanD base (most - k) (t.data.toList.drop k) = 0 → R = if k = 0 ∨ t.data.toList[k]? ≠ some 59 then ([], 0) else (putL a, k) := fun h0 => by
      obtain ⟨h1, h2⟩ := HO.out h0
      rw [← HR.out]
      unfold numR
      rw [h1, h2]
    have HE := hide hend
    clear hend
    by_cases hkk : k < t.size
    · have hki : (k : Int) < (t.size : Int) := by omega
      have hcons : t.data.toList.drop k = t[k]'hkk :: t.data.toList.drop (k + 1) := by
        rw [List.drop_eq_getElem_cons (by omega)]
        rfl
      have hget : t.data.toList[k]? = some (t[k]'hkk) := data_getElem? t k hkk
      obtain ⟨hd1, hd2⟩ := digV_lt (t[k]'hkk)
      by_cases hdig : k < most ∧ digB base (t[k]'hkk) = true
      · obtain ⟨hkmo, hdig⟩ := hdig
        have hdd := hdig
        simp only [digB, decide_eq_true_eq] at hdd
        obtain ⟨d0, d1⟩ := hdd
        have hkmi : (k : Int) < (most : Int) := by omega
        have HD := hide (digit_any (t[k]'hkk))
        have hspan : spanD base (most - k) (t.data.toList.drop k) = spanD base (most - (k + 1)) (t.data.toList.drop (k + 1)) + 1 := by
          rw [hcons, show most - k = (most - (k + 1)) + 1 by omega]
          conv => lhs; unfold spanD
          rw [if_pos hdig]
        have hnew : a * base + digV (t[k]'hkk) < 16 ^ (k + 1) ∧ spanD base most t.data.toList = k + 1 + spanD base (most - (k + 1)) (t.data.toList.drop (k + 1)) ∧ valL base (t.data.toList.take (spanD base most t.data.toList)) 0 = valL base ((t.data.toList.drop (k + 1)).take (spanD base (most - (k + 1)) (t.data.toList.drop (k + 1)))) (a * base + digV (t[k]'hkk)) := by
          obtain ⟨h1, h2, h3⟩ := hh.out
          refine ⟨?_, by rw [h2, hspan]; omega, ?_⟩
          · rw [Int.pow_succ]
            rcases hb with rfl | rfl <;> omega
          · rw [h3, hspan, hcons, List.take_succ_cons]
            rfl
        have HN := hide hnew
        have hmul : a * base ≤ a * 16 := Int.mul_le_mul_of_nonneg_left hb1 ha
        have hmul0 : 0 ≤ a * base := Int.mul_nonneg ha (by omega)
        have e1 : IntKind.i64.wrap (a * base) = a * base := IntWalk.i64_in _ (by omega)
        clear hnew hspan hdig hcons hget
        generalize digV (t[k]'hkk) = d at *
        have e2 : IntKind.i64.wrap (a * base + d) = a * base + d := IntWalk.i64_in _ (by omega)
        have hn0 : 0 ≤ a * base + d := by omega
        clear hmul hmul0
        go_wp2_with (go_at_call 133; refine (HD.out _).mono ?_; rintro e w1 ⟨rfl, rfl⟩)
        go_roundw
        case rel => exact ⟨a * base + d, k + 1, rfl, by go_num, by omega, by omega, hn0, by trivial, HN.out⟩
        case measure => simp [Go.RowKit.intOf]; omega
      · have hz : spanD base (most - k) (t.data.toList.drop k) = 0 := by
          rw [hcons]
          cases hmk : most - k with
          | zero => rfl
          | succ m =>
            unfold spanD
            rw [if_neg (fun h => hdig ⟨by omega, h⟩)]
        have hres := HE.out hz
        rw [hget] at hres
        have HD := hide (digit_any (t[k]'hkk))
        have hcs : ¬ k < most ∨ (k < most ∧ digV (t[k]'hkk) < 0) ∨ (k < most ∧ 0 ≤ digV (t[k]'hkk) ∧ base ≤ digV (t[k]'hkk)) := by
          by_cases h1 : k < most
          · right
            by_cases h2 : digV (t[k]'hkk) < 0
            · exact .inl ⟨h1, h2⟩
            · refine .inr ⟨h1, by omega, ?_⟩
              have h3 : ¬ digB base (t[k]'hkk) = true := fun h => hdig ⟨h1, h⟩
              simp only [digB, decide_eq_true_eq] at h3
              omega
          · exact .inl h1
        have HP := hide (rput_any a)
        clear hz hcons hget hdig
        generalize digV (t[k]'hkk) = d at *
        by_cases hk0 : k = 0
        · subst hk0
          rw [if_pos (.inl rfl)] at hres
          subst hres
          rcases hcs with h1 | ⟨h1, h2⟩ | ⟨h1, h2, h3⟩
          · have h1 : ¬ (0 : Int) < (most : Int) := by omega
            go_wp2_with (go_at_call 133; refine (HD.out _).mono ?_; rintro e w1 ⟨rfl, rfl⟩)
            go_ret2
            exact ⟨rfl, Fr.refl _ _⟩
          · have h1 : (0 : Int) < (most : Int) := by omega
            go_wp2_with (go_at_call 133; refine (HD.out _).mono ?_; rintro e w1 ⟨rfl, rfl⟩)
            go_ret2
            exact ⟨rfl, Fr.refl _ _⟩
          · have h1 : (0 : Int) < (most : Int) := by omega
            go_wp2_with (go_at_call 133; refine (HD.out _).mono ?_; rintro e w1 ⟨rfl, rfl⟩)
            go_ret2
            exact ⟨rfl, Fr.refl _ _⟩
        · have hkb : ((k : Int) == 0) = false := by simp; omega
          by_cases h59 : t[k]'hkk = 59
          · rw [if_neg (by rw [h59]; simp [hk0])] at hres
            subst hres
            have hb59 : (((t[k]'hkk).toNat : Int) != 59) = false := by rw [h59]; rfl
            clear h59 hk0
            rcases hcs with h1 | ⟨h1, h2⟩ | ⟨h1, h2, h3⟩
            · have h1 : ¬ (k : Int) < (most : Int) := by omega
              go_wp2_with (first
                | (go_at_call 133; refine (HD.out _).mono ?_; rintro e w1 ⟨rfl, rfl⟩)
                | (go_at_call 88; refine (HP.out _).mono ?_; rintro e w2 ⟨rfl, f2⟩))
              go_ret2
              exact ⟨rfl, f2⟩
            · have h1 : (k : Int) < (most : Int) := by omega
              go_wp2_with (first
                | (go_at_call 133; refine (HD.out _).mono ?_; rintro e w1 ⟨rfl, rfl⟩)
                | (go_at_call 88; refine (HP.out _).mono ?_; rintro e w2 ⟨rfl, f2⟩))
              go_ret2
              exact ⟨rfl, f2⟩
            · have h1 : (k : Int) < (most : Int) := by omega
              go_wp2_with (first
                | (go_at_call 133; refine (HD.out _).mono ?_; rintro e w1 ⟨rfl, rfl⟩)
                | (go_at_call 88; refine (HP.out _).mono ?_; rintro e w2 ⟨rfl, f2⟩))
              go_ret2
              exact ⟨rfl, f2⟩
          · rw [if_pos (.inr (by simp [h59]))] at hres
            subst hres
            have hb59 : (((t[k]'hkk).toNat : Int) != 59) = true := by
              have := byte_ne h59
              simpa using this
            clear h59 hk0
            rcases hcs with h1 | ⟨h1, h2⟩ | ⟨h1, h2, h3⟩
            · have h1 : ¬ (k : Int) < (most : Int) := by omega
              go_wp2_with (go_at_call 133; refine (HD.out _).mono ?_; rintro e w1 ⟨rfl, rfl⟩)
              go_ret2
              exact ⟨rfl, Fr.refl _ _⟩
            · have h1 : (k : Int) < (most : Int) := by omega
              go_wp2_with (go_at_call 133; refine (HD.out _).mono ?_; rintro e w1 ⟨rfl, rfl⟩)
              go_ret2
              exact ⟨rfl, Fr.refl _ _⟩
            · have h1 : (k : Int) < (most : Int) := by omega
              go_wp2_with (go_at_call 133; refine (HD.out _).mono ?_; rintro e w1 ⟨rfl, rfl⟩)
              go_ret2
              exact ⟨rfl, Fr.refl _ _⟩
    · obtain rfl : k = t.size := by omega
      have hres := HE.out (by rw [List.drop_of_length_le (by omega)]; cases most - t.size <;> rfl)
      rw [if_pos (.inr (by rw [List.getElem?_eq_none (by omega)]; simp))] at hres
      subst hres
      clear HO HE hh
      by_cases hk0 : t.size = 0
      · have hkb : ((t.size : Int) == 0) = true := by rw [hk0]; rfl
        go_wp2_with fail
        go_ret2
        exact ⟨rfl, Fr.refl _ _⟩
      · have hkb : ((t.size : Int) == 0) = false := by rw [beq_eq_false_iff_ne]; omega
        go_wp2_with fail
        go_ret2
        exact ⟨rfl, Fr.refl _ _⟩

/-! Reference -/
theorem find_first {α : Type} (q : α → Bool) : ∀ (l : List α) (i : Nat) (p : α), l[i]? = some p → q p = true → (∀ x ∈ l.take i, q x = false) → l.find? q = some p
  | [], i, p, h, _, _ => by simp at h
  | x :: l, 0, p, h, hq, _ => by
    simp only [List.getElem?_cons_zero, Option.some.injEq] at h
    subst h
    rw [List.find?_cons, hq]
  | x :: l, i + 1, p, h, hq, hn => by
    rw [List.find?_cons, hn x (by simp)]
    exact find_first q l i p (by simpa using h) hq (fun y hy => hn y (by simp [hy]))

def nameQ (l : List UInt8) (p : List UInt8 × List UInt8) : Bool := hasPrefix l (38 :: (p.1 ++ [59]))
theorem name_idx (i : Nat) (h : i < 5) : ∃ p : List UInt8 × List UInt8, nameL[i]? = some p ∧ p.1.length ≤ 4 ∧ (⟨#[38, 60, 62, 34, 39]⟩ : ByteArray).extract i (i + 1) = ⟨p.2.toArray⟩ ∧
    #[Value.string ⟨#[38, 97, 109, 112, 59]⟩, .string ⟨#[38, 108, 116, 59]⟩, .string ⟨#[38, 103, 116, 59]⟩, .string ⟨#[38, 113, 117, 111, 116, 59]⟩, .string ⟨#[38, 97, 112, 111, 115, 59]⟩][i]? = some (.string ⟨(38 :: (p.1 ++ [59])).toArray⟩) := by
  match i, h with
  | 0, _ => exact ⟨_, rfl, by decide, by decide, rfl⟩
  | 1, _ => exact ⟨_, rfl, by decide, by decide, rfl⟩
  | 2, _ => exact ⟨_, rfl, by decide, by decide, rfl⟩
  | 3, _ => exact ⟨_, rfl, by decide, by decide, rfl⟩
  | 4, _ => exact ⟨_, rfl, by decide, by decide, rfl⟩
theorem headR_len (l : List UInt8) : (headR l).2.1 ≤ l.length ∧ (headR l).2.2 ≤ 3 := by
  have hn : ∀ b m (l : List UInt8), (numR b m l).2 ≤ l.length := fun b m l => by
    unfold numR
    split
    · simp
    · exact (spanD_le b m l).2
  unfold headR
  split
  · have := hn 16 6 (l.drop 3)
    rw [List.length_drop] at this
    exact ⟨by simp only; omega, by simp⟩
  · split
    · have := hn 10 7 (l.drop 2)
      rw [List.length_drop] at this
      exact ⟨by simp only; omega, by simp⟩
    · simp

set_option maxRecDepth 100000 in
set_option maxHeartbeats 4000000 in
theorem rreference_any (s : ByteArray) (w : World) (hs : s.size ≤ 100000) :
    Calls Tryz.prog 66 #[.string s] w fun e w' => e = .returned (.tuple #[.string ⟨(refP s.data.toList).1.toArray⟩, .int .i64 (refP s.data.toList).2]) ∧ Fr (fun _ => False) w w' := by
  have hl : s.data.toList.length = s.size := rfl
  rw [← refR_eq]
  obtain ⟨R, hR⟩ : ∃ R, refR s.data.toList = R := ⟨_, rfl⟩
  rw [hR]
  have HR := hide hR
  clear hR
  have HB0 := hide (heap_alloc_new w (.cells #[.string ⟨#[38, 97, 109, 112, 59]⟩, .string ⟨#[38, 108, 116, 59]⟩, .string ⟨#[38, 103, 116, 59]⟩, .string ⟨#[38, 113, 117, 111, 116, 59]⟩, .string ⟨#[38, 97, 112, 111, 115, 59]⟩] 9))
  go_enter Tryz.func66, Tryz.ntmps66
  go_wp2_with fail
  go_loopw [5] (fun i wr => ∃ k : Nat, k ≤ 5 ∧ i = .int .i64 k ∧ Hid (wr.heap[w.heap.size]? = some (.cells #[.string ⟨#[38, 97, 109, 112, 59]⟩, .string ⟨#[38, 108, 116, 59]⟩, .string ⟨#[38, 103, 116, 59]⟩, .string ⟨#[38, 113, 117, 111, 116, 59]⟩, .string ⟨#[38, 97, 112, 111, 115, 59]⟩] 9 (0, 0))) ∧ Hid (Fr (fun _ => False) w wr) ∧ Hid (∀ x ∈ nameL.take k, nameQ s.data.toList x = false)) (fun i _ => 5 - (Go.RowKit.intOf i).toNat)
  case atStart => exact ⟨0, by omega, rfl, HB0.out, Fr.alloc (Fr.refl _ _) _, fun x hx => absurd hx (by simp)⟩
  case round =>
    obtain ⟨k, hk, rfl, hb, hfr, hno⟩ := hrel
    by_cases hk5 : k < 5
    · obtain ⟨p, p1, p2, p3, p4⟩ := name_idx k hk5
      have hcell : wr.cell? ⟨w.heap.size, k, none⟩ = some (.string ⟨(38 :: (p.1 ++ [59])).toArray⟩) := by
        rw [cell_of_row _ w.heap.size k _ _ _ hb.out]
        exact p4
      have hki : (k : Int) < 5 := by omega
      have hpz : (⟨(38 :: (p.1 ++ [59])).toArray⟩ : ByteArray).size = p.1.length + 2 := by
        show (38 :: (p.1 ++ [59])).toArray.size = _
        simp
      have HBG := begins_any s ⟨(38 :: (p.1 ++ [59])).toArray⟩ wr (by omega) (by rw [hpz]; omega)
      simp only at HBG
      obtain ⟨P, hP⟩ : ∃ P : ByteArray, (⟨(38 :: (p.1 ++ [59])).toArray⟩ : ByteArray) = P := ⟨_, rfl⟩
      rw [hP] at hcell HBG hpz
      have hsl : ∀ W : World, (Instr.slice 9 (.string ⟨#[38, 60, 62, 34, 39]⟩) (some (.int .i64 (k : Int))) (some (.int .i64 ((k : Int) + 1))) none).run Tryz.prog W = .ok (.string ⟨p.2.toArray⟩) W := fun W => by
        rw [run_slice_string (P := Tryz.prog) W 9 _ .i64 .i64 k (k + 1) Tryz.underlying9 (by omega) (by omega) (by show (k : Int) + 1 ≤ 5; omega)]
        rw [show ((k : Int)).toNat = k by omega, show ((k : Int) + 1).toNat = k + 1 by omega, p3]
      have ek : IntKind.i64.wrap ((k : Int) + 1) = (k : Int) + 1 := IntWalk.i64_in _ (by omega)
      have hkz : (0 : Int) ≤ k := by omega
      cases hq : nameQ s.data.toList p with
      | true =>
        have hres := HR.out
        unfold refR at hres
        rw [show nameL.find? (fun p => hasPrefix s.data.toList (38 :: (p.1 ++ [59]))) = some p from find_first (nameQ s.data.toList) nameL k p p1 hq hno.out] at hres
        simp only at hres
        unfold nameQ at hq
        rw [hq] at HBG
        have HBG := hide HBG
        subst hres
        clear hq p1 p3 p4 hP
        go_wp2_with (go_at_call 103; refine HBG.out.mono ?_; rintro e w1 ⟨rfl, rfl⟩)
        go_region
        go_wp2_with fail
        go_ret2
        exact ⟨rfl, hfr.out.drew⟩
      | false =>
        have HN := hide (show ∀ x ∈ nameL.take (k + 1), nameQ s.data.toList x = false by
          intro x hx
          rw [List.take_add_one, p1, Option.toList_some, List.mem_append, List.mem_singleton] at hx
          rcases hx with hx | rfl
          · exact hno.out x hx
          · exact hq)
        unfold nameQ at hq
        rw [hq] at HBG
        have HBG := hide HBG
        clear hq p1 p3 p4 hP hsl
        go_wp2_with (go_at_call 103; refine HBG.out.mono ?_; rintro e w1 ⟨rfl, rfl⟩)
        go_roundw
        case rel => exact ⟨k + 1, by omega, by go_num, hb.out, hfr.out, HN.out⟩
        case measure => simp [Go.RowKit.intOf]; omega
    · obtain rfl : k = 5 := by omega
      have hres := HR.out
      unfold refR at hres
      rw [show nameL.find? (fun p => hasPrefix s.data.toList (38 :: (p.1 ++ [59]))) = none from List.find?_eq_none.2 (fun x hx => by
        have := hno.out x hx
        unfold nameQ at this
        simp [this])] at hres
      simp only at hres
      have hhl := headR_len s.data.toList
      have HX := begins_any s ⟨#[38, 35, 120]⟩ wr (by omega) (by show (3 : Nat) ≤ _; omega)
      have HD := begins_any s ⟨#[38, 35]⟩ wr (by omega) (by show (2 : Nat) ≤ _; omega)
      simp only at HX HD
      have hne : ∀ l : List UInt8, l ≠ [] → (⟨l.toArray⟩ : ByteArray).toList.isEmpty = false ∧ ¬ (⟨l.toArray⟩ : ByteArray).toList = [] := fun l h => by
        have : 1 ≤ (⟨l.toArray⟩ : ByteArray).size := by
          show 1 ≤ l.toArray.size
          rw [List.size_toArray]
          exact List.length_pos_iff.2 h
        exact ⟨ne_empty this, ne_nil this⟩
      have HNE := hide hne
      clear hne
      cases hx : hasPrefix s.data.toList [38, 35, 120] with
      | true =>
        have hlen3 : 3 ≤ s.size := by
          have := (List.isPrefixOf_iff_prefix.1 hx).length_le
          simp only [List.length_cons, List.length_nil] at this
          omega
        have hext : (s.extract 3 s.size).data.toList = s.data.toList.drop 3 := extract_to_end s 3
        have hsz : (s.extract 3 s.size).size ≤ 1000000 := by
          have : (s.extract 3 s.size).data.toList.length = (s.extract 3 s.size).size := rfl
          rw [hext, List.length_drop] at this
          omega
        have HN := rnumber_any 16 6 (by decide) (by omega) (s.extract 3 s.size) wr hsz
        rw [hext] at HN
        simp only [Int.cast_ofNat_Int] at HN
        have hh : headR s.data.toList = ((numR 16 6 (s.data.toList.drop 3)).1, (numR 16 6 (s.data.toList.drop 3)).2, 3) := by unfold headR; rw [if_pos hx]
        rw [hx] at HX
        rw [hh] at hres hhl
        simp only at hres hhl
        have HX := hide HX
        have HN := hide HN
        clear hx hh hext hsz HD
        generalize (numR 16 6 (s.data.toList.drop 3)).1 = c at *
        generalize (numR 16 6 (s.data.toList.drop 3)).2 = j at *
        by_cases hc : c = []
        · rw [if_pos hc] at hres
          subst hres
          subst hc
          go_wp2_with (first
            | (go_at_call 103; go_fit HX.out; rintro e w1 ⟨rfl, rfl⟩)
            | (go_at_call 104; refine HN.out.mono ?_; rintro e w2 ⟨rfl, f2⟩))
          go_ret2
          exact ⟨rfl, hfr.out.trans f2⟩
        · rw [if_neg hc] at hres
          subst hres
          obtain ⟨hE, hE2⟩ := HNE.out c hc
          have hcE : c.isEmpty = false := by
            cases c with
            | nil => exact absurd rfl hc
            | cons a b => rfl
          go_wp2_with (first
            | (go_at_call 103; go_fit HX.out; rintro e w1 ⟨rfl, rfl⟩)
            | (go_at_call 104; refine HN.out.mono ?_; rintro e w2 ⟨rfl, f2⟩))
          go_ret2
          exact ⟨rfl, hfr.out.trans f2⟩
      | false =>
        rw [hx] at HX
        cases hd : hasPrefix s.data.toList [38, 35] with
        | true =>
          have hlen3 : 2 ≤ s.size := by
            have := (List.isPrefixOf_iff_prefix.1 hd).length_le
            simp only [List.length_cons, List.length_nil] at this
            omega
          have hext : (s.extract 2 s.size).data.toList = s.data.toList.drop 2 := extract_to_end s 2
          have hsz : (s.extract 2 s.size).size ≤ 1000000 := by
            have : (s.extract 2 s.size).data.toList.length = (s.extract 2 s.size).size := rfl
            rw [hext, List.length_drop] at this
            omega
          have HN := rnumber_any 10 7 (by decide) (by omega) (s.extract 2 s.size) wr hsz
          rw [hext] at HN
          simp only [Int.cast_ofNat_Int] at HN
          have hh : headR s.data.toList = ((numR 10 7 (s.data.toList.drop 2)).1, (numR 10 7 (s.data.toList.drop 2)).2, 2) := by unfold headR; rw [if_neg (by rw [hx]; decide), if_pos hd]
          rw [hd] at HD
          rw [hh] at hres hhl
          simp only at hres hhl
          have HX := hide HX
          have HD := hide HD
          have HN := hide HN
          clear hx hd hh hext hsz
          generalize (numR 10 7 (s.data.toList.drop 2)).1 = c at *
          generalize (numR 10 7 (s.data.toList.drop 2)).2 = j at *
          by_cases hc : c = []
          · rw [if_pos hc] at hres
            subst hres
            subst hc
            go_wp2_with (first
              | (go_at_call 103; go_fit HX.out; rintro e w1 ⟨rfl, rfl⟩)
              | (go_at_call 103; go_fit HD.out; rintro e w1 ⟨rfl, rfl⟩)
              | (go_at_call 104; refine HN.out.mono ?_; rintro e w2 ⟨rfl, f2⟩))
            go_ret2
            exact ⟨rfl, hfr.out.trans f2⟩
          · rw [if_neg hc] at hres
            subst hres
            obtain ⟨hE, hE2⟩ := HNE.out c hc
            have hcE : c.isEmpty = false := by
              cases c with
              | nil => exact absurd rfl hc
              | cons a b => rfl
            go_wp2_with (first
              | (go_at_call 103; go_fit HX.out; rintro e w1 ⟨rfl, rfl⟩)
              | (go_at_call 103; go_fit HD.out; rintro e w1 ⟨rfl, rfl⟩)
              | (go_at_call 104; refine HN.out.mono ?_; rintro e w2 ⟨rfl, f2⟩))
            go_ret2
            exact ⟨rfl, hfr.out.trans f2⟩
        | false =>
          have hh : headR s.data.toList = ([], 0, 0) := by unfold headR; rw [if_neg (by rw [hx]; decide), if_neg (by rw [hd]; decide)]
          rw [hd] at HD
          rw [hh] at hres
          simp only [if_true] at hres
          subst hres
          have HX := hide HX
          have HD := hide HD
          clear hx hd hh
          go_wp2_with (first
            | (go_at_call 103; go_fit HX.out; rintro e w1 ⟨rfl, rfl⟩)
            | (go_at_call 103; go_fit HD.out; rintro e w1 ⟨rfl, rfl⟩))
          go_ret2
          exact ⟨rfl, hfr.out⟩
end Go.Proofs.YtalbehjjgdedcaaGreatDoor
