/- strconv.ParseInt at the bases 10 and 16, for a text of one to seven bytes that begins with no sign. -/
import Derived.Test.YtalbehjjgdedcaaGreatDoorEntB
import Derived.Lib.ConvBytes
import Derived.Laws.Strings3
import Derived.Laws.Closers25
import Derived.Laws.Closers25b
import Derived.BigCall
import Derived.BigGuard
namespace Go.Proofs.YtalbehjjgdedcaaGreatDoor
open Go.RowKit Go.Lib
attribute [local go_sem ↓] Go.wp_at_zero Go.wp_at_succ

/-- c | 0x20 -/
def lwN (n : Nat) : Nat := if n / 32 % 2 = 1 then n else n + 32
theorem lw_bits (n : Nat) (h : n < 256) : bits .or .u8 (n : Int) 32 = lwN n := by
  have : ∀ k : Fin 256, bits .or .u8 ((k.val : Nat) : Int) 32 = lwN k.val := by decide +kernel
  exact this ⟨n, h⟩
theorem lower_any (b : UInt8) (w : World) : Calls Tryz.prog 185 #[.int .u8 (b.toNat : Int)] w fun e w' => e = .returned (.int .u8 (lwN b.toNat : Nat)) ∧ w = w' := by
  have h := lw_bits b.toNat (UInt8.toNat_lt _)
  go_enter Tryz.func185, Tryz.ntmps185
  go_wp2
  go_ret
  exact ⟨rfl, rfl⟩

/-- what a byte is to ParseUint -/
theorem dig_cases (base : Int) (hb : base = 10 ∨ base = 16) (c : UInt8) :
    (48 ≤ c.toNat ∧ c.toNat ≤ 57 ∧ digB base c = true ∧ digV c = (c.toNat : Int) - 48) ∨
    (¬ (48 ≤ c.toNat ∧ c.toNat ≤ 57) ∧ c.toNat ≠ 95 ∧ 97 ≤ lwN c.toNat ∧ lwN c.toNat ≤ 122 ∧ (lwN c.toNat : Int) - 87 < base ∧ digB base c = true ∧ digV c = (lwN c.toNat : Int) - 87) ∨
    (¬ (48 ≤ c.toNat ∧ c.toNat ≤ 57) ∧ c.toNat ≠ 95 ∧ 97 ≤ lwN c.toNat ∧ lwN c.toNat ≤ 122 ∧ base ≤ (lwN c.toNat : Int) - 87 ∧ digB base c = false) ∨
    (¬ (48 ≤ c.toNat ∧ c.toNat ≤ 57) ∧ ¬ (97 ≤ lwN c.toNat ∧ lwN c.toNat ≤ 122) ∧ digB base c = false) := by
  have hc := UInt8.toNat_lt c
  generalize hn : c.toNat = n at *
  have hv : digV c = if 48 ≤ n ∧ n ≤ 57 then (n : Int) - 48 else if 97 ≤ n ∧ n ≤ 102 then (n : Int) - 87 else if 65 ≤ n ∧ n ≤ 70 then (n : Int) - 55 else -1 := by unfold digV; rw [hn]
  have hl : lwN n = if n / 32 % 2 = 1 then n else n + 32 := rfl
  simp only [digB, decide_eq_true_eq, decide_eq_false_iff_not, hv]
  generalize lwN n = m at *
  split at hl
  all_goals
    split
    · omega
    · split
      · rcases hb with rfl | rfl <;> omega
      · split
        · rcases hb with rfl | rfl <;> omega
        · rcases hb with rfl | rfl <;> omega

theorem valL_cons (base : Int) (b : UInt8) (t : List UInt8) (n : Int) : valL base (b :: t) n = valL base t (n * base + digV b) := rfl

section
set_option maxRecDepth 100000
set_option maxHeartbeats 8000000
theorem parseUint_any (base : Int) (hb : base = 10 ∨ base = 16) (t : ByteArray) (w : World) (h1 : 1 ≤ t.size) (h7 : t.size ≤ 7) :
    Calls Tryz.prog 180 #[.string t, .int .i64 base, .int .i64 64] w fun e w' =>
      e = .returned (if t.data.toList.all (digB base) = true then .tuple #[.int .u64 (valL base t.data.toList 0), .nilIface] else .tuple #[.int .u64 0, .iface 235 (.int .i64 2)]) ∧
      Fr (fun _ => False) w w' ∧ (t.data.toList.all (digB base) = true → 0 ≤ valL base t.data.toList 0 ∧ valL base t.data.toList 0 < 268435456) := by
  have hE := ne_empty h1
  have hE2 := ne_nil h1
  have hcv := Lib.run_convert_string_bytes (P := Tryz.prog) w 9 51 5 t (u := .string) Tryz.underlying9 Tryz.underlying51 Tryz.underlying5
  have hB : ∀ j, j < t.size → (Lib.bytesWorld w 5 t).cell? ⟨w.heap.size, j, none⟩ = some (.int .u8 (t.data.toList.getD j 0).toNat) := fun j hj => Lib.bytesWorld_cell w 5 t j hj
  have hF : Fr (fun _ => False) w (Lib.bytesWorld w 5 t) := ⟨rfl, rfl, rfl, by rw [Lib.bytesWorld_size]; omega, fun k hk _ => Lib.bytesWorld_at_old w 5 t k hk⟩
  obtain ⟨W1, hW1⟩ : ∃ W1, W1 = Lib.bytesWorld w 5 t := ⟨_, rfl⟩
  rw [← hW1] at hcv hB hF
  clear hW1
  obtain ⟨bs, hL⟩ : ∃ bs, bs = t.data.toList := ⟨_, rfl⟩
  have hLn : bs.length = t.size := by rw [hL, Lib.size_eq]
  rw [← hL] at hB ⊢
  clear hL
  obtain ⟨R, hR⟩ : ∃ R : Value, (if bs.all (digB base) = true then .tuple #[.int .u64 (valL base bs 0), .nilIface] else .tuple #[.int .u64 0, .iface 235 (.int .i64 2)]) = R := ⟨_, rfl⟩
  obtain ⟨Z, hZ⟩ : ∃ Z : Prop, (bs.all (digB base) = true → 0 ≤ valL base bs 0 ∧ valL base bs 0 < 268435456) = Z := ⟨_, rfl⟩
  rw [hR, hZ]
  have HR := hide hR
  have HZ := hide hZ
  have HF := hide hF
  clear hR hZ hF
  have hmv : IntKind.u64.wrap (IntKind.u64.wrap 18446744073709551616 - 1) = 18446744073709551615 := by
    rw [IntKind.wrap_u64, IntKind.wrap_u64]
    decide
  have hpow : ∀ k, k ≤ 6 → (16 : Int) ^ k ≤ 16777216 := by
    intro k hk
    match k, hk with
    | 0, _ => decide
    | 1, _ => decide
    | 2, _ => decide
    | 3, _ => decide
    | 4, _ => decide
    | 5, _ => decide
    | 6, _ => decide
  have HP := hide hpow
  clear hpow
  rcases hb with rfl | rfl
  · have HC := hide (fun c => dig_cases 10 (by decide) c)
    go_enter Tryz.func180, Tryz.ntmps180
    go_wp2
    go_loop [12, 13, 101] (fun vu vn vi => ∃ (k : Nat) (a : Int), vu = .bool false ∧ vn = .int .u64 a ∧ vi = .int .i64 k ∧ k ≤ t.size ∧ 0 ≤ a ∧ Hid (a < 16 ^ k ∧ valL 10 bs 0 = valL 10 (bs.drop k) a ∧ bs.all (digB 10) = (bs.drop k).all (digB 10))) (fun _ _ vi => t.size - (Go.RowKit.intOf vi).toNat)
    case atStart => exact ⟨0, 0, rfl, rfl, rfl, by omega, by omega, by decide, rfl, rfl⟩
    case round =>
      obtain ⟨k, a, rfl, rfl, rfl, hk, a0, hh⟩ := hrel
      by_cases hkn : k < t.size
      · have hc := hB k hkn
        have hdrop : bs.drop k = bs[k]'(by omega) :: bs.drop (k + 1) := List.drop_eq_getElem_cons (by omega)
        have hget : bs.getD k 0 = bs[k]'(by omega) := by simp [List.getD, List.getElem?_eq_getElem (show k < bs.length by omega)]
        have H3 := hh.out
        rw [hdrop] at H3
        rw [hget] at hc
        generalize bs[k]'(by omega) = c at hc H3
        have hp6 := HP.out k (by omega)
        have ab : a < 16777216 := by omega
        have ap : a < 16 ^ k := H3.1
        have H3 := hide H3.2
        have AP := hide ap
        have hc256 : (c.toNat : Int) < 256 := by have := c.toNat_lt; omega
        clear hB hdrop hget hp6 ap
        rcases HC.out c with ⟨d1, d2, d3, d4⟩ | ⟨d1, d2, d3, d4, d5, d6, d7⟩ | ⟨d1, d2, d3, d4, d5, d6⟩ | ⟨d1, d2, d3⟩
        · have hd0 : (48 : Int) ≤ c.toNat := by omega
          have hd1 : (c.toNat : Int) ≤ 57 := by omega
          have hne : ¬ (c.toNat : Int) = 95 := by omega
          have icut : a < 1844674407370955162 := by omega
          have iov : a * 10 + ((c.toNat : Int) - 48) < 18446744073709551616 := by omega
          have HN := hide (show a * 10 + ((c.toNat : Int) - 48) < 16 ^ (k + 1) ∧ valL 10 bs 0 = valL 10 (bs.drop (k + 1)) (a * 10 + ((c.toNat : Int) - 48)) ∧ bs.all (digB 10) = (bs.drop (k + 1)).all (digB 10) from ⟨by rw [Int.pow_succ]; have := AP.out; omega, by rw [H3.out.1, valL_cons, d4], by rw [H3.out.2, List.all_cons, d3, Bool.true_and]⟩)
          clear d1 d2 d3 d4
          go_wp2
          refine ⟨⟨k + 1, a * 10 + ((c.toNat : Int) - 48), rfl, (by first | rfl | (congr 1; omega)), (by first | rfl | (congr 1; omega)), by omega, by omega, HN.out⟩, by simp [Go.RowKit.intOf]; omega⟩
        · exact absurd d5 (by omega)
        · have h57 : (57 : Int) < c.toNat := by unfold lwN at d3 d4; split at d3 <;> omega
          have hne : ¬ (c.toNat : Int) = 95 := by omega
          have HW := hide (lower_any c)
          have hl1 : (97 : Int) ≤ (lwN c.toNat : Nat) := by omega
          have hl2 : ((lwN c.toNat : Nat) : Int) ≤ 122 := by omega
          have hl3 : 10 ≤ ((lwN c.toNat : Nat) : Int) - 97 + 10 := by omega
          generalize lwN c.toNat = L at *
          have HA := hide (show bs.all (digB 10) = false by rw [H3.out.2, List.all_cons, d6, Bool.false_and])
          clear d1 d2 d3 d4 d5 d6
          go_wp2_with (go_at_call 185; refine (HW.out _).mono ?_; rintro e w' ⟨rfl, rfl⟩)
          go_ret2
          exact ⟨by rw [← HR.out, HA.out]; rfl, HF.out, by rw [← HZ.out, HA.out]; intro h; cases h⟩
        · have HW := hide (lower_any c)
          have HA := hide (show bs.all (digB 10) = false by rw [H3.out.2, List.all_cons, d3, Bool.false_and])
          have hcs : ((c.toNat : Int) < 48 ∧ ((lwN c.toNat : Nat) : Int) < 97 ∧ ¬ (c.toNat : Int) = 95) ∨ ((57 : Int) < c.toNat ∧ ¬ (c.toNat : Int) = 95 ∧ ((lwN c.toNat : Nat) : Int) < 97) ∨ ((57 : Int) < c.toNat ∧ ¬ (c.toNat : Int) = 95 ∧ (122 : Int) < (lwN c.toNat : Nat)) ∨ ((c.toNat : Int) = 95 ∧ (122 : Int) < (lwN c.toNat : Nat)) := by
            unfold lwN at d2 ⊢
            split at d2 <;> simp only [*, if_true, if_false] <;> omega
          clear d1 d2 d3
          generalize lwN c.toNat = L at *
          rcases hcs with ⟨e1, e2, e3⟩ | ⟨e1, e2, e3⟩ | ⟨e1, e2, e3⟩ | ⟨e1, e2⟩
          · go_wp2_with (go_at_call 185; refine (HW.out _).mono ?_; rintro e w' ⟨rfl, rfl⟩)
            go_ret2
            exact ⟨by rw [← HR.out, HA.out]; rfl, HF.out, by rw [← HZ.out, HA.out]; intro h; cases h⟩
          · go_wp2_with (go_at_call 185; refine (HW.out _).mono ?_; rintro e w' ⟨rfl, rfl⟩)
            go_ret2
            exact ⟨by rw [← HR.out, HA.out]; rfl, HF.out, by rw [← HZ.out, HA.out]; intro h; cases h⟩
          · go_wp2_with (go_at_call 185; refine (HW.out _).mono ?_; rintro e w' ⟨rfl, rfl⟩)
            go_ret2
            exact ⟨by rw [← HR.out, HA.out]; rfl, HF.out, by rw [← HZ.out, HA.out]; intro h; cases h⟩
          · have hc95 : c.toNat = 95 := by omega
            have HW2 : Hid (∀ W : World, Calls Tryz.prog 185 #[.int .u8 95] W fun e w' => e = .returned (.int .u8 (L : Nat)) ∧ W = w') := fun W => by have := HW.out W; rw [hc95] at this; exact this
            rw [hc95] at hc
            clear e1 hc95 hc256
            go_wp2_with (go_at_call 185; refine (HW2.out _).mono ?_; rintro e w' ⟨rfl, rfl⟩)
            go_ret2
            exact ⟨by rw [← HR.out, HA.out]; rfl, HF.out, by rw [← HZ.out, HA.out]; intro h; cases h⟩
      · obtain rfl : k = t.size := by omega
        have H3 := hh.out
        rw [List.drop_of_length_le (by omega)] at H3
        have hp7 : (16 : Int) ^ t.size ≤ 268435456 := by
          obtain ⟨m, hm⟩ : ∃ m, t.size = m + 1 := ⟨t.size - 1, by omega⟩
          rw [hm, Int.pow_succ]
          have := HP.out m (by omega)
          omega
        have H4 := hide (show bs.all (digB 10) = true ∧ valL 10 bs 0 = a ∧ a < 268435456 from ⟨H3.2.2, H3.2.1, by have := H3.1; omega⟩)
        clear H3 hp7
        go_wp2
        go_ret2
        exact ⟨by rw [← HR.out, H4.out.1, H4.out.2.1]; rfl, HF.out, by rw [← HZ.out, H4.out.2.1]; exact fun _ => ⟨a0, H4.out.2.2⟩⟩
  · have HC := hide (fun c => dig_cases 16 (by decide) c)
    go_enter Tryz.func180, Tryz.ntmps180
    go_wp2
    go_loop [12, 13, 101] (fun vu vn vi => ∃ (k : Nat) (a : Int), vu = .bool false ∧ vn = .int .u64 a ∧ vi = .int .i64 k ∧ k ≤ t.size ∧ 0 ≤ a ∧ Hid (a < 16 ^ k ∧ valL 16 bs 0 = valL 16 (bs.drop k) a ∧ bs.all (digB 16) = (bs.drop k).all (digB 16))) (fun _ _ vi => t.size - (Go.RowKit.intOf vi).toNat)
    case atStart => exact ⟨0, 0, rfl, rfl, rfl, by omega, by omega, by decide, rfl, rfl⟩
    case round =>
      obtain ⟨k, a, rfl, rfl, rfl, hk, a0, hh⟩ := hrel
      by_cases hkn : k < t.size
      · have hc := hB k hkn
        have hdrop : bs.drop k = bs[k]'(by omega) :: bs.drop (k + 1) := List.drop_eq_getElem_cons (by omega)
        have hget : bs.getD k 0 = bs[k]'(by omega) := by simp [List.getD, List.getElem?_eq_getElem (show k < bs.length by omega)]
        have H3 := hh.out
        rw [hdrop] at H3
        rw [hget] at hc
        generalize bs[k]'(by omega) = c at hc H3
        have hp6 := HP.out k (by omega)
        have ab : a < 16777216 := by omega
        have ap : a < 16 ^ k := H3.1
        have H3 := hide H3.2
        have AP := hide ap
        have hc256 : (c.toNat : Int) < 256 := by have := c.toNat_lt; omega
        clear hB hdrop hget hp6 ap
        rcases HC.out c with ⟨d1, d2, d3, d4⟩ | ⟨d1, d2, d3, d4, d5, d6, d7⟩ | ⟨d1, d2, d3, d4, d5, d6⟩ | ⟨d1, d2, d3⟩
        · have hd0 : (48 : Int) ≤ c.toNat := by omega
          have hd1 : (c.toNat : Int) ≤ 57 := by omega
          have hne : ¬ (c.toNat : Int) = 95 := by omega
          have icut : a < 1152921504606846976 := by omega
          have iov : a * 16 + ((c.toNat : Int) - 48) < 18446744073709551616 := by omega
          have HN := hide (show a * 16 + ((c.toNat : Int) - 48) < 16 ^ (k + 1) ∧ valL 16 bs 0 = valL 16 (bs.drop (k + 1)) (a * 16 + ((c.toNat : Int) - 48)) ∧ bs.all (digB 16) = (bs.drop (k + 1)).all (digB 16) from ⟨by rw [Int.pow_succ]; have := AP.out; omega, by rw [H3.out.1, valL_cons, d4], by rw [H3.out.2, List.all_cons, d3, Bool.true_and]⟩)
          clear d1 d2 d3 d4
          go_wp2
          refine ⟨⟨k + 1, a * 16 + ((c.toNat : Int) - 48), rfl, (by first | rfl | (congr 1; omega)), (by first | rfl | (congr 1; omega)), by omega, by omega, HN.out⟩, by simp [Go.RowKit.intOf]; omega⟩
        · have h57 : (57 : Int) < c.toNat := by unfold lwN at d3 d4; split at d3 <;> omega
          have hne : ¬ (c.toNat : Int) = 95 := by omega
          have HW := hide (lower_any c)
          have hl1 : (97 : Int) ≤ (lwN c.toNat : Nat) := by omega
          have hl2 : ((lwN c.toNat : Nat) : Int) ≤ 122 := by omega
          have hl3 : ((lwN c.toNat : Nat) : Int) - 97 + 10 < 16 := by omega
          generalize lwN c.toNat = L at *
          have icut : a < 1152921504606846976 := by omega
          have iov : a * 16 + ((L : Int) - 97 + 10) < 18446744073709551616 := by omega
          have HN := hide (show a * 16 + ((L : Int) - 97 + 10) < 16 ^ (k + 1) ∧ valL 16 bs 0 = valL 16 (bs.drop (k + 1)) (a * 16 + ((L : Int) - 97 + 10)) ∧ bs.all (digB 16) = (bs.drop (k + 1)).all (digB 16) from ⟨by rw [Int.pow_succ]; have := AP.out; omega, by rw [H3.out.1, valL_cons, d7, show (L : Int) - 97 + 10 = L - 87 by omega], by rw [H3.out.2, List.all_cons, d6, Bool.true_and]⟩)
          clear d1 d2 d3 d4 d5 d6 d7
          go_wp2_with (go_at_call 185; refine (HW.out _).mono ?_; rintro e w' ⟨rfl, rfl⟩)
          refine ⟨⟨k + 1, a * 16 + ((L : Int) - 97 + 10), rfl, (by first | rfl | (congr 1; omega)), (by first | rfl | (congr 1; omega)), by omega, by omega, HN.out⟩, by simp [Go.RowKit.intOf]; omega⟩
        · have h57 : (57 : Int) < c.toNat := by unfold lwN at d3 d4; split at d3 <;> omega
          have hne : ¬ (c.toNat : Int) = 95 := by omega
          have HW := hide (lower_any c)
          have hl1 : (97 : Int) ≤ (lwN c.toNat : Nat) := by omega
          have hl2 : ((lwN c.toNat : Nat) : Int) ≤ 122 := by omega
          have hl3 : 16 ≤ ((lwN c.toNat : Nat) : Int) - 97 + 10 := by omega
          generalize lwN c.toNat = L at *
          have HA := hide (show bs.all (digB 16) = false by rw [H3.out.2, List.all_cons, d6, Bool.false_and])
          clear d1 d2 d3 d4 d5 d6
          go_wp2_with (go_at_call 185; refine (HW.out _).mono ?_; rintro e w' ⟨rfl, rfl⟩)
          go_ret2
          exact ⟨by rw [← HR.out, HA.out]; rfl, HF.out, by rw [← HZ.out, HA.out]; intro h; cases h⟩
        · have HW := hide (lower_any c)
          have HA := hide (show bs.all (digB 16) = false by rw [H3.out.2, List.all_cons, d3, Bool.false_and])
          have hcs : ((c.toNat : Int) < 48 ∧ ((lwN c.toNat : Nat) : Int) < 97 ∧ ¬ (c.toNat : Int) = 95) ∨ ((57 : Int) < c.toNat ∧ ¬ (c.toNat : Int) = 95 ∧ ((lwN c.toNat : Nat) : Int) < 97) ∨ ((57 : Int) < c.toNat ∧ ¬ (c.toNat : Int) = 95 ∧ (122 : Int) < (lwN c.toNat : Nat)) ∨ ((c.toNat : Int) = 95 ∧ (122 : Int) < (lwN c.toNat : Nat)) := by
            unfold lwN at d2 ⊢
            split at d2 <;> simp only [*, if_true, if_false] <;> omega
          clear d1 d2 d3
          generalize lwN c.toNat = L at *
          rcases hcs with ⟨e1, e2, e3⟩ | ⟨e1, e2, e3⟩ | ⟨e1, e2, e3⟩ | ⟨e1, e2⟩
          · go_wp2_with (go_at_call 185; refine (HW.out _).mono ?_; rintro e w' ⟨rfl, rfl⟩)
            go_ret2
            exact ⟨by rw [← HR.out, HA.out]; rfl, HF.out, by rw [← HZ.out, HA.out]; intro h; cases h⟩
          · go_wp2_with (go_at_call 185; refine (HW.out _).mono ?_; rintro e w' ⟨rfl, rfl⟩)
            go_ret2
            exact ⟨by rw [← HR.out, HA.out]; rfl, HF.out, by rw [← HZ.out, HA.out]; intro h; cases h⟩
          · go_wp2_with (go_at_call 185; refine (HW.out _).mono ?_; rintro e w' ⟨rfl, rfl⟩)
            go_ret2
            exact ⟨by rw [← HR.out, HA.out]; rfl, HF.out, by rw [← HZ.out, HA.out]; intro h; cases h⟩
          · have hc95 : c.toNat = 95 := by omega
            have HW2 : Hid (∀ W : World, Calls Tryz.prog 185 #[.int .u8 95] W fun e w' => e = .returned (.int .u8 (L : Nat)) ∧ W = w') := fun W => by have := HW.out W; rw [hc95] at this; exact this
            rw [hc95] at hc
            clear e1 hc95 hc256
            go_wp2_with (go_at_call 185; refine (HW2.out _).mono ?_; rintro e w' ⟨rfl, rfl⟩)
            go_ret2
            exact ⟨by rw [← HR.out, HA.out]; rfl, HF.out, by rw [← HZ.out, HA.out]; intro h; cases h⟩
      · obtain rfl : k = t.size := by omega
        have H3 := hh.out
        rw [List.drop_of_length_le (by omega)] at H3
        have hp7 : (16 : Int) ^ t.size ≤ 268435456 := by
          obtain ⟨m, hm⟩ : ∃ m, t.size = m + 1 := ⟨t.size - 1, by omega⟩
          rw [hm, Int.pow_succ]
          have := HP.out m (by omega)
          omega
        have H4 := hide (show bs.all (digB 16) = true ∧ valL 16 bs 0 = a ∧ a < 268435456 from ⟨H3.2.2, H3.2.1, by have := H3.1; omega⟩)
        clear H3 hp7
        go_wp2
        go_ret2
        exact ⟨by rw [← HR.out, H4.out.1, H4.out.2.1]; rfl, HF.out, by rw [← HZ.out, H4.out.2.1]; exact fun _ => ⟨a0, H4.out.2.2⟩⟩
end
end Go.Proofs.YtalbehjjgdedcaaGreatDoor
