/- the reference's tokens: blank, Blank, blanks, has, find. -/
import Derived.Test.YtalbehjjgdedcaaGreatDoorNamD
import Derived.Test.YtalbehjjgdedcaaGreatDoorTokR
import Derived.Test.YtalbehjjgdedcaaGreatDoorEntG
namespace Go.Proofs.YtalbehjjgdedcaaGreatDoor
open Go.RowKit Go.Lib
attribute [local go_sem ↓] Go.wp_at_zero Go.wp_at_succ

set_option maxHeartbeats 1000000 in
theorem rblank1_any (b : UInt8) (w : World) : Calls Tryz.prog 42 #[.int .u8 (b.toNat : Int)] w fun e w' => e = .returned (.bool (blankB b)) ∧ w = w' := by
  have h : blankB b = (((((b.toNat : Int) == 32) || ((b.toNat : Int) == 9)) || ((b.toNat : Int) == 10)) || ((b.toNat : Int) == 13)) := by
    have : ∀ c : UInt8, (b == c) = ((b.toNat : Int) == (c.toNat : Int)) := fun c => by
      rw [Bool.eq_iff_iff, beq_iff_eq, beq_iff_eq]
      constructor
      · intro h; rw [h]
      · intro h; exact UInt8.toNat_inj.1 (by omega)
    unfold blankB
    rw [this 32, this 9, this 10, this 13]
    rfl
  rw [h]
  clear h
  generalize (b.toNat : Int) = x
  cases h1 : (x == 32) with
  | true =>
    obtain rfl : x = 32 := by simpa using h1
    go_enter Tryz.func42, Tryz.ntmps42
    go_wp2
    go_ret
    exact ⟨rfl, rfl⟩
  | false =>
    cases h2 : (x == 9) with
    | true =>
      obtain rfl : x = 9 := by simpa using h2
      go_enter Tryz.func42, Tryz.ntmps42
      go_wp2
      go_ret
      exact ⟨rfl, rfl⟩
    | false =>
      cases h3 : (x == 10) with
      | true =>
        obtain rfl : x = 10 := by simpa using h3
        go_enter Tryz.func42, Tryz.ntmps42
        go_wp2
        go_ret
        exact ⟨rfl, rfl⟩
      | false =>
        go_enter Tryz.func42, Tryz.ntmps42
        go_wp2
        go_ret
        exact ⟨by simp only [Bool.false_or]; rfl, rfl⟩

theorem nB_step {l : List UInt8} {k : Nat} {b : UInt8} (hk : k ≤ nB l) (hb : l[k]? = some b) : (blankB b = true → k + 1 ≤ nB l) ∧ (blankB b = false → k = nB l) := by
  constructor
  · intro hL
    rcases Nat.lt_or_ge k (nB l) with h | h
    · exact h
    · obtain rfl : k = nB l := by omega
      rw [nB_end hb] at hL
      cases hL
  · intro hL
    rcases Nat.lt_or_ge k (nB l) with h | h
    · obtain ⟨c, hc, hcL⟩ := nB_all h
      rw [hb] at hc
      cases hc
      rw [hL] at hcL
      cases hcL
    · omega
set_option maxHeartbeats 2000000 in
theorem rblanks_any (s : ByteArray) (p : Nat) (w : World) (hs : s.size ≤ 1000000) (hp : p ≤ s.size) : Calls Tryz.prog 68 #[.string s, .int .i64 p] w fun e w' => e = .returned (.int .i64 (nB (s.data.toList.drop p))) ∧ w = w' := by
  have hle := nB_le (s.data.toList.drop p)
  have hsz : s.data.toList.length = s.size := rfl
  rw [List.length_drop, hsz] at hle
  have HSZ := hide hsz
  clear hsz
  go_enter Tryz.func68, Tryz.ntmps68
  go_wp2_with fail
  go_loop [5] (fun n => ∃ k : Nat, n = .int .i64 k ∧ p + k ≤ s.size ∧ Hid (k ≤ nB (s.data.toList.drop p))) (fun n => s.size - (Go.RowKit.intOf n).toNat)
  case atStart => exact ⟨0, rfl, by omega, hide (Nat.zero_le _)⟩
  case round =>
    obtain ⟨k, rfl, hk, hkl⟩ := hrel
    by_cases hlt : p + k < s.size
    · have hi : (p : Int) + k < s.size := by omega
      have hget := data_getElem_ s (p + k) hlt
      rw [← List.getElem?_drop] at hget
      have HS := hide (nB_step hkl.out hget)
      have hb := rblank1_any (s[p + k]'hlt) w
      have hidx : ∀ W : World, (Instr.index 9 (.string s) (.int .i64 ((p : Int) + k))).run Tryz.prog W = .ok (.int .u8 ((s[p + k]'hlt).toNat : Int)) W := fun W => by
        rw [run_index_string (P := Tryz.prog) W 9 s .i64 _ Tryz.underlying9, dif_pos ⟨by omega, by omega⟩]
        simp only [show ((p : Int) + k).toNat = p + k by omega]
      clear hget
      cases hB : blankB (s[p + k]'hlt) with
      | true =>
        rw [hB] at hb
        have HG := hide (HS.out.1 hB)
        clear hB
        go_wp2_with (go_at_call 42; refine hb.mono ?_; rintro e w' ⟨rfl, rfl⟩)
        go_round
        case rel => exact ⟨k + 1, by go_num, by omega, HG⟩
        case measure => simp [Go.RowKit.intOf]; omega
      | false =>
        rw [hB] at hb
        have HG := hide (HS.out.2 hB)
        clear hB
        go_wp2_with (go_at_call 42; refine hb.mono ?_; rintro e w' ⟨rfl, rfl⟩)
        go_ret
        exact ⟨by rw [← HG.out]; rfl, rfl⟩
    · have hi : ¬ (p : Int) + k < s.size := by omega
      have HG := hide (show k = nB (s.data.toList.drop p) by have := hkl.out; omega)
      have hd : decide ((p : Int) + k < s.size) = false := decide_eq_false hi
      clear hi
      go_wp2_with fail
      go_ret
      exact ⟨by rw [← HG.out]; rfl, rfl⟩

set_option maxHeartbeats 1000000 in
theorem has_any (s t : ByteArray) (p : Nat) (w : World) (hs : s.size ≤ 1000000) (ht : t.size ≤ 1000000) (hp : p ≤ s.size) : Calls Tryz.prog 65 #[.string s, .int .i64 p, .string t] w fun e w' => e = .returned (.bool (hasPrefix (s.data.toList.drop p) t.data.toList)) ∧ w = w' := by
  have hsz : s.data.toList.length = s.size := rfl
  have htz : t.data.toList.length = t.size := rfl
  have h := hasPrefix_of_take (s.data.toList.drop p) t.data.toList
  rw [← h]
  clear h
  by_cases hle : p + t.size ≤ s.size
  · have hi : (p : Int) + t.size ≤ s.size := by omega
    rw [decide_eq_true (show t.data.toList.length ≤ (s.data.toList.drop p).length by rw [List.length_drop]; omega), Bool.true_and]
    have hx : ((s.extract p (p + t.size)).toList == t.toList) = ((s.data.toList.drop p).take t.data.toList.length == t.data.toList) := by
      rw [ByteArray.toList_eq, ByteArray.toList_eq, extract_data, htz]
      congr 2
      omega
    rw [← hx]
    have HX := hide hx
    clear hx hsz htz
    have hsl : ∀ W : World, (Instr.slice 9 (.string s) (some (.int .i64 (p : Int))) (some (.int .i64 ((p : Int) + t.size))) none).run Tryz.prog W = .ok (.string (s.extract p (p + t.size))) W := fun W => by
      rw [run_slice_string_if (P := Tryz.prog) W 9 s .i64 .i64 _ _ Tryz.underlying9, if_pos ⟨by omega, by omega⟩, if_pos ⟨by omega, by omega⟩]
      congr 3
    go_enter Tryz.func65, Tryz.ntmps65
    go_wp2
    go_ret
    exact ⟨rfl, rfl⟩
  · have hi : ¬ (p : Int) + t.size ≤ s.size := by omega
    have hd : decide ((p : Int) + t.size ≤ s.size) = false := decide_eq_false hi
    rw [decide_eq_false (show ¬ t.data.toList.length ≤ (s.data.toList.drop p).length by rw [List.length_drop]; omega), Bool.false_and]
    clear hi hsz htz
    go_enter Tryz.func65, Tryz.ntmps65
    go_wp2
    go_ret
    exact ⟨rfl, rfl⟩

/-- where a text stands first, from a place on -/
def findV (t l : List UInt8) (p : Nat) : Int := match findP t l with
  | some i => ((p + i : Nat) : Int)
  | none => -1
theorem findP_cons {t l : List UInt8} {b : UInt8} : findP t (b :: l) = if hasPrefix (b :: l) t = true then some 0 else (findP t l).map (· + 1) := rfl
set_option maxHeartbeats 2000000 in
theorem find_any (s t : ByteArray) (p : Nat) (w : World) (hs : s.size ≤ 1000000) (ht : t.size ≤ 1000000) (hp : p ≤ s.size) : Calls Tryz.prog 33 #[.string s, .int .i64 p, .string t] w fun e w' => e = .returned (.int .i64 (findV t.data.toList (s.data.toList.drop p) p)) ∧ w = w' := by
  obtain ⟨R, hR⟩ : ∃ R, findV t.data.toList (s.data.toList.drop p) p = R := ⟨_, rfl⟩
  rw [hR]
  have HR := hide hR
  clear hR
  go_enter Tryz.func33, Tryz.ntmps33
  go_wp2_with fail
  go_loop [7] (fun n => ∃ k : Nat, n = .int .i64 k ∧ k ≤ s.size ∧ Hid (findV t.data.toList (s.data.toList.drop k) k = R)) (fun n => s.size - (Go.RowKit.intOf n).toNat)
  case atStart => exact ⟨p, rfl, hp, HR⟩
  case round =>
    obtain ⟨k, rfl, hk, hkr⟩ := hrel
    by_cases hlt : k < s.size
    · have hi : (k : Int) < s.size := by omega
      have hh := has_any s t k w hs ht hk
      have hcons : s.data.toList.drop k = (s[k]'hlt) :: s.data.toList.drop (k + 1) := List.drop_eq_getElem_cons (l := s.data.toList) (i := k) hlt
      have HK := hide (show findV t.data.toList (s.data.toList.drop k) k = if hasPrefix (s.data.toList.drop k) t.data.toList = true then (k : Int) else findV t.data.toList (s.data.toList.drop (k + 1)) (k + 1) by
        unfold findV
        conv => lhs; rw [hcons, findP_cons, ← hcons]
        by_cases hb : hasPrefix (s.data.toList.drop k) t.data.toList = true
        · rw [if_pos hb, if_pos hb]; rfl
        · rw [if_neg hb, if_neg hb]
          cases findP t.data.toList (s.data.toList.drop (k + 1)) with
          | none => rfl
          | some i => simp only [Option.map_some]; omega)
      clear hcons
      cases hB : hasPrefix (s.data.toList.drop k) t.data.toList with
      | true =>
        rw [hB] at hh
        have HG := hide (show (k : Int) = R by rw [← hkr.out, HK.out, hB, if_pos rfl])
        clear hB
        go_wp2_with (go_at_call 65; refine hh.mono ?_; rintro e w' ⟨rfl, rfl⟩)
        go_ret
        exact ⟨by rw [← HG.out]; rfl, rfl⟩
      | false =>
        rw [hB] at hh
        have HG := hide (show findV t.data.toList (s.data.toList.drop (k + 1)) (k + 1) = R by rw [← hkr.out, HK.out, hB, if_neg (by decide)])
        clear hB
        go_wp2_with (go_at_call 65; refine hh.mono ?_; rintro e w' ⟨rfl, rfl⟩)
        go_round
        case rel => exact ⟨k + 1, by go_num, by omega, HG⟩
        case measure => simp [Go.RowKit.intOf]; omega
    · obtain rfl : k = s.size := by omega
      have HG := hide (show R = -1 by
        rw [← hkr.out, List.drop_of_length_le (show s.data.toList.length ≤ s.size from Nat.le_refl _)]
        rfl)
      go_wp2_with fail
      go_ret
      exact ⟨by rw [HG.out]; rfl, rfl⟩
end Go.Proofs.YtalbehjjgdedcaaGreatDoor
