/- name: Begin; the reference's letter, May, Plain, Split, Begin. -/
import Derived.Test.YtalbehjjgdedcaaGreatDoorNamA
import Derived.WalkLawsBesides
import Derived.WalkSpells
import Derived.Deep.DeepFit
namespace Go.Proofs.YtalbehjjgdedcaaGreatDoor
open Go.RowKit Go.Lib
attribute [local go_sem ↓] Go.wp_at_zero Go.wp_at_succ

theorem extract_data (s : ByteArray) (a b : Nat) : (s.extract a b).data.toList = (s.data.toList.drop a).take (b - a) := by
  rw [ByteArray.data_extract, Array.toList_extract]
theorem get_of_toList {s : ByteArray} {k : Nat} (h : k < s.size) {b : UInt8} (hb : s.data.toList[k]? = some b) : s[k] = b := by
  rw [data_getElem_ s k h] at hb
  exact Option.some.inj hb

set_option maxHeartbeats 2000000 in
theorem begin_any (s : ByteArray) (w : World) (hs : s.size ≤ 1000000) : Calls Tryz.prog 137 #[.string s] w fun e w' => e = .returned (.int .i64 (beginN s.data.toList)) ∧ w = w' := by
  have hsz : s.data.toList.length = s.size := rfl
  obtain ⟨r, hr⟩ : ∃ r, beginN s.data.toList = r := ⟨_, rfl⟩
  have hd0 : ∀ t : ByteArray, t.data.toList = s.data.toList.take 64 → beginN s.data.toList = if lenN t.data.toList = 0 ∨ t.data.toList[lenN t.data.toList]? ≠ some 58 ∨ lenN (t.data.toList.drop (lenN t.data.toList + 1)) = 0 then lenN t.data.toList else lenN t.data.toList + 1 + lenN (t.data.toList.drop (lenN t.data.toList + 1)) := fun t htl => by
    rw [htl]
    unfold beginN
    rfl
  have key : ∀ t : ByteArray, t.data.toList = s.data.toList.take 64 → t.size ≤ 64 → ((t = s ∧ (s.size : Int) ≤ 64) ∨ (64 < (s.size : Int) ∧ ∀ W : World, (Instr.slice 9 (.string s) none (some (.int .i64 64)) none).run Tryz.prog W = .ok (.string t) W)) →
      Calls Tryz.prog 137 #[.string s] w fun e w' => e = .returned (.int .i64 (beginN s.data.toList)) ∧ w = w' := by
    intro t htl ht64 hc
    have hd := hd0 t htl
    have htz : t.data.toList.length = t.size := rfl
    have HL := hide (length_any t w (by omega))
    have hle := lenN_le t.data.toList
    rw [htz] at hle
    rw [hr] at hd ⊢
    clear hr htl hd0
    have HC := hide hc
    clear hc
    by_cases h0 : lenN t.data.toList = 0
    · rw [if_pos (.inl h0), h0] at hd
      subst hd
      rw [h0] at HL
      clear h0 hle
      rcases HC.out with ⟨rfl, hle64⟩ | ⟨hgt, hsl⟩
      all_goals
        go_enter Tryz.func137, Tryz.ntmps137
        go_wp2_with (go_at_call 163; refine HL.out.mono ?_; rintro e w1 ⟨rfl, rfl⟩)
        go_ret
        exact ⟨rfl, rfl⟩
    · obtain ⟨n, hn⟩ : ∃ n, lenN t.data.toList = n := ⟨_, rfl⟩
      rw [hn] at hd hle HL h0
      have e0 : ((n : Int) == 0) = false := by rw [beq_eq_false_iff_ne]; omega
      have e0' : ¬ (n : Int) = 0 := by omega
      by_cases hnt : n < t.size
      · have hnti : (n : Int) < t.size := by omega
        have hg : t.data.toList[n]? = some (t[n]'hnt) := data_getElem_ t n hnt
        by_cases h58 : t[n]'hnt = 58
        · have h58i : ((t[n]'hnt).toNat : Int) = 58 := by rw [h58]; rfl
          rw [hg, h58] at hd
          obtain ⟨u, hu⟩ : ∃ u : ByteArray, u = t.extract (n + 1) t.size := ⟨_, rfl⟩
          have hul : u.data.toList = t.data.toList.drop (n + 1) := by
            rw [hu, extract_data, List.take_of_length_le (by rw [List.length_drop]; omega)]
          have hus : u.size ≤ 1000000 := by
            have : u.data.toList.length = u.size := rfl
            rw [hul, List.length_drop] at this
            omega
          have hsl2 : ∀ W : World, (Instr.slice 9 (.string t) (some (.int .i64 ((n : Int) + 1))) none none).run Tryz.prog W = .ok (.string u) W := fun W => by
            rw [show (n : Int) + 1 = ((n + 1 : Nat) : Int) by omega, run_slice_string_l (P := Tryz.prog) W 9 t Tryz.underlying9 .i64 _ (by omega) (by omega), Int.toNat_natCast, hu]
          have HS2 := hide hsl2
          have HM := hide (length_any u w hus)
          rw [← hul] at hd
          have hml := lenN_le u.data.toList
          have huz : u.data.toList.length = u.size := rfl
          rw [huz] at hml
          obtain ⟨m, hm⟩ : ∃ m, lenN u.data.toList = m := ⟨_, rfl⟩
          rw [hm] at HM hd hml
          clear hsl2 hul hu hg h58 hm hn htz huz
          by_cases hm0 : m = 0
          · subst hm0
            rw [if_pos (by simp)] at hd
            subst hd
            clear h0
            rcases HC.out with ⟨rfl, hle64⟩ | ⟨hgt, hsl⟩
            all_goals
              go_enter Tryz.func137, Tryz.ntmps137
              have hsl2 := HS2.out
              go_wp2_with (go_at_call 163; (first | go_fit HL.out | go_fit HM.out); rintro e w1 ⟨rfl, rfl⟩)
              go_ret
              exact ⟨rfl, rfl⟩
          · rw [if_neg (by simp [h0, hm0])] at hd
            subst hd
            have hmp : (0 : Int) < m := by omega
            clear h0
            rcases HC.out with ⟨rfl, hle64⟩ | ⟨hgt, hsl⟩
            all_goals
              go_enter Tryz.func137, Tryz.ntmps137
              have hsl2 := HS2.out
              go_wp2_with (go_at_call 163; (first | go_fit HL.out | go_fit HM.out); rintro e w1 ⟨rfl, rfl⟩)
              go_ret
              refine ⟨?_, rfl⟩
              show Ending.returned (.int .i64 ((n : Int) + 1 + m)) = _
              congr 2
        · have h58i : (((t[n]'hnt).toNat : Int) == 58) = false := by
            rw [beq_eq_false_iff_ne]
            intro e
            exact h58 (UInt8.toNat_inj.1 (by show _ = 58; omega))
          have h58j : (((t[n]'hnt).toNat : Int) != 58) = true := by rw [bne, h58i]; rfl
          clear h58i
          rw [hg, if_pos (.inr (.inl (by simpa using h58)))] at hd
          subst hd
          clear h0 hg h58 hn
          rcases HC.out with ⟨rfl, hle64⟩ | ⟨hgt, hsl⟩
          all_goals
            go_enter Tryz.func137, Tryz.ntmps137
            go_wp2_with (go_at_call 163; refine HL.out.mono ?_; rintro e w1 ⟨rfl, rfl⟩)
            go_ret
            exact ⟨rfl, rfl⟩
      · have hnti : (t.size : Int) ≤ n := by omega
        rw [if_pos (.inr (.inl (by rw [List.getElem?_eq_none (by omega)]; simp)))] at hd
        subst hd
        clear h0 hn
        rcases HC.out with ⟨rfl, hle64⟩ | ⟨hgt, hsl⟩
        all_goals
          go_enter Tryz.func137, Tryz.ntmps137
          go_wp2_with (go_at_call 163; refine HL.out.mono ?_; rintro e w1 ⟨rfl, rfl⟩)
          go_ret
          exact ⟨rfl, rfl⟩
  by_cases h64 : s.size ≤ 64
  · exact key s (by rw [List.take_of_length_le (by omega)]) h64 (.inl ⟨rfl, by omega⟩)
  · refine key (s.extract 0 64) (by rw [extract_data, List.drop_zero]) ?_ (.inr ⟨by omega, fun W => ?_⟩)
    · show (s.extract 0 64).data.size ≤ 64
      rw [← Array.length_toList, extract_data, List.drop_zero, List.length_take]
      omega
    · rw [run_slice_string_h (P := Tryz.prog) W 9 s Tryz.underlying9 .i64 64 (by omega) (by omega)]
      rfl
end Go.Proofs.YtalbehjjgdedcaaGreatDoor
