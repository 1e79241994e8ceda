/- the reference's names: Split, Begin. -/
import Derived.Test.YtalbehjjgdedcaaGreatDoorNamC
namespace Go.Proofs.YtalbehjjgdedcaaGreatDoor
open Go.RowKit Go.Lib
attribute [local go_sem ↓] Go.wp_at_zero Go.wp_at_succ

def splitV (l : List UInt8) : Value := match splitN l with
  | some (p, r) => .tuple #[.string ⟨p.toArray⟩, .string ⟨r.toArray⟩, .bool true]
  | none => .tuple #[.string ⟨#[]⟩, .string ⟨#[]⟩, .bool false]
theorem plainB_le {l : List UInt8} (h : plainB l = true) : plainN l = true ∧ l.length ≤ 64 := by
  unfold plainB at h
  simpa using h
theorem self_mk {s : ByteArray} {l : List UInt8} (h : s.data.toList = l) : s = ⟨l.toArray⟩ := by
  subst h
  exact (mk_self_ s).symm
where mk_self_ (s : ByteArray) : (⟨s.data.toList.toArray⟩ : ByteArray) = s := by cases s; rfl

set_option maxHeartbeats 4000000 in
theorem rsplit_any (s : ByteArray) (w : World) (hs : s.size ≤ 1000000) : Calls Tryz.prog 44 #[.string s] w fun e w' => e = .returned (splitV s.data.toList) ∧ Fr (fun _ => False) w w' := by
  have hsz : s.data.toList.length = s.size := rfl
  have hP := rplain_any s w hs
  cases hp : plainB s.data.toList with
  | true =>
    obtain ⟨p1, p2⟩ := plainB_le hp
    have hv : splitV s.data.toList = .tuple #[.string ⟨#[]⟩, .string s, .bool true] := by
      unfold splitV
      rw [splitN_plain p2 p1]
    rw [hv]
    rw [hp] at hP
    clear hv hp p1 p2 hsz
    go_enter Tryz.func44, Tryz.ntmps44
    go_wp2_with (go_at_call 85; refine hP.mono ?_; rintro e w' ⟨rfl, rfl⟩)
    go_returns
    exact ⟨rfl, Fr.refl _ _⟩
  | false =>
    rw [hp] at hP
    by_cases h64 : s.size ≤ 64
    · have hi64 : (s.size : Int) ≤ 64 := by omega
      have hnp : plainN s.data.toList ≠ true := fun h => by
        unfold plainB at hp
        rw [h, decide_eq_true (by omega : s.data.toList.length ≤ 64)] at hp
        cases hp
      have HNP := hide hnp
      obtain ⟨V, hV⟩ : ∃ V, splitV s.data.toList = V := ⟨_, rfl⟩
      rw [hV]
      have HV := hide hV
      have hpl : ∀ (t : ByteArray) (W : World), t.size ≤ 64 → Calls Tryz.prog 85 #[.string t] W fun e w' => e = .returned (.bool (plainN t.data.toList)) ∧ W = w' := fun t W ht => by
        have h := rplain_any t W (by omega)
        have e : plainB t.data.toList = plainN t.data.toList := by
          unfold plainB
          rw [decide_eq_true (show t.data.toList.length ≤ 64 from ht), Bool.and_true]
        rw [e] at h
        exact h
      have HPL := hide hpl
      clear hp hnp hV hpl
      go_enter Tryz.func44, Tryz.ntmps44
      go_wp2_with (go_at_call 85; refine hP.mono ?_; rintro e w' ⟨rfl, rfl⟩)
      go_loop [5] (fun n => ∃ k : Nat, n = .int .i64 k ∧ k ≤ s.size ∧ Hid (∀ i, i < k → s.data.toList[i]? = some 58 → plainN (s.data.toList.take i) = true → plainN (s.data.toList.drop (i + 1)) ≠ true)) (fun n => s.size - (Go.RowKit.intOf n).toNat)
      case atStart => exact ⟨0, rfl, by omega, hide (fun i hi => by omega)⟩
      case round =>
        obtain ⟨k, rfl, hk, hall⟩ := hrel
        by_cases hlt : k < s.size
        · have hi : (k : Int) < s.size := by omega
          have hget := data_getElem_ s k hlt
          have HA := hide (fun (hn : ¬ (s.data.toList[k]? = some 58 ∧ plainN (s.data.toList.take k) = true ∧ plainN (s.data.toList.drop (k + 1)) = true)) =>
            hide (show ∀ i, i < k + 1 → s.data.toList[i]? = some 58 → plainN (s.data.toList.take i) = true → plainN (s.data.toList.drop (i + 1)) ≠ true from fun i hi h1 h2 h3 => by
              rcases Nat.lt_or_ge i k with h | h
              · exact hall.out i h h1 h2 h3
              · obtain rfl : i = k := by omega
                exact hn ⟨h1, h2, h3⟩))
          by_cases h58 : s[k]'hlt = 58
          · have b58 : ((s[k]'hlt).toNat : Int) = 58 := by rw [h58]; rfl
            rw [h58] at hget
            have hz1 : (s.extract 0 k).size ≤ 64 := by simp; omega
            have hz2 : (s.extract (k + 1) s.size).size ≤ 64 := by simp; omega
            have d1 : (s.extract 0 k).data.toList = s.data.toList.take k := by rw [extract_data, List.drop_zero, Nat.sub_zero]
            have d2 : (s.extract (k + 1) s.size).data.toList = s.data.toList.drop (k + 1) := by rw [extract_data, List.take_of_length_le (by rw [List.length_drop]; omega)]
            have P1 := fun W => HPL.out (s.extract 0 k) W hz1
            have P2 := fun W => HPL.out (s.extract (k + 1) s.size) W hz2
            rw [d1] at P1
            rw [d2] at P2
            cases hp1 : plainN (s.data.toList.take k) with
            | false =>
              rw [hp1] at P1 HA
              have HG := hide (HA.out (fun h => by have := h.2.1; cases this))
              have HP1 := hide P1
              clear h58 hz1 hz2 d1 d2 P1 P2 hp1 hget HA hsz
              go_wp2_with (go_at_call 85; refine (HP1.out _).mono ?_; rintro e w' ⟨rfl, rfl⟩)
              go_round
              case rel => exact ⟨k + 1, by go_num, by omega, HG.out⟩
              case measure => simp [Go.RowKit.intOf]; omega
            | true =>
              rw [hp1] at P1
              cases hp2 : plainN (s.data.toList.drop (k + 1)) with
              | false =>
                rw [hp2] at P2 HA
                have HG := hide (HA.out (fun h => by have := h.2.2; cases this))
                have HP1 := hide P1
                have HP2 := hide P2
                clear h58 hz1 hz2 d1 d2 P1 P2 hp1 hp2 hget HA hsz
                go_wp2_with (go_at_call 85; (first | go_fit (HP2.out _) | go_fit (HP1.out _)); rintro e w' ⟨rfl, rfl⟩)
                go_round
                case rel => exact ⟨k + 1, by go_num, by omega, HG.out⟩
                case measure => simp [Go.RowKit.intOf]; omega
              | true =>
                rw [hp2] at P2
                have hv : V = .tuple #[.string (s.extract 0 k), .string (s.extract (k + 1) s.size), .bool true] := by
                  rw [← HV.out]
                  unfold splitV
                  rw [splitN_colon (by omega) hget hp1 hp2]
                  show Value.tuple #[.string ⟨(s.data.toList.take k).toArray⟩, .string ⟨(s.data.toList.drop (k + 1)).toArray⟩, .bool true] = _
                  rw [← self_mk d1, ← self_mk d2]
                have HG := hide hv
                have HP1 := hide P1
                have HP2 := hide P2
                have ew : IntKind.i64.wrap ((k : Int) + 1) = (k : Int) + 1 := IntWalk.i64_in _ (by omega)
                have ek : ((k : Int) + 1).toNat = k + 1 := by omega
                have ek2 : 0 ≤ (k : Int) + 1 := by omega
                have ek3 : (k : Int) + 1 ≤ s.size := by omega
                clear h58 hz1 hz2 d1 d2 P1 P2 hp1 hp2 hget HA hv hsz
                go_wp2_with (go_at_call 85; (first | go_fit (HP2.out _) | go_fit (HP1.out _)); rintro e w' ⟨rfl, rfl⟩)
                go_quiet (fail)
                go_wp2
                go_returns
                exact ⟨by rw [HG.out]; rfl, (Fr.refl _ _).drewN _⟩
          · have b58 : (((s[k]'hlt).toNat : Int) == 58) = false := by
              rw [beq_eq_false_iff_ne]
              intro e
              exact h58 (UInt8.toNat_inj.1 (by show _ = 58; omega))
            have HG := hide (HA.out (fun h => h58 (by rw [hget] at h; exact Option.some.inj h.1)))
            clear h58 hget HA hsz
            go_wp2_with fail
            go_round
            case rel => exact ⟨k + 1, by go_num, by omega, HG.out⟩
            case measure => simp [Go.RowKit.intOf]; omega
        · obtain rfl : k = s.size := by omega
          have hv : V = .tuple #[.string ⟨#[]⟩, .string ⟨#[]⟩, .bool false] := by
            rw [← HV.out]
            unfold splitV
            rw [splitN_none HNP.out (fun i h1 h2 => hall.out i (by have := (List.getElem?_eq_some_iff.1 h1).1; omega) h1 h2)]
          have HG := hide hv
          clear hv hsz
          go_wp2_with fail
          go_returns
          exact ⟨by rw [HG.out]; rfl, Fr.refl _ _⟩
    · have hv : splitV s.data.toList = .tuple #[.string ⟨#[]⟩, .string ⟨#[]⟩, .bool false] := by
        unfold splitV splitN
        rw [if_pos (by omega)]
      rw [hv]
      have hi64 : (64 : Int) < s.size := by omega
      clear hv hp hsz
      go_enter Tryz.func44, Tryz.ntmps44
      go_wp2_with (go_at_call 85; refine hP.mono ?_; rintro e w' ⟨rfl, rfl⟩)
      go_returns
      exact ⟨rfl, Fr.refl _ _⟩

set_option maxHeartbeats 4000000 in
theorem rbegin_any (s : ByteArray) (w : World) (hs : s.size ≤ 1000000) : Calls Tryz.prog 67 #[.string s] w fun e w' => e = .returned (.int .i64 (beginN s.data.toList)) ∧ Fr (fun _ => False) w w' := by
  have hsz : s.data.toList.length = s.size := rfl
  obtain ⟨m, hm⟩ : ∃ m, min s.size 64 = m := ⟨_, rfl⟩
  have hms : m ≤ s.size := by omega
  have hm64 : m ≤ 64 := by omega
  have hcase : ((s.size : Int) ≤ 64 ∧ m = s.size) ∨ (64 < (s.size : Int) ∧ m = 64) := by omega
  obtain ⟨R, hR⟩ : ∃ R, beginN s.data.toList = R := ⟨_, rfl⟩
  have HIS := hide (fun (k : Nat) (h0 : 0 < k) (hk : k ≤ m) (hok : ∃ r, splitN (s.data.toList.take k) = some r) (hno : ∀ j, k < j → j ≤ m → splitN (s.data.toList.take j) = none) =>
    (show k = R from hR ▸ beginN_is (n := k) (by omega) h0 hok (fun j h1 h2 => hno j h1 (by omega))))
  have HZ := hide (fun (hno : ∀ j, 0 < j → j ≤ m → splitN (s.data.toList.take j) = none) => (show R = 0 from hR ▸ beginN_zero (fun j h1 h2 => hno j h1 (by omega))))
  rw [hR]
  have HSP := hide (fun (t : ByteArray) (W : World) (ht : t.size ≤ 1000000) => rsplit_any t W ht)
  clear hm hR hsz
  rcases hcase with ⟨hc, rfl⟩ | ⟨hc, rfl⟩
  · go_enter Tryz.func67, Tryz.ntmps67
    go_wp2_with fail
    go_loopw [3] (fun n wr => ∃ k : Nat, n = .int .i64 k ∧ k ≤ s.size ∧ Hid (Fr (fun _ => False) w wr) ∧ Hid (∀ j, k < j → j ≤ s.size → splitN (s.data.toList.take j) = none)) (fun n _ => (Go.RowKit.intOf n).toNat)
    case atStart => exact ⟨s.size, rfl, by omega, hide (Fr.refl _ _), hide (fun j h1 h2 => by omega)⟩
    case round =>
      obtain ⟨k, rfl, hk, hfr, hno⟩ := hrel
      by_cases h0 : 0 < k
      · have hi0 : (0 : Int) < k := by omega
        have hks : (k : Int) ≤ s.size := by omega
        have hz : (s.extract 0 k).size ≤ 1000000 := by simp; omega
        have d1 : (s.extract 0 k).data.toList = s.data.toList.take k := by rw [extract_data, List.drop_zero, Nat.sub_zero]
        have P1 := fun W => HSP.out (s.extract 0 k) W hz
        rw [d1] at P1
        unfold splitV at P1
        have hslk : ∀ W : World, (Instr.slice 9 (.string s) none (some (.int .i64 (k : Int))) none).run Tryz.prog W = .ok (.string (s.extract 0 k)) W := fun W => by
          rw [run_slice_string_h (P := Tryz.prog) W 9 s Tryz.underlying9 .i64 _ (by omega) (by omega), Int.toNat_natCast]
        cases hsp : splitN (s.data.toList.take k) with
        | some x =>
          obtain ⟨x1, x2⟩ := x
          rw [hsp] at P1
          have hk2 := HIS.out k h0 hk ⟨_, hsp⟩ hno.out
          have HK := hide hk2
          have HP1 := hide P1
          clear hk2 P1 hsp d1 hz
          go_wp2_with (go_at_call 44; refine (HP1.out _).mono ?_; rintro e w1 ⟨rfl, f1⟩)
          go_ret
          exact ⟨by rw [← HK.out]; rfl, hfr.out.trans f1⟩
        | none =>
          rw [hsp] at P1
          have HN := hide (show ∀ j, k - 1 < j → j ≤ s.size → splitN (s.data.toList.take j) = none from fun j h1 h2 => by
            rcases Nat.lt_or_ge k j with h | h
            · exact hno.out j h h2
            · obtain rfl : j = k := by omega
              exact hsp)
          have HP1 := hide P1
          clear P1 hsp d1 hz
          go_wp2_with (go_at_call 44; refine (HP1.out _).mono ?_; rintro e w1 ⟨rfl, f1⟩)
          go_roundw
          case rel => exact ⟨k - 1, by first | go_num | (congr 1; omega), by omega, hide (hfr.out.trans f1), HN⟩
          case measure => simp [Go.RowKit.intOf]; omega
      · obtain rfl : k = 0 := by omega
        have HG := hide (HZ.out hno.out)
        clear h0
        go_wp2_with fail
        go_ret
        exact ⟨by rw [HG.out]; rfl, hfr.out⟩
  · go_enter Tryz.func67, Tryz.ntmps67
    go_wp2_with fail
    go_loopw [3] (fun n wr => ∃ k : Nat, n = .int .i64 k ∧ k ≤ 64 ∧ Hid (Fr (fun _ => False) w wr) ∧ Hid (∀ j, k < j → j ≤ 64 → splitN (s.data.toList.take j) = none)) (fun n _ => (Go.RowKit.intOf n).toNat)
    case atStart => exact ⟨64, rfl, by omega, hide (Fr.refl _ _), hide (fun j h1 h2 => by omega)⟩
    case round =>
      obtain ⟨k, rfl, hk, hfr, hno⟩ := hrel
      by_cases h0 : 0 < k
      · have hi0 : (0 : Int) < k := by omega
        have hks : (k : Int) ≤ s.size := by omega
        have hz : (s.extract 0 k).size ≤ 1000000 := by simp; omega
        have d1 : (s.extract 0 k).data.toList = s.data.toList.take k := by rw [extract_data, List.drop_zero, Nat.sub_zero]
        have P1 := fun W => HSP.out (s.extract 0 k) W hz
        rw [d1] at P1
        unfold splitV at P1
        have hslk : ∀ W : World, (Instr.slice 9 (.string s) none (some (.int .i64 (k : Int))) none).run Tryz.prog W = .ok (.string (s.extract 0 k)) W := fun W => by
          rw [run_slice_string_h (P := Tryz.prog) W 9 s Tryz.underlying9 .i64 _ (by omega) (by omega), Int.toNat_natCast]
        cases hsp : splitN (s.data.toList.take k) with
        | some x =>
          obtain ⟨x1, x2⟩ := x
          rw [hsp] at P1
          have hk2 := HIS.out k h0 hk ⟨_, hsp⟩ hno.out
          have HK := hide hk2
          have HP1 := hide P1
          clear hk2 P1 hsp d1 hz
          go_wp2_with (go_at_call 44; refine (HP1.out _).mono ?_; rintro e w1 ⟨rfl, f1⟩)
          go_ret
          exact ⟨by rw [← HK.out]; rfl, hfr.out.trans f1⟩
        | none =>
          rw [hsp] at P1
          have HN := hide (show ∀ j, k - 1 < j → j ≤ 64 → splitN (s.data.toList.take j) = none from fun j h1 h2 => by
            rcases Nat.lt_or_ge k j with h | h
            · exact hno.out j h h2
            · obtain rfl : j = k := by omega
              exact hsp)
          have HP1 := hide P1
          clear P1 hsp d1 hz
          go_wp2_with (go_at_call 44; refine (HP1.out _).mono ?_; rintro e w1 ⟨rfl, f1⟩)
          go_roundw
          case rel => exact ⟨k - 1, by first | go_num | (congr 1; omega), by omega, hide (hfr.out.trans f1), HN⟩
          case measure => simp [Go.RowKit.intOf]; omega
      · obtain rfl : k = 0 := by omega
        have HG := hide (HZ.out hno.out)
        clear h0
        go_wp2_with fail
        go_ret
        exact ⟨by rw [HG.out]; rfl, hfr.out⟩
end Go.Proofs.YtalbehjjgdedcaaGreatDoor
