/- the reference's entity layer: Decode, Encode. -/
import Derived.Test.YtalbehjjgdedcaaGreatDoorEntF
namespace Go.Proofs.YtalbehjjgdedcaaGreatDoor
open Go.RowKit Go.Lib
attribute [local go_sem ↓] Go.wp_at_zero Go.wp_at_succ

set_option maxRecDepth 100000 in
set_option maxHeartbeats 4000000 in
theorem rdecode_any (s : ByteArray) (w : World) (hs : s.size ≤ 100000) :
    Calls Tryz.prog 34 #[.string s] w fun e w' => e = .returned (wp3 (decodeR s.data.toList)) ∧ Fr (fun _ => False) w w' := by
  have hl : s.data.toList.length = s.size := rfl
  obtain ⟨R, hR⟩ : ∃ R, decodeR s.data.toList = R := ⟨_, rfl⟩
  rw [hR]
  unfold decodeR at hR
  rw [hl] at hR
  have HR := hide hR
  clear hR
  go_enter Tryz.func34, Tryz.ntmps34
  go_wp2_with fail
  go_loopw [5, 6] (fun o i wr => ∃ (p f : Nat) (A : ByteArray), o = .string A ∧ i = .int .i64 p ∧ p ≤ s.size ∧ A.size ≤ 4 * p ∧ Hid (Fr (fun _ => False) w wr) ∧ Hid (decode f (s.data.toList.drop p) A.data.toList p = R ∧ s.size ≤ p + f)) (fun _ i _ => s.size - (Go.RowKit.intOf i).toNat)
  case atStart => exact ⟨0, s.size, ⟨#[]⟩, rfl, rfl, by omega, by decide, Fr.refl _ _, by simpa using HR.out, by omega⟩
  case round =>
    obtain ⟨p, f, A, rfl, rfl, hp, hA, hfr, hd⟩ := hrel
    by_cases hps : p < s.size
    · obtain ⟨f, rfl⟩ : ∃ f', f = f' + 1 := ⟨f - 1, by have := hd.out.2; omega⟩
      have hpi : (p : Int) < (s.size : Int) := by omega
      have hext : (s.extract p s.size).data.toList = s.data.toList.drop p := extract_to_end s p
      have hsz : (s.extract p s.size).size ≤ 100000 := by
        have : (s.extract p s.size).data.toList.length = (s.extract p s.size).size := rfl
        rw [hext, List.length_drop] at this
        omega
      have hcons : s.data.toList.drop p = s[p]'hps :: s.data.toList.drop (p + 1) := by
        rw [List.drop_eq_getElem_cons (by omega)]
        rfl
      have hl0 : s.data.toList.drop p ≠ [] := by rw [hcons]; simp
      have HRF := rreference_any (s.extract p s.size) wr (by omega)
      rw [hext] at HRF
      have HRF := hide HRF
      have hdec := hd.out.1
      unfold decode at hdec
      rw [if_neg hl0] at hdec
      have hslen := step_len (s.data.toList.drop p)
      by_cases hr : (refP (s.data.toList.drop p)).2 ≠ 0
      · have hst2 : stepD (s.data.toList.drop p) = ((refP (s.data.toList.drop p)).1, (refP (s.data.toList.drop p)).2, 0) := by unfold stepD; rw [if_pos hr]
        have hbd := (stepD_app hl0 (by rw [hst2]) []).2.2.1
        rw [hst2] at hdec hslen hbd
        simp only [ne_eq, not_true_eq_false, if_false, List.drop_drop] at hdec hslen hbd
        rw [List.length_drop] at hbd
        obtain ⟨C, hC⟩ : ∃ C : ByteArray, (⟨(refP (s.data.toList.drop p)).1.toArray⟩ : ByteArray) = C := ⟨_, rfl⟩
        have hCl : (refP (s.data.toList.drop p)).1 = C.data.toList := by rw [← hC]
        rw [hC] at HRF
        rw [hCl] at hdec hslen
        have hCz : C.data.toList.length = C.size := rfl
        have HD := hide (show decode f (s.data.toList.drop (p + (refP (s.data.toList.drop p)).2)) (A ++ C).data.toList (p + (refP (s.data.toList.drop p)).2) = R by rw [app_data]; exact hdec)
        have hAC : (A ++ C).size = A.size + C.size := by simp
        have HAC := hide hAC
        clear hdec hst2 hext hsz hcons hl0 hC hCl hAC
        generalize (refP (s.data.toList.drop p)).2 = n at *
        have hn0 : (0 : Int) < (n : Int) := by omega
        go_wp2_with (go_at_call 66; refine HRF.out.mono ?_; rintro e w1 ⟨rfl, f1⟩)
        go_roundw
        case rel => exact ⟨p + n, f, A ++ C, rfl, by go_num, by omega, by rw [HAC.out]; omega, hfr.out.trans f1, HD.out, by have := hd.out.2; omega⟩
        case measure => simp [Go.RowKit.intOf]; omega
      · have hr0 : refP (s.data.toList.drop p) = ([], 0) := by
          rcases refP_cases (s.data.toList.drop p) with h | ⟨a, b, _, _, _, h⟩
          · exact h
          · exact absurd (by rw [h]; simp) hr
        rw [hr0] at HRF
        have hhd : (s.data.toList.drop p).head? = some (s[p]'hps) := by rw [hcons]; rfl
        by_cases h38 : s[p]'hps = 38
        · have hst2 : stepD (s.data.toList.drop p) = ([], 0, 30) := by unfold stepD; rw [if_neg hr, hhd, h38, if_pos rfl]
          rw [hst2] at hdec
          simp only [ne_eq] at hdec
          rw [if_pos (by decide : ¬ (30 : Int) = 0)] at hdec
          have hb : (((s[p]'hps).toNat : Int)) = 38 := by rw [h38]; rfl
          clear hst2 hext hsz hcons hl0 hr0 hr hhd h38 hslen
          subst hdec
          go_wp2_with (go_at_call 66; refine HRF.out.mono ?_; rintro e w1 ⟨rfl, f1⟩)
          go_returns
          exact ⟨rfl, hfr.out.trans f1⟩
        · have hst2 : stepD (s.data.toList.drop p) = ((s.data.toList.drop p).take (nextR (s.data.toList.drop p)).2.1, (nextR (s.data.toList.drop p)).2.1, (nextR (s.data.toList.drop p)).2.2) := by
            unfold stepD
            rw [if_neg hr, hhd, if_neg (fun e => h38 (by simpa using e))]
          have hb : ¬ (((s[p]'hps).toNat : Int)) = 38 := fun e => h38 (UInt8.toNat_inj.1 (by show _ = 38; omega))
          have HN := fun W => rnext_any (s.extract p s.size) W (by omega)
          rw [hext] at HN
          by_cases he : (nextR (s.data.toList.drop p)).2.2 = 0
          · have hbd := (stepD_app hl0 (by rw [hst2]; exact he) []).2.2.1
            have hbk := (stepD_app hl0 (by rw [hst2]; exact he) []).2.1
            rw [hst2, he] at hdec
            rw [hst2] at hbd hslen hbk
            simp only [ne_eq, not_true_eq_false, if_false, List.drop_drop] at hdec hbd hslen hbk
            rw [List.length_drop] at hbd
            rw [he] at HN
            have hcx : (s.extract p (p + (nextR (s.data.toList.drop p)).2.1)).data.toList = (s.data.toList.drop p).take (nextR (s.data.toList.drop p)).2.1 := by
              rw [extract_toList]
              congr 1
              omega
            rw [← hcx] at hdec hslen
            have hxz : (s.extract p (p + (nextR (s.data.toList.drop p)).2.1)).data.toList.length = (s.extract p (p + (nextR (s.data.toList.drop p)).2.1)).size := rfl
            rw [hxz] at hslen
            have HD := hide (show decode f (s.data.toList.drop (p + (nextR (s.data.toList.drop p)).2.1)) (A ++ s.extract p (p + (nextR (s.data.toList.drop p)).2.1)).data.toList (p + (nextR (s.data.toList.drop p)).2.1) = R by rw [app_data]; exact hdec)
            have HAC := hide (show (A ++ s.extract p (p + (nextR (s.data.toList.drop p)).2.1)).size ≤ 4 * (p + (nextR (s.data.toList.drop p)).2.1) by rw [show (A ++ s.extract p (p + (nextR (s.data.toList.drop p)).2.1)).size = A.size + (s.extract p (p + (nextR (s.data.toList.drop p)).2.1)).size by simp only [ByteArray.size_append]]; omega)
            have HN := hide HN
            clear hdec hst2 hext hsz hcons hl0 hr0 hr hhd h38 he hcx hxz hslen
            generalize (nextR (s.data.toList.drop p)).1 = x at *
            generalize (nextR (s.data.toList.drop p)).2.1 = k at *
            have ewk : IntKind.i64.wrap ((p : Int) + (k : Int)) = (p : Int) + (k : Int) := IntWalk.i64_in _ (by omega)
            go_wp2_with (first
              | (go_at_call 66; refine HRF.out.mono ?_; rintro e w1 ⟨rfl, f1⟩)
              | (go_at_call 45; refine (HN.out _).mono ?_; rintro e w2 ⟨rfl, f2⟩))
            go_roundw
            case rel => exact ⟨p + k, f, A ++ s.extract p (p + k), rfl, by go_num, by omega, HAC.out, (hfr.out.trans f1).trans f2, HD.out, by have := hd.out.2; omega⟩
            case measure => simp [Go.RowKit.intOf]; omega
          · rw [hst2] at hdec
            simp only [ne_eq, he, not_false_eq_true, if_true] at hdec
            have heb : ((nextR (s.data.toList.drop p)).2.2 != 0) = true := by simpa using he
            have HN := hide HN
            clear hst2 hext hsz hcons hl0 hr0 hr hhd h38 hslen he
            generalize (nextR (s.data.toList.drop p)).1 = x at *
            generalize (nextR (s.data.toList.drop p)).2.1 = k at *
            generalize (nextR (s.data.toList.drop p)).2.2 = e0 at *
            subst hdec
            go_wp2_with (first
              | (go_at_call 66; refine HRF.out.mono ?_; rintro e w1 ⟨rfl, f1⟩)
              | (go_at_call 45; refine (HN.out _).mono ?_; rintro e w2 ⟨rfl, f2⟩))
            go_returns
            exact ⟨rfl, (hfr.out.trans f1).trans f2⟩
    · obtain rfl : p = s.size := by omega
      have hdec := hd.out.1
      rw [List.drop_of_length_le (by omega)] at hdec
      have hR : R = (A.data.toList, 0, 0) := by
        rw [← hdec]
        cases f with
        | zero => rfl
        | succ f => rfl
      subst hR
      clear hdec
      go_wp2_with fail
      go_returns
      exact ⟨rfl, hfr.out⟩

/-! Encode -/
def wp2 (r : List UInt8 × Int) : Value := .tuple #[.string ⟨r.1.toArray⟩, .int .i64 r.2]
theorem esc_len (attr : Bool) (b : UInt8) : (escL attr b).length ≤ 6 := by
  unfold escL
  repeat' split
  all_goals simp
theorem enc_len (attr : Bool) (l : List UInt8) : (encL attr l).length ≤ 6 * l.length := by
  induction l with
  | nil => simp [encL]
  | cons b l ih =>
    unfold encL at ih ⊢
    rw [List.flatMap_cons, List.length_append, List.length_cons]
    have := esc_len attr b
    omega
/-- a byte's case -/
def escC (attr : Bool) (b : UInt8) : Nat := if b = 38 then 0 else if b = 60 then 1 else if b = 62 then 2 else if b = 13 then 3 else if b = 34 ∧ attr = true then 4 else if b = 9 ∧ attr = true then 5 else if b = 10 ∧ attr = true then 6 else 7
theorem bi {b : UInt8} {n : Nat} (h : b.toNat = n) : ((b.toNat : Int)) = n := by omega
theorem bn {b c : UInt8} (h : b ≠ c) : ¬ ((b.toNat : Int)) = (c.toNat : Int) := byte_ne h

set_option maxRecDepth 100000 in
set_option maxHeartbeats 8000000 in
theorem rencode_any (s : ByteArray) (attr : Bool) (w : World) (hs : s.size ≤ 100000) :
    Calls Tryz.prog 43 #[.string s, .bool attr] w fun e w' => e = .returned (wp2 (encodeR attr s.data.toList)) ∧ Fr (fun _ => False) w w' := by
  have hl : s.data.toList.length = s.size := rfl
  have HV := rvalid_any s w (by omega)
  by_cases hv : (validR s.data.toList).2 = 0
  · have hr : encodeR attr s.data.toList = (encL attr s.data.toList, 0) := by unfold encodeR; rw [if_pos hv]
    rw [hr]
    rw [hv] at HV
    have HV := hide HV
    clear hr hv
    generalize (validR s.data.toList).1 = vk at *
    go_enter Tryz.func43, Tryz.ntmps43
    go_wp2_with (go_at_call 19; refine HV.out.mono ?_; rintro e w1 ⟨rfl, f1⟩)
    go_loopw [8, 9] (fun o i wr => ∃ (p : Nat) (A : ByteArray), o = .string A ∧ i = .int .i64 p ∧ p ≤ s.size ∧ A.size ≤ 6 * p ∧ w1 = wr ∧ Hid (A.data.toList = encL attr (s.data.toList.take p))) (fun _ i _ => s.size - (Go.RowKit.intOf i).toNat)
    case atStart => exact ⟨0, ⟨#[]⟩, rfl, rfl, by omega, by decide, by trivial, hide (by simp [encL])⟩
    case round =>
      obtain ⟨p, A, rfl, rfl, hp, hA, rfl, he⟩ := hrel
      by_cases hps : p < s.size
      · have hpi : (p : Int) < (s.size : Int) := by omega
        have hget : s.data.toList[p]? = some (s[p]'hps) := data_getElem? s p hps
        have hstep : ∀ C : ByteArray, C.data.toList = escL attr (s[p]'hps) → (A ++ C).data.toList = encL attr (s.data.toList.take (p + 1)) ∧ (A ++ C).size ≤ 6 * (p + 1) := fun C hC => by
          have hCz : C.data.toList.length = C.size := rfl
          have := esc_len attr (s[p]'hps)
          constructor
          · rw [app_data, he.out, hC, List.take_add_one, hget, Option.toList_some]
            simp [encL]
          · rw [ByteArray.size_append]
            rw [hC] at hCz
            omega
        have HS := hide hstep
        clear hstep hget
        have hone : (s.extract p (p + 1)).data.toList = [s[p]'hps] := by
          rw [extract_toList, List.drop_eq_getElem_cons (by omega), show p + 1 - p = 1 by omega]
          rfl
        have HO := hide hone
        clear hone
        by_cases b38 : s[p]'hps = 38
        · have hb : ((s[p]'hps).toNat : Int) = 38 := by rw [b38]; rfl
          obtain ⟨n1, n2⟩ := HS.out ⟨#[38, 97, 109, 112, 59]⟩ (by rw [b38]; rfl)
          have N1 := hide n1
          have N2 := hide n2
          clear b38 n1 n2
          go_wp2_with fail
          go_roundw
          case rel => exact ⟨p + 1, A ++ ⟨#[38, 97, 109, 112, 59]⟩, rfl, by go_num, by omega, N2.out, by trivial, N1⟩
          case measure => simp [Go.RowKit.intOf]; omega
        · by_cases b60 : s[p]'hps = 60
          · have hb : ((s[p]'hps).toNat : Int) = 60 := by rw [b60]; rfl
            obtain ⟨n1, n2⟩ := HS.out ⟨#[38, 108, 116, 59]⟩ (by rw [b60]; rfl)
            have N1 := hide n1
            have N2 := hide n2
            clear b60 n1 n2 b38
            go_wp2_with fail
            go_roundw
            case rel => exact ⟨p + 1, A ++ ⟨#[38, 108, 116, 59]⟩, rfl, by go_num, by omega, N2.out, by trivial, N1⟩
            case measure => simp [Go.RowKit.intOf]; omega
          · by_cases b62 : s[p]'hps = 62
            · have hb : ((s[p]'hps).toNat : Int) = 62 := by rw [b62]; rfl
              obtain ⟨n1, n2⟩ := HS.out ⟨#[38, 103, 116, 59]⟩ (by rw [b62]; rfl)
              have N1 := hide n1
              have N2 := hide n2
              clear b62 n1 n2 b38 b60
              go_wp2_with fail
              go_roundw
              case rel => exact ⟨p + 1, A ++ ⟨#[38, 103, 116, 59]⟩, rfl, by go_num, by omega, N2.out, by trivial, N1⟩
              case measure => simp [Go.RowKit.intOf]; omega
            · by_cases b13 : s[p]'hps = 13
              · have hb : ((s[p]'hps).toNat : Int) = 13 := by rw [b13]; rfl
                obtain ⟨n1, n2⟩ := HS.out ⟨#[38, 35, 49, 51, 59]⟩ (by rw [b13]; rfl)
                have N1 := hide n1
                have N2 := hide n2
                clear b13 n1 n2 b38 b60 b62
                go_wp2_with fail
                go_roundw
                case rel => exact ⟨p + 1, A ++ ⟨#[38, 35, 49, 51, 59]⟩, rfl, by go_num, by omega, N2.out, by trivial, N1⟩
                case measure => simp [Go.RowKit.intOf]; omega
              · by_cases b34 : s[p]'hps = 34 ∧ attr = true
                · obtain ⟨b34, rfl⟩ := b34
                  have hb : ((s[p]'hps).toNat : Int) = 34 := by rw [b34]; rfl
                  obtain ⟨n1, n2⟩ := HS.out ⟨#[38, 113, 117, 111, 116, 59]⟩ (by rw [b34]; rfl)
                  have N1 := hide n1
                  have N2 := hide n2
                  clear b34 n1 n2 b38 b60 b62 b13
                  go_wp2_with fail
                  go_roundw
                  case rel => exact ⟨p + 1, A ++ ⟨#[38, 113, 117, 111, 116, 59]⟩, rfl, by go_num, by omega, N2.out, by trivial, N1⟩
                  case measure => simp [Go.RowKit.intOf]; omega
                · by_cases b9 : s[p]'hps = 9 ∧ attr = true
                  · obtain ⟨b9, rfl⟩ := b9
                    have hb : ((s[p]'hps).toNat : Int) = 9 := by rw [b9]; rfl
                    obtain ⟨n1, n2⟩ := HS.out ⟨#[38, 35, 57, 59]⟩ (by rw [b9]; rfl)
                    have N1 := hide n1
                    have N2 := hide n2
                    clear b9 n1 n2 b38 b60 b62 b13 b34
                    go_wp2_with fail
                    go_roundw
                    case rel => exact ⟨p + 1, A ++ ⟨#[38, 35, 57, 59]⟩, rfl, by go_num, by omega, N2.out, by trivial, N1⟩
                    case measure => simp [Go.RowKit.intOf]; omega
                  · by_cases b10 : s[p]'hps = 10 ∧ attr = true
                    · obtain ⟨b10, rfl⟩ := b10
                      have hb : ((s[p]'hps).toNat : Int) = 10 := by rw [b10]; rfl
                      obtain ⟨n1, n2⟩ := HS.out ⟨#[38, 35, 49, 48, 59]⟩ (by rw [b10]; rfl)
                      have N1 := hide n1
                      have N2 := hide n2
                      clear b10 n1 n2 b38 b60 b62 b13 b34 b9
                      go_wp2_with fail
                      go_roundw
                      case rel => exact ⟨p + 1, A ++ ⟨#[38, 35, 49, 48, 59]⟩, rfl, by go_num, by omega, N2.out, by trivial, N1⟩
                      case measure => simp [Go.RowKit.intOf]; omega
                    · have hesc : escL attr (s[p]'hps) = [s[p]'hps] := by unfold escL; rw [if_neg b38, if_neg b60, if_neg b62, if_neg b13, if_neg b34, if_neg b9, if_neg b10]
                      obtain ⟨n1, n2⟩ := HS.out (s.extract p (p + 1)) (by rw [hesc]; exact HO.out)
                      have N1 := hide n1
                      have N2 := hide n2
                      have e38 : ¬ ((s[p]'hps).toNat : Int) = 38 := byte_ne b38
                      have e60 : ¬ ((s[p]'hps).toNat : Int) = 60 := byte_ne b60
                      have e62 : ¬ ((s[p]'hps).toNat : Int) = 62 := byte_ne b62
                      have e13 : ¬ ((s[p]'hps).toNat : Int) = 13 := byte_ne b13
                      clear n1 n2 hesc b38 b60 b62 b13
                      cases attr with
                      | false =>
                        go_wp2_with fail
                        all_goals
                          go_roundw
                          case rel => exact ⟨p + 1, A ++ s.extract p (p + 1), rfl, by go_num, by omega, N2.out, by trivial, N1⟩
                          case measure => simp [Go.RowKit.intOf]; omega
                      | true =>
                        have e34 : ¬ ((s[p]'hps).toNat : Int) = 34 := byte_ne (fun h => b34 ⟨h, rfl⟩)
                        have e9 : ¬ ((s[p]'hps).toNat : Int) = 9 := byte_ne (fun h => b9 ⟨h, rfl⟩)
                        have e10 : ¬ ((s[p]'hps).toNat : Int) = 10 := byte_ne (fun h => b10 ⟨h, rfl⟩)
                        clear b34 b9 b10
                        go_wp2_with fail
                        go_roundw
                        case rel => exact ⟨p + 1, A ++ s.extract p (p + 1), rfl, by go_num, by omega, N2.out, by trivial, N1⟩
                        case measure => simp [Go.RowKit.intOf]; omega
      · obtain rfl : p = s.size := by omega
        have hA2 := he.out
        rw [List.take_of_length_le (by omega)] at hA2
        have HA2 := hide hA2
        clear hA2
        go_wp2_with fail
        go_ret2
        exact ⟨by rw [← HA2.out]; rfl, f1⟩
  · have hr : encodeR attr s.data.toList = ([], 10) := by unfold encodeR; rw [if_neg hv]
    rw [hr]
    rw [validR_err hv] at HV
    have HV := hide HV
    clear hr hv
    generalize (validR s.data.toList).1 = vk at *
    go_enter Tryz.func43, Tryz.ntmps43
    go_wp2_with (go_at_call 19; refine HV.out.mono ?_; rintro e w1 ⟨rfl, f1⟩)
    go_ret2
    exact ⟨rfl, f1⟩
end Go.Proofs.YtalbehjjgdedcaaGreatDoor
