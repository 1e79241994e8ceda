/- token: tokens stand in order. -/
import Derived.Test.YtalbehjjgdedcaaGreatDoorTokW
namespace Go.Proofs.YtalbehjjgdedcaaGreatDoor
open Go.RowKit Go.Lib
attribute [local go_sem ↓] Go.wp_at_zero Go.wp_at_succ

theorem validR_place (l : List UInt8) : (validR l).1 ≤ l.length := by
  unfold validR
  split
  · rename_i h; exact Nat.le_of_lt h
  · exact Nat.zero_le _
theorem tokR_err {l : List UInt8} (hs : l.length ≤ 65536) (h : (tokR l).2.2 ≠ 0) : (tokR l).1 = [] ∧ (tokR l).2.1 ≤ l.length := by
  unfold tokR at h ⊢
  rw [if_neg (by omega)] at h ⊢
  by_cases hv : (validR l).2 ≠ 0
  · rw [if_pos hv]; exact ⟨rfl, validR_place l⟩
  · rw [if_neg hv] at h ⊢
    have := tokS_err l 0 [] h
    exact ⟨this.1, by omega⟩
theorem tokR_ok {l : List UInt8} (hs : l.length ≤ 65536) (h : (tokR l).2.2 = 0) : (tokR l).2.1 = 0 ∧ ordT l 0 (tokR l).1 := by
  unfold tokR at h ⊢
  rw [if_neg (by omega)] at h ⊢
  by_cases hv : (validR l).2 ≠ 0
  · rw [if_pos hv] at h; exact absurd h hv
  · rw [if_neg hv] at h ⊢
    obtain ⟨more, h1, h2⟩ := tokS_order l l 0 [] rfl h
    rw [List.nil_append] at h1
    rw [h1]
    exact ⟨tokS_ok0 l 0 [] h, h2⟩

/-- what a round of the law sees of a token -/
def RoundT (l : List UInt8) (z : Int) (m : Tok) (rest : List Tok) : Prop := (z + 1).toNat ≤ m.at_ ∧ m.at_ < l.length ∧ (1 ≤ m.kind ∧ m.kind ≤ 4) ∧ (l[m.at_]? = some 60 ↔ m.kind ≠ 4) ∧ (m.name = [] ↔ m.kind = 4) ∧ m.attrs.length ≤ 32 ∧ (0 < m.attrs.length → m.kind ≠ 2 ∧ m.kind ≠ 4) ∧ ordT l (m.at_ + 1) rest

set_option maxRecDepth 100000 in
set_option maxHeartbeats 8000000 in
theorem tokenOrder_ok (s : ByteArray) (w : World) (hi : ¬ (800 : Int) < s.size) (hi2 : (s.size : Int) ≤ 800)
    (HST : Hid (∀ W, Fr (fun _ => False) w W → Calls Tryz.prog 11 #[] W fun e w' => e = .returned (.bool true) ∧ Fr (fun _ => False) W w'))
    (HTK : Hid (Calls Tryz.prog 13 #[.string s] w fun e w' => ∃ A c o X, e = .returned (.tuple #[.slice A X.length c, .int .i64 0, .int .i64 0]) ∧ TokL w' w.heap.size (.slice A X.length c) o X ∧ ordT s.data.toList 0 (X.map (·.m)) ∧ Fr (fun _ => False) w w')) :
    Calls Tryz.prog 20 #[.string s] w fun e w' => e = .returned (.bool true) ∧ Fr (fun _ => False) w w' := by
  have hl : s.data.toList.length = s.size := rfl
  go_enter Tryz.func20, Tryz.ntmps20
  go_wp2_with (go_at_call 13; refine HTK.out.mono ?_; rintro e w1 ⟨A, c, o, X, rfl, tl, ord, f1⟩; have TL := hide tl; have ORD := hide ord; have F1 := hide f1; clear tl ord f1)
  have hXm : X.length ≤ 9223372036854775807 := by
    obtain ⟨A2, cp2, hv2, h5, h6⟩ := TL.out.own.form
    rw [List.length_map] at h5
    unfold maxLen at h6
    omega
  go_loopw [6, 7] (fun v i wr => ∃ (k : Nat) (z : Int), i = .int .i64 k ∧ v = .int .i64 z ∧ k ≤ X.length ∧ -1 ≤ z ∧ z ≤ 1000000 ∧ Hid (Fr (fun _ => False) w1 wr) ∧ Hid (ordT s.data.toList (z + 1).toNat ((X.map (·.m)).drop k))) (fun _ i _ => X.length - (Go.RowKit.intOf i).toNat)
  case atStart => exact ⟨0, -1, rfl, rfl, Nat.zero_le _, by omega, by omega, hide (Fr.refl _ _), by simpa using ORD⟩
  case round =>
    obtain ⟨k, z, rfl, rfl, hk, hz1, hz2, hfr, hr⟩ := hrel
    by_cases hlt : k < X.length
    · have hki : (k : Int) < X.length := by omega
      have hXp : 0 < X.length := by omega
      obtain ⟨g, off, rfl, -⟩ := TL.out.addr hXp
      obtain ⟨q0, q1, q2, q3, q4, q5⟩ := (TL.out.fr hfr.out (fun _ _ _ _ h => h)).cells hlt
      have hrd : RoundT s.data.toList z X[k].m ((X.map (·.m)).drop (k + 1)) := by
        have h := hr.out
        rw [List.drop_eq_getElem_cons (by rw [List.length_map]; exact hlt), List.getElem_map, ordT] at h
        exact h
      clear q5 q3
      generalize X[k].m = m at *
      generalize X[k].t.A = tA at *
      generalize X[k].t.c = tc at *
      obtain ⟨kd, nm, vs, tx, ta⟩ := m
      obtain ⟨r1, r2, r3, r4, r5, r6, r7, r8⟩ := hrd
      simp only at r1 r2 r3 r4 r5 r6 r7 r8 q0 q1 q2 q4
      have HR8 := hide (show ordT s.data.toList ((ta : Int) + 1).toNat ((X.map (·.m)).drop (k + 1)) by rw [show ((ta : Int) + 1).toNat = ta + 1 by omega]; exact r8)
      have hta : ta < s.size := r2
      have htai : (ta : Int) < s.size := by omega
      have htaz : ¬ (ta : Int) ≤ z := by omega
      have htad : decide ((ta : Int) ≤ z) = false := decide_eq_false htaz
      have htas : decide ((s.size : Int) ≤ (ta : Int)) = false := decide_eq_false (by omega)
      have hta0 : (0 : Int) ≤ (ta : Int) := by omega
      have hget := data_getElem_ s ta hta
      rw [hget] at r4
      obtain ⟨nb, hnb⟩ : ∃ nb : ByteArray, (⟨nm.toArray⟩ : ByteArray) = nb := ⟨_, rfl⟩
      rw [hnb] at q1
      obtain ⟨n, hn⟩ : ∃ n, vs.length = n := ⟨_, rfl⟩
      rw [hn] at q2 r6 r7
      have hn32 : (n : Int) ≤ 32 := by omega
      simp only [Nat.add_zero, ← Nat.add_assoc] at q0 q1 q2 q4
      have hta6 : ta ≤ 1000000 := by omega
      by_cases h4 : kd = 4
      · subst h4
        have hn0 : n = 0 := by
          rcases Nat.eq_zero_or_pos n with h | h
          · exact h
          · exact absurd rfl (r7 h).2
        subst hn0
        obtain rfl : nm = [] := r5.2 rfl
        have hnb' : nb = ⟨#[]⟩ := hnb.symm
        subst hnb'
        have b60 : (((s[ta]'hta).toNat : Int) == 60) = false := by
          rw [beq_eq_false_iff_ne]
          intro e
          exact (r4.1 (by rw [show s[ta]'hta = 60 from UInt8.toNat_inj.1 (by show _ = 60; omega)])) rfl
        clear r1 r2 r3 r4 r5 r6 r7 r8 hn hnb hget htaz hlt hr hl
        go_wp2_with fail
        go_quiet (fail)
        go_wp2_with fail
        go_roundw
        case rel => exact ⟨k + 1, ta, by go_num, rfl, by omega, by omega, by omega, hide (hfr.out.drewN _), HR8⟩
        case measure => simp [Go.RowKit.intOf]; omega
      · have hnm : nm ≠ [] := fun e => h4 (r5.1 e)
        have hnb0 : 0 < nb.size := by rw [← hnb, mk_size]; exact List.length_pos_iff.2 hnm
        obtain ⟨iE, iE2⟩ := ne_nil_ hnb0
        have b60 : ((s[ta]'hta).toNat : Int) = 60 := by
          have := Option.some.inj (r4.2 h4)
          rw [this]; rfl
        have hcase : n = 0 ∨ (0 < n ∧ kd ≠ 2) := by
          rcases Nat.eq_zero_or_pos n with h | h
          · exact .inl h
          · exact .inr ⟨h, (r7 h).1⟩
        have k1 : decide ((kd : Int) < 1) = false := decide_eq_false (by omega)
        have k4 : decide ((4 : Int) < (kd : Int)) = false := decide_eq_false (by omega)
        have k4n : ((kd : Int) != 4) = true := by rw [bne_iff_ne]; omega
        have k4e : ((kd : Int) == 4) = false := by rw [beq_eq_false_iff_ne]; omega
        rcases hcase with rfl | ⟨hn0, hk2⟩
        · clear r1 r2 r3 r4 r5 r6 r7 r8 hnb hget htaz hlt hr hl h4 hnm hnb0 hn
          go_wp2_with fail
          go_quiet (fail)
          go_wp2_with fail
          go_roundw
          case rel => exact ⟨k + 1, ta, by go_num, rfl, by omega, by omega, by omega, hide (hfr.out.drewN _), HR8⟩
          case measure => simp [Go.RowKit.intOf]; omega
        · have hn0i : (0 : Int) < n := by omega
          have hn0d : decide ((0 : Int) < (n : Int)) = true := decide_eq_true hn0i
          have hn32' : decide ((32 : Int) < (n : Int)) = false := decide_eq_false (by omega)
          have k2e : ((kd : Int) == 2) = false := by rw [beq_eq_false_iff_ne]; omega
          clear r1 r2 r3 r4 r5 r6 r7 r8 hnb hget htaz hlt hr hl h4 hnm hnb0 hn hk2
          go_wp2_with fail
          go_quiet (fail)
          go_wp2_with fail
          go_roundw
          case rel => exact ⟨k + 1, ta, by go_num, rfl, by omega, by omega, by omega, hide (hfr.out.drewN _), HR8⟩
          case measure => simp [Go.RowKit.intOf]; omega
    · obtain rfl : k = X.length := by omega
      go_wp2_with (go_at_call 11; refine (HST.out _ (F1.out.trans hfr.out)).mono ?_; rintro e w2 ⟨rfl, f2⟩)
      go_ret
      exact ⟨rfl, (F1.out.trans hfr.out).trans f2⟩

set_option maxRecDepth 100000 in
set_option maxHeartbeats 8000000 in
theorem tokenOrder_any (s : ByteArray) (w : World) (hst : St w) : Calls Tryz.prog 20 #[.string s] w fun e w' => e = .returned (.bool true) ∧ Fr (fun _ => False) w w' := by
  have hl : s.data.toList.length = s.size := rfl
  have HST := hide (fun (W : World) (f : Fr (fun _ => False) w W) => works_any W (hst.same f))
  by_cases hbig : 800 < s.size
  · have hi : (800 : Int) < s.size := by omega
    clear hl hbig hst
    go_enter Tryz.func20, Tryz.ntmps20
    go_wp2_with (go_at_call 11; refine (HST.out _ (Fr.refl _ _)).mono ?_; rintro e w1 ⟨rfl, f1⟩)
    go_ret
    exact ⟨rfl, f1⟩
  · have hi : ¬ (800 : Int) < s.size := by omega
    have hi2 : (s.size : Int) ≤ 800 := by omega
    have htk := tokens_any s w hst
    by_cases he : (tokR s.data.toList).2.2 = 0
    · obtain ⟨hp0, hord⟩ := tokR_ok (by omega) he
      have htk2 : Calls Tryz.prog 13 #[.string s] w fun e w' => ∃ A c o X, e = .returned (.tuple #[.slice A X.length c, .int .i64 0, .int .i64 0]) ∧ TokL w' w.heap.size (.slice A X.length c) o X ∧ ordT s.data.toList 0 (X.map (·.m)) ∧ Fr (fun _ => False) w w' :=
        htk.mono fun e w' ⟨A, c, o, X, h1, h2, h3, h4⟩ => ⟨A, c, o, X, by rw [h1, hp0, he]; rfl, h2, by rw [h3]; exact hord, h4⟩
      have HTK := hide htk2
      exact tokenOrder_ok s w hi hi2 HST HTK
    · obtain ⟨h1, h2⟩ := tokR_err (by omega) he
      have htk2 : Calls Tryz.prog 13 #[.string s] w fun e w' => ∃ A c, e = .returned (.tuple #[.slice A 0 c, .int .i64 (tokR s.data.toList).2.1, .int .i64 (tokR s.data.toList).2.2]) ∧ Fr (fun _ => False) w w' :=
        htk.mono fun e w' ⟨A, c, o, X, g1, g2, g3, g4⟩ => by
          rw [h1, List.map_eq_nil_iff] at g3
          subst g3
          exact ⟨A, c, g1, g4⟩
      have HTK := hide htk2
      have heb : ((tokR s.data.toList).2.2 != 0) = true := by simpa using he
      rw [hl] at h2
      clear htk htk2 he hbig hst h1
      generalize (tokR s.data.toList).2.2 = er at *
      generalize (tokR s.data.toList).2.1 = pl at *
      have hpl : (pl : Int) ≤ s.size := by omega
      go_enter Tryz.func20, Tryz.ntmps20
      go_wp2_with (first
        | (go_at_call 13; refine HTK.out.mono ?_; rintro e w1 ⟨A, c, rfl, f1⟩)
        | (go_at_call 11; refine (HST.out _ f1).mono ?_; rintro e w2 ⟨rfl, f2⟩))
      go_ret
      exact ⟨rfl, f1.trans f2⟩
end Go.Proofs.YtalbehjjgdedcaaGreatDoor
