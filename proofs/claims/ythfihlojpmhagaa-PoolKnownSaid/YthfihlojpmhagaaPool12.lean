/- The reference's pool: Next, Gone, Of. -/
import Derived.Test.YthfihlojpmhagaaPool11
namespace Go.Proofs.Ythfihlojpmhagaa
open Go.RowKit
attribute [local go_sem ↓] Go.wp_at_zero Go.wp_at_succ

set_option maxHeartbeats 1000000 in
theorem rnext_any (b : Nat) (s : PSt) (F : Nat → Prop) (w : World) (h : PoolAt 61 63 w b s F) (_ : s.tot ≤ 1000000) :
    Calls Try.prog 31 #[.pointer (some ⟨b, 0, none⟩)] w fun e w' => e = .returned (nextRes s.next.1) ∧ PoolPost 61 63 b s.next.2 F w w' := by
  have l0 := s.le_tot (i := 0) (by omega)
  have l1 := s.le_tot (i := 1) (by omega)
  obtain ⟨vs, os, h, hF⟩ := h
  have H := hide h
  have HF := hide hF
  have k1 := h.cell (i := 0) (by omega)
  have k2 := h.cell (i := 1) (by omega)
  simp only [Nat.reduceAdd] at k1 k2
  have hbs := h.lt
  have z1 := h.frozen 1
  have z2 := h.frozen 2
  have own0 := h.own 0 (by omega)
  have own1 := h.own 1 (by omega)
  have hb0 := own0.ne_blk h.blk (by decide)
  have hb1 := own1.ne_blk h.blk (by decide)
  obtain ⟨A0, c0, e0, lc0, lm0⟩ := own0.form
  obtain ⟨A1, c1, e1, lc1, lm1⟩ := own1.form
  rw [e0] at own0 k1
  rw [e1] at own1 k2
  clear h hF
  cases hL0 : s.L 0 with
  | cons ev l =>
    have hnx : s.next = (some ev, ⟨s.room, upd s.L 0 l⟩) := by simp [PSt.next, hL0]
    rw [hnx]
    rw [hL0] at own0 k1 l0 lc0
    obtain ⟨g, off, rfl, hn, hlc, ho, ⟨o', how, ho'⟩, hev⟩ := own0.tail
    have hgb : g ≠ b := fun e => hb0 (by rw [ho, e])
    have q0 := hev 0 (by decide)
    have q1 := hev 1 (by decide)
    have q2 := hev 2 (by decide)
    have q3 := hev 3 (by decide)
    obtain ⟨ek, en, ea, et⟩ := ev
    simp only [evC, Nat.add_zero, List.getElem?_cons_zero, List.getElem?_cons_succ] at q0 q1 q2 q3
    have hgw : g < w.heap.size := World.block_lt_of_cell? w _ q0
    simp only [List.length_cons] at k1 l0 lc0
    have HH := hide how
    have HO := hide (And.intro ho ho')
    unfold maxLen at lm0
    clear hev hnx how ho ho' own0 own1 e0 e1 hb0 hb1 hL0 hn lc1 lm1 k2 z2
    by_cases hc : c0 = 1
    all_goals
      go_enter Try.func31, Try.ntmps31
      go_wp2_with fail
      go_returns
      refine ⟨rfl, ?_⟩
      have how := HH.out
      first | rw [if_pos hc, show c0 - 1 = 0 from by omega] at how | rw [if_neg hc] at how
      have p1 := H.out.upd_ (i := 0) (by omega) (by decide) (Fr.refl (fun k => os 0 = some k) w) how (fun k hk => .inl (by
        rcases HO.out.2 with h1 | h1
        · rw [h1] at hk; cases hk
        · rw [h1] at hk; exact hk))
      have p2 := p1.same (Fr.alloc (Fr.alloc (Fr.refl (fun _ => False) _) (.cells #[.int .u8 ek, .string en, .int .i64 ea, .int .i64 et] 63)) (.cells #[.int .u8 ek, .string en, .int .i64 ea, .int .i64 et] 63))
      refine p2.post HF.out.1 (fun i hi k hk => ?_) (Fr.alloc (Fr.alloc (Fr.setCell (Fr.refl _ _) (.inl HF.out.1) _) _) _)
      refine .inl ?_
      by_cases h1 : i = 0
      · subst h1
        rw [upd_same] at hk
        refine HF.out.2.1 0 (by omega) k ?_
        rcases HO.out.2 with h1 | h1
        · rw [h1] at hk; cases hk
        · rw [h1] at hk; exact hk
      · rw [upd_other _ _ h1] at hk
        exact HF.out.2.1 i hi k hk
  | nil =>
    rw [hL0] at k1
    simp only [List.length_nil] at k1
    cases hL1 : s.L 1 with
    | cons ev l =>
      have hnx : s.next = (some ev, ⟨s.room, upd s.L 1 l⟩) := by simp [PSt.next, hL0, hL1]
      rw [hnx]
      rw [hL1] at own1 k2 l1 lc1
      obtain ⟨g, off, rfl, hn, hlc, ho, ⟨o', how, ho'⟩, hev⟩ := own1.tail
      have hgb : g ≠ b := fun e => hb1 (by rw [ho, e])
      have q0 := hev 0 (by decide)
      have q1 := hev 1 (by decide)
      have q2 := hev 2 (by decide)
      have q3 := hev 3 (by decide)
      obtain ⟨ek, en, ea, et⟩ := ev
      simp only [evC, Nat.add_zero, List.getElem?_cons_zero, List.getElem?_cons_succ] at q0 q1 q2 q3
      have hgw : g < w.heap.size := World.block_lt_of_cell? w _ q0
      simp only [List.length_cons] at k2 l1 lc1
      have HH := hide how
      have HO := hide (And.intro ho ho')
      unfold maxLen at lm1
      clear hev hnx how ho ho' own0 own1 e0 e1 hb0 hb1 hL1 hn lc0 lm0 z1 hL0
      by_cases hc : c1 = 1
      all_goals
        go_enter Try.func31, Try.ntmps31
        go_wp2_with fail
        go_returns
        refine ⟨rfl, ?_⟩
        have how := HH.out
        first | rw [if_pos hc, show c1 - 1 = 0 from by omega] at how | rw [if_neg hc] at how
        have p1 := H.out.upd_ (i := 1) (by omega) (by decide) (Fr.refl (fun k => os 1 = some k) w) how (fun k hk => .inl (by
          rcases HO.out.2 with h1 | h1
          · rw [h1] at hk; cases hk
          · rw [h1] at hk; exact hk))
        have p2 := p1.same (Fr.alloc (Fr.alloc (Fr.refl (fun _ => False) _) (.cells #[.int .u8 ek, .string en, .int .i64 ea, .int .i64 et] 63)) (.cells #[.int .u8 ek, .string en, .int .i64 ea, .int .i64 et] 63))
        refine p2.post HF.out.1 (fun i hi k hk => ?_) (Fr.alloc (Fr.alloc (Fr.setCell (Fr.refl _ _) (.inl HF.out.1) _) _) _)
        refine .inl ?_
        by_cases h1 : i = 1
        · subst h1
          rw [upd_same] at hk
          refine HF.out.2.1 1 (by omega) k ?_
          rcases HO.out.2 with h1 | h1
          · rw [h1] at hk; cases hk
          · rw [h1] at hk; exact hk
        · rw [upd_other _ _ h1] at hk
          exact HF.out.2.1 i hi k hk
    | nil =>
      have hnx : s.next = (none, s) := by simp [PSt.next, hL0, hL1]
      rw [hnx]
      rw [hL1] at k2
      simp only [List.length_nil] at k2
      clear hnx own0 own1 e0 e1 hb0 hb1 hL0 hL1 lc0 lm0 lc1 lm1 l0 l1 z1 z2
      go_enter Try.func31, Try.ntmps31
      go_wp2_with fail
      go_returns
      exact ⟨rfl, (H.out.post HF.out.1 (fun i hi k hk => .inl (HF.out.2.1 i hi k hk)) (Fr.refl _ _)).then_ (Fr.alloc (Fr.alloc (Fr.refl _ _) _) _)⟩

def PSt.rdrop (s : PSt) (kd pl : Int) : PSt := ⟨s.room, upd (upd s.L 0 (without kd pl (s.L 0))) 1 (without kd pl (s.L 1))⟩
def PSt.rgone (s : PSt) (kd pl : Int) : Int × PSt := if kd = 1 ∨ kd = 3 then ((s.tot : Int) - ((s.rdrop kd pl).tot : Int), s.rdrop kd pl) else (0, s)
theorem PSt.rdrop_le (s : PSt) (kd pl : Int) : (s.rdrop kd pl).tot ≤ s.tot := by
  unfold PSt.tot PSt.rdrop
  have := without_le kd pl (s.L 0)
  have := without_le kd pl (s.L 1)
  simp [upd]
  omega

theorem rlen_at (b : Nat) (s : PSt) (F : Nat → Prop) (w : World) (h : PoolAt 61 63 w b s F) (ht : s.tot ≤ 1000000) :
    Calls Try.prog 36 #[.pointer (some ⟨b, 0, none⟩)] w fun e w' => e = .returned (.int .i64 s.tot) ∧ Fr (fun _ => False) w w' :=
  (rlen_any b s F w h ht).mono fun _ _ ⟨he, n, hn⟩ => ⟨he, by rw [hn]; exact Fr.drewN (Fr.refl _ _) n⟩

set_option maxHeartbeats 1000000 in
theorem rgone_no (b : Nat) (s : PSt) (F : Nat → Prop) (kd pl : Int) (w : World) (h : PoolAt 61 63 w b s F) (hk : ¬ (kd = 1 ∨ kd = 3)) :
    Calls Try.prog 32 #[.pointer (some ⟨b, 0, none⟩), .int .u8 kd, .int .i64 pl] w fun e w' => e = .returned (.int .i64 0) ∧ PoolPost 61 63 b s F w w' := by
  have H := hide h
  have k1 : (kd != 1) = true := by simp; omega
  have k3 : (kd != 3) = true := by simp; omega
  clear h hk
  go_enter Try.func32, Try.ntmps32
  go_wp2_with fail
  go_ret
  exact ⟨rfl, H.out.post (Fr.refl _ _)⟩

set_option maxHeartbeats 2000000 in
theorem rgone_yes (b : Nat) (s : PSt) (F : Nat → Prop) (kd pl : Int) (w : World) (h : PoolAt 61 63 w b s F) (ht : s.tot ≤ 1000000) (hk : kd = 1 ∨ kd = 3) :
    Calls Try.prog 32 #[.pointer (some ⟨b, 0, none⟩), .int .u8 kd, .int .i64 pl] w fun e w' => e = .returned (.int .i64 ((s.tot : Int) - ((s.rdrop kd pl).tot : Int))) ∧ PoolPost 61 63 b (s.rdrop kd pl) F w w' := by
  have hdl := s.rdrop_le kd pl
  have l0 := s.le_tot (i := 0) (by omega)
  have l1 := s.le_tot (i := 1) (by omega)
  have H := hide h
  have h13 : (kd != 1) = false ∨ ((kd != 1) = true ∧ (kd != 3) = false) := by
    rcases hk with rfl | rfl
    · exact .inl (by decide)
    · exact .inr ⟨by decide, by decide⟩
  obtain ⟨vs, os, hR, hF⟩ := h
  have k1 := hR.cell (i := 0) (by omega)
  have k2 := hR.cell (i := 1) (by omega)
  simp only [Nat.reduceAdd] at k1 k2
  have hbs := hR.lt
  have HR := hide hR
  have HF := hide hF
  have HK := hide (And.intro k1 k2)
  clear hk hR hF
  rcases h13 with n1 | ⟨n1, n3⟩
  all_goals
    go_enter Try.func32, Try.ntmps32
    go_wp2_with fail
    refine (rlen_at b s F w H.out ht).mono ?_
    rintro e w1 ⟨rfl, f1⟩
    have y1 := (f1.cell (p := ⟨b, 1, none⟩) hbs (fun h => h)).trans HK.out.1
    have y2 := (f1.cell (p := ⟨b, 2, none⟩) hbs (fun h => h)).trans HK.out.2
    have P1 := hide (HR.out.same f1)
    have F1 := hide f1
    have hb1 : b < w1.heap.size := Nat.lt_of_lt_of_le hbs f1.size
    clear f1
    go_wp2_with fail
    refine (rwithout_any kd pl (fun k => os 0 = some k) (vs 0) (s.L 0) w1 (P1.out.own 0 (by omega)).rd (P1.out.own 0 (by omega)).lt (by omega)).mono ?_
    rintro e w2 ⟨A2, c2, o2, rfl, m2, f2, n2⟩
    have x1 := (f2.cell (p := ⟨b, 1, none⟩) hb1 (fun h => h)).trans y1
    have x2 := (f2.cell (p := ⟨b, 2, none⟩) hb1 (fun h => h)).trans y2
    have z1 := (f2.frozen (p := ⟨b, 1, none⟩) hb1 (fun h => h)).trans (P1.out.frozen 1)
    have P2 := hide (P1.out.upd_ (i := 0) (by omega) (by decide) (f2.mono fun _ h => h.elim) m2 (fun k hk => .inr (n2 k hk)))
    simp only [Nat.add_zero] at P2
    have F2 := hide (Fr.setCell (f2.mono (fp' := fun k => k = b) fun _ h => h.elim) (p := ⟨b, 1, none⟩) (.inl rfl) (.slice A2 (without kd pl (s.L 0)).length c2))
    have N2 := hide n2
    have hb2 : b < w2.heap.size := Nat.lt_of_lt_of_le hb1 f2.size
    clear m2 f2 n2 y1 y2
    go_wp2_with fail
    have q2 : (w2.setCell ⟨b, 1, none⟩ (.slice A2 (without kd pl (s.L 0)).length c2)).cell? ⟨b, 2, none⟩ = some (vs 1) := P2.out.cell (i := 1) (by omega)
    have zz := P2.out.frozen 2
    have hb2' : b < (w2.setCell ⟨b, 1, none⟩ (.slice A2 (without kd pl (s.L 0)).length c2)).heap.size := P2.out.lt
    generalize w2.setCell ⟨b, 1, none⟩ (.slice A2 (without kd pl (s.L 0)).length c2) = w3 at *
    refine (rwithout_any kd pl (fun k => os 1 = some k) (vs 1) (s.L 1) w3 (P2.out.own 1 (by omega)).rd (P2.out.own 1 (by omega)).lt (by omega)).mono ?_
    rintro e w4 ⟨A4, c4, o4, rfl, m4, f4, n4⟩
    have u2 := (f4.cell (p := ⟨b, 2, none⟩) hb2' (fun h => h)).trans q2
    have z2 := (f4.frozen (p := ⟨b, 2, none⟩) hb2' (fun h => h)).trans zz
    have P4 := hide (P2.out.upd_ (i := 1) (by omega) (by decide) (f4.mono fun _ h => h.elim) m4 (fun k hk => .inr (n4 k hk)))
    simp only [Nat.reduceAdd] at P4
    have F4 := hide ((F1.out.mono (fp' := fun k => k = b) fun _ h => h.elim).trans (F2.out.trans (Fr.setCell (f4.mono (fp' := fun k => k = b) fun _ h => h.elim) (p := ⟨b, 2, none⟩) (.inl rfl) (.slice A4 (without kd pl (s.L 1)).length c4))))
    have N4 := hide n4
    have S3 := hide (Nat.le_trans F1.out.size F2.out.size)
    clear m4 f4 n4 zz q2 x1 x2 z1
    have hPA : PoolAt 61 63 (w4.setCell ⟨b, 2, none⟩ (.slice A4 (without kd pl (s.L 1)).length c4)) b (s.rdrop kd pl) (fun k => k < (w4.setCell ⟨b, 2, none⟩ (.slice A4 (without kd pl (s.L 1)).length c4)).heap.size) :=
      ⟨_, _, P4.out, P4.out.lt, fun i hi k hk => (P4.out.own i hi).lt k hk, fun _ h => h⟩
    have HPA := hide hPA
    clear hPA
    go_wp2_with fail
    refine (rlen_at b _ _ _ HPA.out (by omega)).mono ?_
    rintro e w5 ⟨rfl, f5⟩
    have F5 := hide f5
    clear f5
    go_wp2_with fail
    go_ret
    refine ⟨rfl, ?_⟩
    refine (P4.out.same F5.out).post HF.out.1 (fun i hi k hk => ?_) ((F4.out.mono fun k hk => by rw [hk]; exact HF.out.1).trans (F5.out.mono fun _ h => h.elim))
    by_cases h1 : i = 1
    · subst h1
      rw [upd_same] at hk
      exact .inr (Nat.le_trans S3.out (N4.out k hk))
    · rw [upd_other _ _ h1] at hk
      by_cases h0 : i = 0
      · subst h0
        rw [upd_same] at hk
        exact .inr (Nat.le_trans F1.out.size (N2.out k hk))
      · rw [upd_other _ _ h0] at hk
        exact .inl (HF.out.2.1 i hi k hk)

theorem rgone_any (b : Nat) (s : PSt) (F : Nat → Prop) (kd pl : Int) (w : World) (h : PoolAt 61 63 w b s F) (ht : s.tot ≤ 1000000) :
    Calls Try.prog 32 #[.pointer (some ⟨b, 0, none⟩), .int .u8 kd, .int .i64 pl] w fun e w' => e = .returned (.int .i64 (s.rgone kd pl).1) ∧ PoolPost 61 63 b (s.rgone kd pl).2 F w w' := by
  by_cases hk : kd = 1 ∨ kd = 3
  · have e : s.rgone kd pl = ((s.tot : Int) - ((s.rdrop kd pl).tot : Int), s.rdrop kd pl) := by simp [PSt.rgone, hk]
    rw [e]
    exact rgone_yes b s F kd pl w h ht hk
  · have e : s.rgone kd pl = (0, s) := by simp [PSt.rgone, hk]
    rw [e]
    exact rgone_no b s F kd pl w h hk
end Go.Proofs.Ythfihlojpmhagaa
