/- The pool: Next. -/
import Derived.Test.YthfihlojpmhagaaPool4
namespace Go.Proofs.Ythfihlojpmhagaa
open Go.RowKit
attribute [local go_sem ↓] Go.wp_at_zero Go.wp_at_succ

def zeroEv : Ev := ⟨0, ⟨#[]⟩, 0, 0⟩
def PSt.next (s : PSt) : Option Ev × PSt :=
  match s.L 0 with
  | e :: l => (some e, ⟨s.room, upd s.L 0 l⟩)
  | [] => match s.L 1 with
    | e :: l => (some e, ⟨s.room, upd s.L 1 l⟩)
    | [] => (none, s)
def nextRes (o : Option Ev) : Value :=
  match o with
  | some e => .tuple #[.agg (evArr e), .bool true]
  | none => .tuple #[.agg (evArr zeroEv), .bool false]

set_option maxHeartbeats 1000000 in
theorem next_any (b : Nat) (s : PSt) (F : Nat → Prop) (w : World) (h : PoolAt 59 31 w b s F) (_ : s.tot ≤ 1000000) :
    Calls Try.prog 20 #[.pointer (some ⟨b, 0, none⟩)] w fun e w' => e = .returned (nextRes s.next.1) ∧ PoolPost 59 31 b s.next.2 F w w' := by
  have l0 := s.le_tot (i := 0) (by omega)
  have l1 := s.le_tot (i := 1) (by omega)
  obtain ⟨vs, os, h, hF⟩ := h
  have H := hide h
  have HF := hide hF
  have k1 := h.cell (i := 0) (by omega)
  have k2 := h.cell (i := 1) (by omega)
  simp only [Nat.reduceAdd] at k1 k2
  have hbs := h.lt
  have z1 := h.frozen 1
  have z2 := h.frozen 2
  have own0 := h.own 0 (by omega)
  have own1 := h.own 1 (by omega)
  have hb0 := own0.ne_blk h.blk (by decide)
  have hb1 := own1.ne_blk h.blk (by decide)
  obtain ⟨A0, c0, e0, lc0, lm0⟩ := own0.form
  obtain ⟨A1, c1, e1, lc1, lm1⟩ := own1.form
  rw [e0] at own0 k1
  rw [e1] at own1 k2
  clear h hF
  cases hL0 : s.L 0 with
  | cons ev l =>
    have hnx : s.next = (some ev, ⟨s.room, upd s.L 0 l⟩) := by simp [PSt.next, hL0]
    rw [hnx]
    rw [hL0] at own0 k1 l0 lc0
    obtain ⟨g, off, rfl, hn, hlc, ho, ⟨o', how, ho'⟩, hev⟩ := own0.tail
    have hgb : g ≠ b := fun e => hb0 (by rw [ho, e])
    have q0 := hev 0 (by decide)
    have q1 := hev 1 (by decide)
    have q2 := hev 2 (by decide)
    have q3 := hev 3 (by decide)
    obtain ⟨ek, en, ea, et⟩ := ev
    simp only [evC, Nat.add_zero, List.getElem?_cons_zero, List.getElem?_cons_succ] at q0 q1 q2 q3
    have hgw : g < w.heap.size := World.block_lt_of_cell? w _ q0
    simp only [List.length_cons] at k1 l0 lc0
    have HH := hide how
    have HO := hide (And.intro ho ho')
    unfold maxLen at lm0
    clear hev hnx how ho ho' own0 own1 e0 e1 hb0 hb1 hL0 hn lc1 lm1 k2 z2
    by_cases hc : c0 = 1
    all_goals
      go_enter Try.func20, Try.ntmps20
      go_wp2_with fail
      refine wp_loop_rounds 3 ?_
      rw [rounds_succ]
      go_wp2_with fail
      go_region
      go_wp2_with fail
      go_returns
      refine ⟨rfl, ?_⟩
      have how := HH.out
      first | rw [if_pos hc, show c0 - 1 = 0 from by omega] at how | rw [if_neg hc] at how
      have p1 := H.out.upd_ (i := 0) (by omega) (by decide) (Fr.refl (fun k => os 0 = some k) w) how (fun k hk => .inl (by
        rcases HO.out.2 with h1 | h1
        · rw [h1] at hk; cases hk
        · rw [h1] at hk; exact hk))
      have p2 := p1.same (Fr.drew (Fr.alloc (Fr.refl (fun _ => False) _) (.cells #[.int .u8 ek, .string en, .int .i64 ea, .int .i64 et] 31)))
      refine p2.post HF.out.1 (fun i hi k hk => ?_) (Fr.drew (Fr.alloc (Fr.setCell (Fr.refl _ _) (.inl HF.out.1) _) _))
      refine .inl ?_
      by_cases h1 : i = 0
      · subst h1
        rw [upd_same] at hk
        refine HF.out.2.1 0 (by omega) k ?_
        rcases HO.out.2 with h1 | h1
        · rw [h1] at hk; cases hk
        · rw [h1] at hk; exact hk
      · rw [upd_other _ _ h1] at hk
        exact HF.out.2.1 i hi k hk
  | nil =>
    rw [hL0] at k1
    simp only [List.length_nil] at k1
    cases hL1 : s.L 1 with
    | cons ev l =>
      have hnx : s.next = (some ev, ⟨s.room, upd s.L 1 l⟩) := by simp [PSt.next, hL0, hL1]
      rw [hnx]
      rw [hL1] at own1 k2 l1 lc1
      obtain ⟨g, off, rfl, hn, hlc, ho, ⟨o', how, ho'⟩, hev⟩ := own1.tail
      have hgb : g ≠ b := fun e => hb1 (by rw [ho, e])
      have q0 := hev 0 (by decide)
      have q1 := hev 1 (by decide)
      have q2 := hev 2 (by decide)
      have q3 := hev 3 (by decide)
      obtain ⟨ek, en, ea, et⟩ := ev
      simp only [evC, Nat.add_zero, List.getElem?_cons_zero, List.getElem?_cons_succ] at q0 q1 q2 q3
      have hgw : g < w.heap.size := World.block_lt_of_cell? w _ q0
      simp only [List.length_cons] at k2 l1 lc1
      have HH := hide how
      have HO := hide (And.intro ho ho')
      unfold maxLen at lm1
      clear hev hnx how ho ho' own0 own1 e0 e1 hb0 hb1 hL1 hn lc0 lm0 z1 hL0
      by_cases hc : c1 = 1
      all_goals
        go_enter Try.func20, Try.ntmps20
        go_wp2_with fail
        refine wp_loop_rounds 3 ?_
        rw [rounds_succ]
        go_wp2_with fail
        rw [rounds_succ]
        go_wp2_with fail
        go_region
        go_wp2_with fail
        go_returns
        refine ⟨rfl, ?_⟩
        have how := HH.out
        first | rw [if_pos hc, show c1 - 1 = 0 from by omega] at how | rw [if_neg hc] at how
        have p1 := H.out.upd_ (i := 1) (by omega) (by decide) (Fr.refl (fun k => os 1 = some k) w) how (fun k hk => .inl (by
          rcases HO.out.2 with h1 | h1
          · rw [h1] at hk; cases hk
          · rw [h1] at hk; exact hk))
        have p2 := p1.same (Fr.drew (Fr.alloc (Fr.refl (fun _ => False) _) (.cells #[.int .u8 ek, .string en, .int .i64 ea, .int .i64 et] 31)))
        refine p2.post HF.out.1 (fun i hi k hk => ?_) (Fr.drew (Fr.alloc (Fr.setCell (Fr.refl _ _) (.inl HF.out.1) _) _))
        refine .inl ?_
        by_cases h1 : i = 1
        · subst h1
          rw [upd_same] at hk
          refine HF.out.2.1 1 (by omega) k ?_
          rcases HO.out.2 with h1 | h1
          · rw [h1] at hk; cases hk
          · rw [h1] at hk; exact hk
        · rw [upd_other _ _ h1] at hk
          exact HF.out.2.1 i hi k hk
    | nil =>
      have hnx : s.next = (none, s) := by simp [PSt.next, hL0, hL1]
      rw [hnx]
      rw [hL1] at k2
      simp only [List.length_nil] at k2
      clear hnx own0 own1 e0 e1 hb0 hb1 hL0 hL1 lc0 lm0 lc1 lm1 l0 l1 z1 z2
      go_enter Try.func20, Try.ntmps20
      go_wp2_with fail
      refine wp_loop_rounds 3 ?_
      rw [rounds_succ]
      go_wp2_with fail
      rw [rounds_succ]
      go_wp2_with fail
      rw [rounds_succ]
      go_wp2_with fail
      go_returns
      exact ⟨rfl, (H.out.post HF.out.1 (fun i hi k hk => .inl (HF.out.2.1 i hi k hk)) (Fr.refl _ _)).then_ (Fr.alloc (Fr.refl _ _) _)⟩
end Go.Proofs.Ythfihlojpmhagaa
