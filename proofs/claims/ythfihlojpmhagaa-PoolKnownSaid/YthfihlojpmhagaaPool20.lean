/- The pool's laws: PoolRows, PoolAgain. -/
import Derived.Test.YthfihlojpmhagaaPool19
namespace Go.Proofs.Ythfihlojpmhagaa
open Go.RowKit
attribute [local go_sem ↓] Go.wp_at_zero Go.wp_at_succ

theorem run_nil_rptr (w : World) (a : Addr) : (binOp .eql 27 (.pointer (some a)) (.pointer none)).run Try.prog w = .ok (.bool false) w := by kernel_rfl

set_option maxHeartbeats 4000000 in
theorem rowsL_any (room : Int) (v0 v1 v2 : Value) (L : Nat → List Ev) (w : World) (h0 : Rd evC w (· < w.heap.size) v0 (L 0)) (h1 : Rd evC w (· < w.heap.size) v1 (L 1)) (h2 : Rd evC w (· < w.heap.size) v2 (L 2)) :
    Calls Try.prog 6 #[.int .i64 room, v0, v1, v2] w fun e w' => e = .returned (.bool true) ∧ Below w.heap.size w w' := by
  have H0 := hide h0
  have H1 := hide h1
  have H2 := hide h2
  obtain ⟨A0, c0, rfl, g0, m0, -⟩ := h0
  obtain ⟨A1, c1, rfl, g1, m1, -⟩ := h1
  obtain ⟨A2, c2, rfl, g2, m2, -⟩ := h2
  unfold maxLen at m0 m1 m2
  by_cases b0 : (60 : Int) < ((L 0).length : Int)
  · go_enter Try.func6, Try.ntmps6
    go_wp2_with (go_at_call 10; refine (works_any _).mono ?_; rintro e w2 ⟨rfl, f2⟩)
    go_ret
    exact ⟨rfl, f2.to_below⟩
  by_cases b1 : (60 : Int) < ((L 1).length : Int)
  · go_enter Try.func6, Try.ntmps6
    go_wp2_with (go_at_call 10; refine (works_any _).mono ?_; rintro e w2 ⟨rfl, f2⟩)
    go_ret
    exact ⟨rfl, f2.to_below⟩
  by_cases b2 : (60 : Int) < ((L 2).length : Int)
  · go_enter Try.func6, Try.ntmps6
    go_wp2_with (go_at_call 10; refine (works_any _).mono ?_; rintro e w2 ⟨rfl, f2⟩)
    go_ret
    exact ⟨rfl, f2.to_below⟩
  have ht : (⟨room, L⟩ : PSt).tot ≤ 1000000 := by unfold PSt.tot; simp only; omega
  have HT := hide ht
  have hl0 : (L 0).length ≤ 1000000 := by omega
  have hl1 : (L 1).length ≤ 1000000 := by omega
  have hl2 : (L 2).length ≤ 1000000 := by omega
  have HB : ∀ (i : Nat) (v : Value) (l : List Ev) (W : World), Rd evC w (· < w.heap.size) v l → Fr (fun _ => False) w W → Rd evC W (· < w.heap.size) v l := fun i v l W h f => h.fr f (fun k hk => ⟨hk, fun h => h⟩)
  have HBB := hide HB
  clear ht HB
  go_enter Try.func6, Try.ntmps6
  go_wp2_with fail
  refine (row_any _ _ (L 0) w H0.out (fun k hk => hk) hl0).mono ?_
  rintro e w1 ⟨B0, d0, o0, rfl, n0, f1, p0⟩
  have N0 := hide (And.intro n0 p0)
  have F1 := hide f1
  clear n0 p0 f1
  go_wp2_with fail
  refine (row_any _ _ (L 1) w1 (HBB.out 1 _ _ _ H1.out F1.out) (fun k hk => Nat.lt_of_lt_of_le hk F1.out.size) hl1).mono ?_
  rintro e w2 ⟨B1, d1, o1, rfl, n1, f2, p1⟩
  have N1 := hide (And.intro n1 p1)
  have F2 := hide (F1.out.trans f2)
  have N0' := hide (N0.out.1.fr f2 (fun _ _ h => h))
  clear n1 p1 f2
  go_wp2_with fail
  refine (row_any _ _ (L 2) w2 (HBB.out 2 _ _ _ H2.out F2.out) (fun k hk => Nat.lt_of_lt_of_le hk F2.out.size) hl2).mono ?_
  rintro e w3 ⟨B2, d2, o2, rfl, n2, f3, p2⟩
  have F3 := hide (F2.out.trans f3)
  have N := hide (And.intro (N0'.out.fr f3 (fun _ _ h => h)) (And.intro (N1.out.1.fr f3 (fun _ _ h => h)) n2))
  clear n2 p2 f3 N0' N0 N1
  go_wp2_with fail
  refine (of_any room _ _ _ _ _ _ L w3 (HBB.out 0 _ _ _ H0.out F3.out) (HBB.out 1 _ _ _ H1.out F3.out) (HBB.out 2 _ _ _ H2.out F3.out) (fun k hk => Nat.lt_of_lt_of_le hk F3.out.size) (fun k hk => Nat.lt_of_lt_of_le hk F3.out.size) (fun k hk => Nat.lt_of_lt_of_le hk F3.out.size) HT.out).mono ?_
  rintro e w4 ⟨f4, hpost⟩
  have F4 := hide (F3.out.trans f4)
  have M := hide (And.intro (N.out.1.fr f4 (fun _ _ h => h)) (And.intro (N.out.2.1.fr f4 (fun _ _ h => h)) (N.out.2.2.fr f4 (fun _ _ h => h))))
  have HROF := hide (rof_any room _ _ _ _ _ _ L w4 M.out.1.rd M.out.2.1.rd M.out.2.2.rd M.out.1.lt M.out.2.1.lt M.out.2.2.lt HT.out)
  rcases hpost with ⟨he, b, F, rfl, hp, hF⟩ | ⟨he, rfl⟩
  · have HP := hide (And.intro hp hF)
    have HE := hide he
    clear f4 hp hF he
    go_wp2_with fail
    refine HROF.out.mono ?_
    rintro e w5 ⟨f5, hpost⟩
    have F5 := hide (F4.out.trans f5)
    have K := hide (And.intro (M.out.1.fr f5 (fun _ _ h => h)) (And.intro (M.out.2.1.fr f5 (fun _ _ h => h)) (M.out.2.2.fr f5 (fun _ _ h => h))))
    rcases hpost with ⟨he, c, G, rfl, hr, hG⟩ | ⟨he, rfl⟩
    · have HR := hide (And.intro hr (HP.out.1.same f5))
      clear f5 hr hG he
      go_wp2_with fail
      refine (same_true _ _ _ _ (L 0) w5 (HBB.out 0 _ _ _ H0.out F5.out) K.out.1.rd (fun k hk => Nat.lt_of_lt_of_le hk F5.out.size) K.out.1.lt hl0).mono ?_
      rintro e w6 ⟨rfl, f6⟩
      have F6 := hide (And.intro (F5.out.trans f6) f6)
      clear f6
      go_wp2_with fail
      refine (same_true _ _ _ _ (L 1) w6 (HBB.out 1 _ _ _ H1.out F6.out.1) (K.out.2.1.fr F6.out.2 (fun _ _ h => h)).rd (fun k hk => Nat.lt_of_lt_of_le hk F6.out.1.size) (K.out.2.1.fr F6.out.2 (fun _ _ h => h)).lt hl1).mono ?_
      rintro e w7 ⟨rfl, f7⟩
      have F7 := hide (And.intro (F6.out.1.trans f7) (F6.out.2.trans f7))
      clear f7
      go_wp2_with fail
      refine (same_true _ _ _ _ (L 2) w7 (HBB.out 2 _ _ _ H2.out F7.out.1) (K.out.2.2.fr F7.out.2 (fun _ _ h => h)).rd (fun k hk => Nat.lt_of_lt_of_le hk F7.out.1.size) (K.out.2.2.fr F7.out.2 (fun _ _ h => h)).lt hl2).mono ?_
      rintro e w8 ⟨rfl, f8⟩
      have F8 := hide (And.intro (F7.out.1.trans f8) (F7.out.2.trans f8))
      clear f8
      go_wp2_with fail
      refine (is_true b c ⟨newRoom room, L⟩ _ _ w8 (HR.out.2.same F8.out.2) (HR.out.1.same F8.out.2) HT.out).mono ?_
      rintro e w9 ⟨rfl, f9⟩
      have F9 := hide (F8.out.1.trans f9)
      clear f9
      go_wp2_with (go_at_call 10; refine (works_any _).mono ?_; rintro e w10 ⟨rfl, f10⟩)
      go_ret
      exact ⟨rfl, (F9.out.trans f10).to_below⟩
    · exact absurd HE.out he
  · have HE := hide he
    clear f4 he
    go_wp2_with fail
    refine HROF.out.mono ?_
    rintro e w5 ⟨f5, hpost⟩
    have F5 := hide (F4.out.trans f5)
    have K := hide (And.intro (M.out.1.fr f5 (fun _ _ h => h)) (And.intro (M.out.2.1.fr f5 (fun _ _ h => h)) (M.out.2.2.fr f5 (fun _ _ h => h))))
    rcases hpost with ⟨he, c, G, rfl, hr, hG⟩ | ⟨he, rfl⟩
    · exact absurd he HE.out
    · clear f5 he
      generalize ofErr room L = er at *
      go_wp2_with fail
      refine (same_true _ _ _ _ (L 0) w5 (HBB.out 0 _ _ _ H0.out F5.out) K.out.1.rd (fun k hk => Nat.lt_of_lt_of_le hk F5.out.size) K.out.1.lt hl0).mono ?_
      rintro e w6 ⟨rfl, f6⟩
      have F6 := hide (And.intro (F5.out.trans f6) f6)
      clear f6
      go_wp2_with fail
      refine (same_true _ _ _ _ (L 1) w6 (HBB.out 1 _ _ _ H1.out F6.out.1) (K.out.2.1.fr F6.out.2 (fun _ _ h => h)).rd (fun k hk => Nat.lt_of_lt_of_le hk F6.out.1.size) (K.out.2.1.fr F6.out.2 (fun _ _ h => h)).lt hl1).mono ?_
      rintro e w7 ⟨rfl, f7⟩
      have F7 := hide (And.intro (F6.out.1.trans f7) (F6.out.2.trans f7))
      clear f7
      go_wp2_with fail
      refine (same_true _ _ _ _ (L 2) w7 (HBB.out 2 _ _ _ H2.out F7.out.1) (K.out.2.2.fr F7.out.2 (fun _ _ h => h)).rd (fun k hk => Nat.lt_of_lt_of_le hk F7.out.1.size) (K.out.2.2.fr F7.out.2 (fun _ _ h => h)).lt hl2).mono ?_
      rintro e w8 ⟨rfl, f8⟩
      have F8 := hide (F7.out.1.trans f8)
      clear f8
      go_wp2_with (go_at_call 10; refine (works_any _).mono ?_; rintro e w10 ⟨rfl, f10⟩)
      go_ret
      exact ⟨rfl, (F8.out.trans f10).to_below⟩

/-- more that is so of pools -/
structure PInv2 (s : PSt) : Prop extends PInv s where
  pos : 1 ≤ s.room
  fits : (s.tot : Int) ≤ s.room
  ok : ∀ i, i < 3 → ∀ e ∈ s.L i, okEv i e = true

theorem okEv_mono {e : Ev} (h : okEv 2 e = true) : okEv 1 e = true := by
  simp [okEv] at *
  exact h.1
theorem addS_inv2 {s : PSt} (h : PInv2 s) {i : Nat} (hi : i < 3) (e : Ev) (m : Bool) (hm : m = true → okEv i e = true) : PInv2 (addS s i e m).2 := by
  have h1 : PInv (addS s i e m).2 := addS_inv h.toPInv hi e m (fun h2 hmt => by
    subst h2
    have := hm hmt
    simp [okEv] at this
    exact this.2)
  refine ⟨h1, ?_, ?_, ?_⟩ <;> clear h1 <;> unfold addS <;> by_cases hm' : m = false
  · rw [if_pos hm']; exact h.pos
  · rw [if_neg hm']
    split
    · exact h.pos
    · exact h.pos
  · rw [if_pos hm']; exact h.fits
  · rw [if_neg hm']
    split
    · exact h.fits
    · have ht : (s.push i e).tot = s.tot + 1 := by
        unfold PSt.tot PSt.push
        rcases i with _ | _ | _ | i
        · simp [upd]; omega
        · simp [upd]; omega
        · simp [upd]; omega
        · omega
      simp only [ht]
      show ((s.tot + 1 : Nat) : Int) ≤ s.room
      omega
  · rw [if_pos hm']; exact h.ok
  · rw [if_neg hm']
    split
    · exact h.ok
    · intro j hj x hx
      by_cases hji : j = i
      · subst hji
        simp only [PSt.push, upd_same, List.mem_append, List.mem_singleton] at hx
        rcases hx with hx | rfl
        · exact h.ok j hj x hx
        · exact hm (by simpa using hm')
      · simp only [PSt.push, upd_other _ _ hji] at hx
        exact h.ok j hj x hx

theorem does_inv2 {s : PSt} (h : PInv2 s) (a : AEv) : PInv2 (doesS s a) := by
  unfold doesS
  by_cases h2 : a.kind % 7 = 2
  · rw [if_pos h2]
    exact addS_inv2 h (by omega) _ _ (fun hm => by
      simp only [Bool.and_eq_true, decide_eq_true_eq] at hm
      simp [okEv, hm.1, hm.2])
  rw [if_neg h2]
  by_cases h3 : a.kind % 7 = 3
  · rw [if_pos h3]
    have hi := does_inv h.toPInv ⟨3, a.ev⟩
    have e : doesS s ⟨3, a.ev⟩ = s.recall := by simp [doesS]
    rw [e] at hi
    refine ⟨hi, h.pos, ?_, ?_⟩
    · have := h.fits
      unfold PSt.tot PSt.recall at *
      simp [upd] at *
      omega
    · intro i hi x hx
      rcases i with _ | _ | _ | i
      · exact h.ok 0 hi x (by simpa [PSt.recall, upd] using hx)
      · simp [PSt.recall, upd] at hx
        rcases hx with hx | hx
        · exact okEv_mono (h.ok 2 (by omega) x hx)
        · exact h.ok 1 hi x hx
      · simp [PSt.recall, upd] at hx
      · omega
  rw [if_neg h3]
  by_cases h4 : a.kind % 7 = 4 ∨ a.kind % 7 = 5
  · rw [if_pos h4]
    have hi := does_inv h.toPInv ⟨4, a.ev⟩
    have e : doesS s ⟨4, a.ev⟩ = s.next.2 := by simp [doesS]
    rw [e] at hi
    have hf := h.fits
    have hok := h.ok
    refine ⟨hi, ?_, ?_, ?_⟩ <;> clear hi <;> unfold PSt.next
    · split
      · exact h.pos
      · split <;> exact h.pos
    · split
      · rename_i ev l he
        unfold PSt.tot at *
        rw [he] at hf
        simp [upd] at *
        omega
      · split
        · rename_i ev l he
          unfold PSt.tot at *
          rw [he] at hf
          simp [upd] at *
          omega
        · exact hf
    · split
      · rename_i ev l he
        intro i hi x hx
        replace hx : x ∈ upd s.L 0 l i := hx
        by_cases h0 : i = 0
        · subst h0
          rw [upd_same] at hx
          exact hok 0 hi x (by rw [he]; exact List.mem_cons_of_mem _ hx)
        · rw [upd_other _ _ h0] at hx
          exact hok i hi x hx
      · split
        · rename_i ev l he
          intro i hi x hx
          replace hx : x ∈ upd s.L 1 l i := hx
          by_cases h0 : i = 1
          · subst h0
            rw [upd_same] at hx
            exact hok 1 hi x (by rw [he]; exact List.mem_cons_of_mem _ hx)
          · rw [upd_other _ _ h0] at hx
            exact hok i hi x hx
        · exact hok
  rw [if_neg h4]
  by_cases h6 : a.kind % 7 = 6
  · rw [if_pos h6]
    have hi := does_inv h.toPInv ⟨6, a.ev⟩
    have e : doesS s ⟨6, a.ev⟩ = (s.gone a.ev.kind a.ev.at_).2 := by simp [doesS]
    rw [e] at hi
    refine ⟨hi, ?_, ?_, ?_⟩ <;> clear hi <;> unfold PSt.gone <;> split
    · exact h.pos
    · exact h.pos
    · have := s.drop_le a.ev.kind a.ev.at_
      have := h.fits
      simp only [PSt.drop] at *
      omega
    · exact h.fits
    · intro i hi x hx
      simp only [PSt.drop, without, List.mem_filter] at hx
      exact h.ok i hi x hx.1
    · exact h.ok
  rw [if_neg h6]
  exact addS_inv2 h (by split <;> omega) _ _ (fun hm => by
    by_cases hk : a.ev.kind = 1
    · simp [okEv, hk, hm]
    · simp [okEv, hk, hm])
end Go.Proofs.Ythfihlojpmhagaa
