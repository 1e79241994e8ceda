/- The pool's laws: PoolPlays, PoolRows, PoolAgain, PoolNone. -/
import Derived.Test.YthfihlojpmhagaaPool17
namespace Go.Proofs.Ythfihlojpmhagaa
open Go.RowKit
attribute [local go_sem ↓] Go.wp_at_zero Go.wp_at_succ

/-- both, while a law runs -/
def BAt (w0 w : World) (b c : Nat) (s : PSt) : Prop := ∃ F G, Both w b c s F G ∧ (∀ k, F k ∨ G k → w0.heap.size ≤ k) ∧ Fr (fun _ => False) w0 w ∧ PInv s
theorem BAt.same {w0 w w' : World} {b c : Nat} {s : PSt} (h : BAt w0 w b c s) (hf : Fr (fun _ => False) w w') : BAt w0 w' b c s := by
  obtain ⟨F, G, h1, h2, h3, h4⟩ := h
  exact ⟨F, G, h1.same hf, h2, h3.trans hf, h4⟩
theorem BAt.fr {w0 w : World} {b c : Nat} {s : PSt} (h : BAt w0 w b c s) : Fr (fun _ => False) w0 w := by
  obtain ⟨F, G, h1, h2, h3, h4⟩ := h
  exact h3
theorem BAt.does {w0 w : World} {b c : Nat} {s : PSt} (h : BAt w0 w b c s) (a : AEv) :
    Calls Try.prog 13 #[.pointer (some ⟨b, 0, none⟩), .pointer (some ⟨c, 0, none⟩), .agg #[.int .i64 a.kind, .int .u8 a.ev.kind, .string a.ev.name, .int .i64 a.ev.arg, .int .i64 a.ev.at_]] w fun e w' => e = .returned (.bool true) ∧ BAt w0 w' b c (doesS s a) := by
  obtain ⟨F, G, h1, h2, h3, h4⟩ := h
  refine (does_any b c s F G a w h1 h4).mono fun e w' ⟨he, F', G', p1, p2, p3⟩ => ⟨he, F', G', p1, fun k hk => ?_, h3.then_ p2 (fun k hk hF => by have := h2 k hF; omega), does_inv h4 a⟩
  rcases p3 k hk with h5 | h5 | h5
  · exact h2 k (.inl h5)
  · exact h2 k (.inr h5)
  · exact Nat.le_trans h3.size h5
theorem BAt.is {w0 w : World} {b c : Nat} {s : PSt} (h : BAt w0 w b c s) :
    Calls Try.prog 14 #[.pointer (some ⟨b, 0, none⟩), .pointer (some ⟨c, 0, none⟩)] w fun e w' => e = .returned (.bool true) ∧ BAt w0 w' b c s := by
  obtain ⟨F, G, h1, h2, h3, h4⟩ := h
  exact (is_true b c s F G w h1.p h1.r (Nat.le_trans h4.tot (by omega))).mono fun e w' ⟨he, f⟩ => ⟨he, F, G, h1.same f, h2, h3.trans f, h4⟩
theorem newRoom_le (n : Int) : 1 ≤ newRoom n ∧ newRoom n ≤ 256 := by unfold newRoom; split <;> (try split) <;> omega
/-- both are made -/
theorem BAt.made {w0 w1 w2 : World} {b0 : Nat} (room : Int) (f0 : Fr (fun _ => False) w0 w1)
    (hp : PoolAt 59 31 w1 b0 ⟨newRoom room, fun _ => []⟩ (fun k => k = b0)) (hb : w0.heap.size ≤ b0)
    (hr : PoolAt 61 63 w2 w1.heap.size ⟨newRoom room, fun _ => []⟩ (fun k => k = w1.heap.size)) (f : Fr (fun _ => False) w1 w2) : BAt w0 w2 b0 w1.heap.size ⟨newRoom room, fun _ => []⟩ := by
  have hlt := hp.lt b0 rfl
  refine ⟨_, _, ⟨hp.same f, hr, fun k hk hk' => by omega⟩, fun k hk => ?_, f0.trans f, ⟨by simp [PSt.tot], (newRoom_le room).2, by simp⟩⟩
  have := f0.size
  rcases hk with h | h <;> omega

theorem rd_act {w : World} {S : Nat → Prop} {v : Value} {l : List AEv} (h : Rd actC w S v l) {i : Nat} (hi : i < l.length) : ∃ g off cap, v = .slice (some ⟨g, off, none⟩) l.length cap ∧ S g ∧
    w.cell? ⟨g, off + i * 5, none⟩ = some (.int .i64 l[i].kind) ∧ w.cell? ⟨g, off + i * 5 + 1, none⟩ = some (.int .u8 l[i].ev.kind) ∧ w.cell? ⟨g, off + i * 5 + 2, none⟩ = some (.string l[i].ev.name) ∧
    w.cell? ⟨g, off + i * 5 + 3, none⟩ = some (.int .i64 l[i].ev.arg) ∧ w.cell? ⟨g, off + i * 5 + 4, none⟩ = some (.int .i64 l[i].ev.at_) := by
  obtain ⟨g, off, cap, hv, -, -, hg, hc⟩ := h.at_ hi
  have c0 := hc 0 (by decide)
  have c1 := hc 1 (by decide)
  have c2 := hc 2 (by decide)
  have c3 := hc 3 (by decide)
  have c4 := hc 4 (by decide)
  simp only [actC, evC, Nat.add_zero, List.getElem?_cons_zero, List.getElem?_cons_succ, ← Nat.add_assoc] at c0 c1 c2 c3 c4
  exact ⟨g, off, cap, hv, hg, c0, c1, c2, c3, c4⟩

set_option maxHeartbeats 2000000 in
theorem plays_any (room : Int) (v : Value) (l : List AEv) (w : World) (h : Rd actC w (· < w.heap.size) v l) :
    Calls Try.prog 3 #[.int .i64 room, v] w fun e w' => e = .returned (.bool true) ∧ Below w.heap.size w w' := by
  have H := hide h
  have HFEW := hide (few_any 100 _ v l w h)
  obtain ⟨A, cap, rfl, hlc, hcm, -⟩ := h
  cases hfew : fewB l 100 with
  | false =>
    rw [hfew] at HFEW
    clear hfew
    go_enter Try.func3, Try.ntmps3
    go_wp2_with (first
      | (go_at_call 9; refine HFEW.out.mono ?_; rintro e w1 ⟨rfl, rfl⟩)
      | (go_at_call 10; refine (works_any _).mono ?_; rintro e w2 ⟨rfl, f2⟩))
    go_ret
    exact ⟨rfl, f2.to_below⟩
  | true =>
    rw [hfew] at HFEW
    have hlen : l.length ≤ 100 := by
      simp only [fewB, Bool.and_eq_true, decide_eq_true_eq] at hfew
      omega
    clear hfew
    go_enter Try.func3, Try.ntmps3
    go_wp2_with (first
      | (go_at_call 9; refine HFEW.out.mono ?_; rintro e w1 ⟨rfl, rfl⟩)
      | (go_at_call 11; refine (new_any room _).mono ?_; rintro e w1 ⟨rfl, hp, f1, -⟩; have P1 := hide (And.intro hp f1); clear hp f1)
      | (go_at_call 12; refine (rnew_any room _).mono ?_; rintro e w2 ⟨rfl, hr, f2, -⟩; have P2 := hide (BAt.made room P1.out.2 P1.out.1 (Nat.le_refl _) hr f2); clear hr f2))
    go_loopw [7] (fun i wr => ∃ (k : Nat) (s : PSt), k ≤ l.length ∧ i = .int .i64 k ∧ Hid (BAt w wr w.heap.size w1.heap.size s)) (fun i _ => l.length - (intOf i).toNat)
    case atStart => exact ⟨0, _, Nat.zero_le _, rfl, P2.out⟩
    case round =>
      obtain ⟨k, s, hk, rfl, hB⟩ := hrel
      by_cases hlt : k < l.length
      · obtain ⟨g, off, cap', hv, hg, q0, q1, q2, q3, q4⟩ := rd_act (H.out.below hB.out.fr.to_below) hlt
        simp only [Value.slice.injEq, true_and] at hv
        obtain ⟨rfl, rfl⟩ := hv
        have hki : (k : Int) < (l.length : Int) := by omega
        generalize l[k] = a at *
        go_wp2_with (first
          | (go_at_call 13; refine (hB.out.does a).mono ?_; rintro e v1 ⟨rfl, hb1⟩; have HB1 := hide hb1; clear hb1)
          | (go_at_call 14; refine (HB1.out.is).mono ?_; rintro e v2 ⟨rfl, hb2⟩; have HB2 := hide hb2; clear hb2))
        go_roundw
        case rel => exact ⟨k + 1, _, by omega, by go_num, HB2.out⟩
        case measure => simp [intOf]; omega
      · obtain rfl : k = l.length := by omega
        go_wp2_with (first
          | (go_at_call 14; refine (hB.out.is).mono ?_; rintro e v2 ⟨rfl, hb2⟩; have HB2 := hide hb2; clear hb2)
          | (go_at_call 10; refine (works_any _).mono ?_; rintro e v3 ⟨rfl, f3⟩))
        go_ret
        exact ⟨rfl, (HB2.out.fr.trans f3).to_below⟩

/-- what Rows handed back, put into Of, is the same pool -/
theorem PInv.of_ok {s : PSt} (h : PInv s) (hr : 1 ≤ s.room) (ht : (s.tot : Int) ≤ s.room) (hk : (∀ e ∈ s.L 0, okEv 0 e = true) ∧ (∀ e ∈ s.L 1, okEv 1 e = true) ∧ (∀ e ∈ s.L 2, okEv 2 e = true)) : ofErr s.room s.L = 0 ∧ newRoom s.room = s.room := by
  have hn : newRoom s.room = s.room := by
    have := h.room
    unfold newRoom
    rw [if_neg (by omega), if_neg (by omega)]
  refine ⟨?_, hn⟩
  rw [ofErr_good hk.1 hk.2.1 hk.2.2, if_neg]
  rw [hn]
  show ¬ s.room < (s.tot : Int)
  omega
end Go.Proofs.Ythfihlojpmhagaa
