/- The pool's laws: PoolAgain, PoolNone. -/
import Derived.Test.YthfihlojpmhagaaPool20
namespace Go.Proofs.Ythfihlojpmhagaa
open Go.RowKit
attribute [local go_sem ↓] Go.wp_at_zero Go.wp_at_succ

def BAt2 (w0 w : World) (b c : Nat) (s : PSt) : Prop := BAt w0 w b c s ∧ PInv2 s
theorem BAt2.does {w0 w : World} {b c : Nat} {s : PSt} (h : BAt2 w0 w b c s) (a : AEv) :
    Calls Try.prog 13 #[.pointer (some ⟨b, 0, none⟩), .pointer (some ⟨c, 0, none⟩), .agg #[.int .i64 a.kind, .int .u8 a.ev.kind, .string a.ev.name, .int .i64 a.ev.arg, .int .i64 a.ev.at_]] w fun e w' => e = .returned (.bool true) ∧ BAt2 w0 w' b c (doesS s a) :=
  (h.1.does a).mono fun _ _ ⟨he, hb⟩ => ⟨he, hb, does_inv2 h.2 a⟩

/-- a pool of the rows that were handed back -/
theorem again_at {w0 w w1 w2 : World} {b c b' : Nat} {s : PSt} (h : BAt2 w0 w b c s) {F : Nat → Prop} (f1 : Fr (fun _ => False) w w1)
    (hp : PoolAt 59 31 w1 b' s F) (hF : ∀ k, F k → w.heap.size ≤ k) (f2 : Fr (fun _ => False) w1 w2) : BAt w0 w2 b' c s := by
  obtain ⟨F0, G, h1, h2, h3, h4⟩ := h.1
  refine ⟨F, G, ⟨hp.same f2, (h1.r.same f1).same f2, fun k hk hG => ?_⟩, fun k hk => ?_, (h3.trans f1).trans f2, h4⟩
  · have := h1.r.lt k hG
    have := hF k hk
    omega
  · rcases hk with hk | hk
    · exact Nat.le_trans h3.size (hF k hk)
    · exact h2 k (.inr hk)

theorem rows_id (s : PSt) : ∀ i, i < 3 → rows3 (s.L 0) (s.L 1) (s.L 2) i = s.L i := by
  intro i hi
  rcases i with _ | _ | _ | i
  · rfl
  · rfl
  · rfl
  · omega

set_option maxHeartbeats 4000000 in
theorem again_any (room : Int) (v v' : Value) (ah l : List AEv) (w : World) (h : Rd actC w (· < w.heap.size) v ah) (h' : Rd actC w (· < w.heap.size) v' l) :
    Calls Try.prog 7 #[.int .i64 room, v, v'] w fun e w' => e = .returned (.bool true) ∧ Below w.heap.size w w' := by
  have H := hide h
  have H' := hide h'
  have HFEW := hide (few_any 60 _ v ah w h)
  have HFEW' := hide (few_any 60 _ v' l w h')
  obtain ⟨A, cap, rfl, -⟩ := h
  obtain ⟨A', cap', rfl, -⟩ := h'
  cases hfew : fewB ah 60 with
  | false =>
    rw [hfew] at HFEW
    clear hfew HFEW'
    go_enter Try.func7, Try.ntmps7
    go_wp2_with fail
    refine HFEW.out.mono ?_
    rintro e w1 ⟨rfl, rfl⟩
    go_wp2_with (go_at_call 10; refine (works_any _).mono ?_; rintro e w2 ⟨rfl, f2⟩)
    go_ret
    exact ⟨rfl, f2.to_below⟩
  | true =>
  rw [hfew] at HFEW
  have hlen : ah.length ≤ 60 := by
    simp only [fewB, Bool.and_eq_true, decide_eq_true_eq] at hfew
    omega
  clear hfew
  cases hfew : fewB l 60 with
  | false =>
    rw [hfew] at HFEW'
    clear hfew
    go_enter Try.func7, Try.ntmps7
    go_wp2_with fail
    refine HFEW.out.mono ?_
    rintro e w1 ⟨rfl, rfl⟩
    go_wp2_with fail
    refine HFEW'.out.mono ?_
    rintro e w1 ⟨rfl, rfl⟩
    go_wp2_with (go_at_call 10; refine (works_any _).mono ?_; rintro e w2 ⟨rfl, f2⟩)
    go_ret
    exact ⟨rfl, f2.to_below⟩
  | true =>
    rw [hfew] at HFEW'
    have hlen' : l.length ≤ 60 := by
      simp only [fewB, Bool.and_eq_true, decide_eq_true_eq] at hfew
      omega
    clear hfew
    go_enter Try.func7, Try.ntmps7
    go_wp2_with fail
    refine HFEW.out.mono ?_
    rintro e w1 ⟨rfl, rfl⟩
    go_wp2_with fail
    refine HFEW'.out.mono ?_
    rintro e w1 ⟨rfl, rfl⟩
    go_wp2_with (first
      | (go_at_call 11; refine (new_any room _).mono ?_; rintro e w1 ⟨rfl, hp, f1, -⟩; have P1 := hide (And.intro hp f1); clear hp f1)
      | (go_at_call 12; refine (rnew_any room _).mono ?_; rintro e w2 ⟨rfl, hr, f2, -⟩; have P2 := hide (BAt.made room P1.out.2 P1.out.1 (Nat.le_refl _) hr f2); clear hr f2))
    have hn := newRoom_le room
    have P3 : Hid (BAt2 w w2 w.heap.size w1.heap.size ⟨newRoom room, fun _ => []⟩) := ⟨P2.out, by obtain ⟨F, G, h1, h2, h3, h4⟩ := P2.out; exact h4, hn.1, by simp [PSt.tot]; omega, by simp⟩
    clear P1 P2 hn
    go_loopw [9] (fun i wr => ∃ (k : Nat) (s : PSt), k ≤ ah.length ∧ i = .int .i64 k ∧ Hid (BAt2 w wr w.heap.size w1.heap.size s)) (fun i _ => ah.length - (intOf i).toNat)
    case atStart => exact ⟨0, _, Nat.zero_le _, rfl, P3.out⟩
    case round =>
    obtain ⟨k, s, hk, rfl, hB⟩ := hrel
    by_cases hlt : k < ah.length
    · obtain ⟨g, off, cap', hv, hg, q0, q1, q2, q3, q4⟩ := rd_act (H.out.below hB.out.1.fr.to_below) hlt
      simp only [Value.slice.injEq, true_and] at hv
      obtain ⟨rfl, rfl⟩ := hv
      have hki : (k : Int) < (ah.length : Int) := by omega
      generalize ah[k] = a at *
      go_wp2_with (go_at_call 13; refine (hB.out.does a).mono ?_; rintro e v1 ⟨rfl, hb1⟩; have HB1 := hide hb1; clear hb1)
      go_roundw
      case rel => exact ⟨k + 1, _, by omega, by go_num, HB1.out⟩
      case measure => simp [intOf]; omega
    obtain rfl : k = ah.length := by omega
    have ht : s.tot ≤ 1000000 := Nat.le_trans hB.out.2.tot (by omega)
    have HPA : Hid (∃ F, PoolAt 59 31 wr w.heap.size s F) := by obtain ⟨F, G, h1, -⟩ := hB.out.1; exact ⟨F, h1.p⟩
    obtain ⟨F, hPA⟩ := HPA.out
    have HPA := hide hPA
    clear hPA hlt
    go_wp2_with fail
    refine (rows_any w.heap.size s F wr HPA.out ht).mono ?_
    rintro e w3 ⟨A0, c0, o0, A1, c1, o1, A2, c2, o2, rfl, m0, m1, m2, f3, hn, d01, d02, d12⟩
    have M := hide (And.intro m0 (And.intro m1 (And.intro m2 f3)))
    clear m0 m1 m2 f3 hn d01 d02 d12
    go_wp2_with fail
    refine (room_any w.heap.size s F w3 (HPA.out.same M.out.2.2.2)).mono ?_
    rintro e w4 ⟨rfl, rfl⟩
    go_wp2_with fail
    refine (of_any s.room _ _ _ _ _ _ s.L w3 M.out.1.rd M.out.2.1.rd M.out.2.2.1.rd M.out.1.lt M.out.2.1.lt M.out.2.2.1.lt ht).mono ?_
    rintro e w5 ⟨f5, hpost⟩
    have hok := (hB.out.2.toPInv).of_ok hB.out.2.pos hB.out.2.fits ⟨hB.out.2.ok 0 (by omega), hB.out.2.ok 1 (by omega), hB.out.2.ok 2 (by omega)⟩
    rcases hpost with ⟨he, b', F', rfl, hp', hF'⟩ | ⟨he, -⟩
    case inr => exact absurd hok.1 he
    rw [hok.2] at hp'
    have Q := hide (again_at hB.out (M.out.2.2.2.trans f5) hp' (fun k hk => Nat.le_trans M.out.2.2.2.size (hF' k hk)) (Fr.refl _ _))
    clear hok he hp' hF' f5 M HPA hB ht P3
    go_wp2_with fail
    go_loopw [15] (fun i wr => ∃ (k : Nat) (s : PSt), k ≤ l.length ∧ i = .int .i64 k ∧ Hid (BAt w wr b' w1.heap.size s)) (fun i _ => l.length - (intOf i).toNat)
    case atStart => exact ⟨0, _, Nat.zero_le _, rfl, Q.out⟩
    case round =>
    obtain ⟨k, s', hk, rfl, hB⟩ := hrel
    by_cases hlt : k < l.length
    · obtain ⟨g, off, cap', hv, hg, q0, q1, q2, q3, q4⟩ := rd_act (H'.out.below hB.out.fr.to_below) hlt
      simp only [Value.slice.injEq, true_and] at hv
      obtain ⟨rfl, rfl⟩ := hv
      have hki : (k : Int) < (l.length : Int) := by omega
      generalize l[k] = a at *
      go_wp2_with (first
        | (go_at_call 13; refine (hB.out.does a).mono ?_; rintro e v1 ⟨rfl, hb1⟩; have HB1 := hide hb1; clear hb1)
        | (go_at_call 14; refine (HB1.out.is).mono ?_; rintro e v2 ⟨rfl, hb2⟩; have HB2 := hide hb2; clear hb2))
      go_roundw
      case rel => exact ⟨k + 1, _, by omega, by go_num, HB2.out⟩
      case measure => simp [intOf]; omega
    obtain rfl : k = l.length := by omega
    go_wp2_with (go_at_call 10; refine (works_any _).mono ?_; rintro e v3 ⟨rfl, f3⟩)
    go_ret
    exact ⟨rfl, (hB.out.fr.trans f3).to_below⟩

/-! a pool that is not there -/

set_option maxHeartbeats 400000 in
theorem len_nil  (w : World) : Calls Try.prog 21 #[.pointer none] w fun e w' => e = .returned (.int .i64 0) ∧ Below w.heap.size w w' := by
  go_enter Try.func21, Try.ntmps21
  go_wp2
  go_returns
  exact ⟨rfl, by go_grown⟩

set_option maxHeartbeats 400000 in
theorem room_nil  (w : World) : Calls Try.prog 22 #[.pointer none] w fun e w' => e = .returned (.int .i64 0) ∧ Below w.heap.size w w' := by
  go_enter Try.func22, Try.ntmps22
  go_wp2
  go_returns
  exact ⟨rfl, by go_grown⟩

set_option maxHeartbeats 400000 in
theorem recall_nil  (w : World) : Calls Try.prog 18 #[.pointer none] w fun e w' => e = .returned (.int .i64 0) ∧ Below w.heap.size w w' := by
  go_enter Try.func18, Try.ntmps18
  go_wp2
  go_returns
  exact ⟨rfl, by go_grown⟩

set_option maxHeartbeats 400000 in
theorem next_nil  (w : World) : Calls Try.prog 20 #[.pointer none] w fun e w' => e = .returned (.tuple #[.agg #[.int .u8 0, .string ⟨#[]⟩, .int .i64 0, .int .i64 0], .bool false]) ∧ Below w.heap.size w w' := by
  go_enter Try.func20, Try.ntmps20
  go_wp2
  go_returns
  exact ⟨rfl, by go_grown⟩

set_option maxHeartbeats 400000 in
theorem rows_nil  (w : World) : Calls Try.prog 19 #[.pointer none] w fun e w' => e = .returned (.tuple #[.slice none 0 0, .slice none 0 0, .slice none 0 0]) ∧ Below w.heap.size w w' := by
  go_enter Try.func19, Try.ntmps19
  go_wp2
  go_returns
  exact ⟨rfl, by go_grown⟩

set_option maxHeartbeats 400000 in
theorem gone_nil (k t : Int) (w : World) : Calls Try.prog 23 #[.pointer none, .int .u8 k, .int .i64 t] w fun e w' => e = .returned (.int .i64 0) ∧ Below w.heap.size w w' := by
  go_enter Try.func23, Try.ntmps23
  go_wp2
  go_returns
  exact ⟨rfl, by go_grown⟩

set_option maxHeartbeats 400000 in
theorem add_nil (i k : Int) (nm : ByteArray) (x t : Int) (m : Bool) (w : World) : Calls Try.prog 37 #[.pointer none, .int .i64 i, .agg #[.int .u8 k, .string nm, .int .i64 x, .int .i64 t], .bool m] w fun e w' => e = .returned (.int .i64 1) ∧ Below w.heap.size w w' := by
  go_enter Try.func37, Try.ntmps37
  go_wp2
  go_returns
  exact ⟨rfl, by go_grown⟩

set_option maxHeartbeats 1000000 in
theorem put_nil (k : Int) (nm : ByteArray) (x t : Int) (w : World) : Calls Try.prog 16 #[.pointer none, .agg #[.int .u8 k, .string nm, .int .i64 x, .int .i64 t]] w fun e w' => e = .returned (.int .i64 1) ∧ Below w.heap.size w w' := by
  have hcW : (w.alloc (.cells #[.int .u8 k, .string nm, .int .i64 x, .int .i64 t] 31)).heap[w.heap.size]? = some (.cells #[.int .u8 k, .string nm, .int .i64 x, .int .i64 t] 31 (0, 0)) := heap_alloc_new w _
  have HC := hide hcW
  clear hcW
  by_cases hk : k = 1
  · have hkb : (k == 1) = true := by simpa using hk
    clear hk
    go_enter Try.func16, Try.ntmps16
    go_wp2_with fail
    go_region_held3 (fun w' => w'.cell? ⟨w.heap.size, 0, none⟩ = some (.int .u8 k) ∧ w'.cell? ⟨w.heap.size, 1, none⟩ = some (.string nm) ∧ w'.cell? ⟨w.heap.size, 2, none⟩ = some (.int .i64 x) ∧ w'.cell? ⟨w.heap.size, 3, none⟩ = some (.int .i64 t))
      (first | exact ev_cells z | exact ev_cells y | exact ev_cells HC.out)
      (first
        | (go_at_call 33; refine (may_any _ _ _ _ _).mono ?_; rintro e w1 ⟨rfl, hb1⟩; have y := (hb1.block w.heap.size (by simp)).trans HC.out; have f1 : Fr (fun _ => False) w w1 := (Fr.drew (Fr.alloc (Fr.refl _ _) _)).trans (Fr.of_below' hb1))
        | (go_at_call 37; refine (add_nil _ _ _ _ _ _ _).mono ?_; rintro e w2 ⟨rfl, hb2⟩; have z := (hb2.block w.heap.size (Array.getElem?_eq_some_iff.1 y).1).trans y))
    go_wp2
    go_ret
    exact ⟨rfl, (f1.trans (Fr.of_below' hb2)).to_below⟩
  · have hkb : (k == 1) = false := by simpa using hk
    clear hk
    go_enter Try.func16, Try.ntmps16
    go_wp2_with fail
    go_region_held3 (fun w' => w'.cell? ⟨w.heap.size, 0, none⟩ = some (.int .u8 k) ∧ w'.cell? ⟨w.heap.size, 1, none⟩ = some (.string nm) ∧ w'.cell? ⟨w.heap.size, 2, none⟩ = some (.int .i64 x) ∧ w'.cell? ⟨w.heap.size, 3, none⟩ = some (.int .i64 t))
      (first | exact ev_cells z | exact ev_cells y | exact ev_cells HC.out)
      (first
        | (go_at_call 33; refine (may_any _ _ _ _ _).mono ?_; rintro e w1 ⟨rfl, hb1⟩; have y := (hb1.block w.heap.size (by simp)).trans HC.out; have f1 : Fr (fun _ => False) w w1 := (Fr.drew (Fr.alloc (Fr.refl _ _) _)).trans (Fr.of_below' hb1))
        | (go_at_call 37; refine (add_nil _ _ _ _ _ _ _).mono ?_; rintro e w2 ⟨rfl, hb2⟩; have z := (hb2.block w.heap.size (Array.getElem?_eq_some_iff.1 y).1).trans y))
    go_wp2
    go_ret
    exact ⟨rfl, (f1.trans (Fr.of_below' hb2)).to_below⟩

set_option maxHeartbeats 1000000 in
theorem defer_nil (k : Int) (nm : ByteArray) (x t : Int) (w : World) : Calls Try.prog 17 #[.pointer none, .agg #[.int .u8 k, .string nm, .int .i64 x, .int .i64 t]] w fun e w' => e = .returned (.int .i64 1) ∧ Below w.heap.size w w' := by
  have hcW : (w.alloc (.cells #[.int .u8 k, .string nm, .int .i64 x, .int .i64 t] 31)).heap[w.heap.size]? = some (.cells #[.int .u8 k, .string nm, .int .i64 x, .int .i64 t] 31 (0, 0)) := heap_alloc_new w _
  have HC := hide hcW
  clear hcW
  by_cases hk : k = 2
  · have hkb : (k == 2) = true := by simpa using hk
    clear hk
    go_enter Try.func17, Try.ntmps17
    go_wp2_with fail
    go_region_held3 (fun w' => w'.cell? ⟨w.heap.size, 0, none⟩ = some (.int .u8 k) ∧ w'.cell? ⟨w.heap.size, 1, none⟩ = some (.string nm) ∧ w'.cell? ⟨w.heap.size, 2, none⟩ = some (.int .i64 x) ∧ w'.cell? ⟨w.heap.size, 3, none⟩ = some (.int .i64 t))
      (first | exact ev_cells z | exact ev_cells y | exact ev_cells HC.out)
      (first
        | (go_at_call 33; refine (may_any _ _ _ _ _).mono ?_; rintro e w1 ⟨rfl, hb1⟩; have y := (hb1.block w.heap.size (by simp)).trans HC.out; have f1 : Fr (fun _ => False) w w1 := (Fr.drew (Fr.alloc (Fr.refl _ _) _)).trans (Fr.of_below' hb1))
        | (go_at_call 37; refine (add_nil _ _ _ _ _ _ _).mono ?_; rintro e w2 ⟨rfl, hb2⟩; have z := (hb2.block w.heap.size (Array.getElem?_eq_some_iff.1 y).1).trans y))
    go_wp2
    go_ret
    exact ⟨rfl, (f1.trans (Fr.of_below' hb2)).to_below⟩
  · have hkb : (k == 2) = false := by simpa using hk
    clear hk
    go_enter Try.func17, Try.ntmps17
    go_wp2_with fail
    go_region_law (go_simp; go_at_call 37; refine (add_nil _ _ _ _ _ _ _).mono ?_; rintro e w2 ⟨rfl, hb2⟩)
    all_goals
      go_wp2
      go_ret
      exact ⟨rfl, (((Fr.drew (Fr.alloc (Fr.refl (fun _ => False) w) (.cells #[.int .u8 k, .string nm, .int .i64 x, .int .i64 t] 31)))).trans (Fr.of_below' hb2)).to_below⟩
end Go.Proofs.Ythfihlojpmhagaa
