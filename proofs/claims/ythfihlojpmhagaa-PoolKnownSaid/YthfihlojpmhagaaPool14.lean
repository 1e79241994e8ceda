/- The pool's laws: has a pool the rows that it should? -/
import Derived.Test.YthfihlojpmhagaaPool13
namespace Go.Proofs.Ythfihlojpmhagaa
open Go.RowKit
attribute [local go_sem ↓] Go.wp_at_zero Go.wp_at_succ

/-- rows that are written over: what stays -/
structure ZR (w wr : World) (lb : Nat) (A : Nat → Option Addr) (n c : Nat → Nat) (o : Nat → Option Nat) : Prop where
  blk : wr.heap[lb]? = some (.cells #[.slice (A 0) (n 0) (c 0), .slice (A 1) (n 1) (c 1), .slice (A 2) (n 2) (c 2)] 41 (0, 0))
  own : ∀ i, i < 3 → ∃ m : List Ev, m.length = n i ∧ Own evC wr 31 (.slice (A i) (n i) (c i)) (o i) m
  dj : ∀ i j, i < 3 → j < 3 → i ≠ j → Dj (o i) (o j)
  new : ∀ i, i < 3 → ∀ k, o i = some k → w.heap.size ≤ k
  fr : Fr (fun _ => False) w wr

/-- the world with an event of nothing at a place -/
def zset (wr : World) (g p : Nat) : World := (((wr.setCell ⟨g, p, none⟩ (.int .u8 0)).setCell ⟨g, p + 1, none⟩ (.string ⟨#[]⟩)).setCell ⟨g, p + 2, none⟩ (.int .i64 0)).setCell ⟨g, p + 3, none⟩ (.int .i64 0)

theorem ZR.step {w wr : World} {lb : Nat} {A : Nat → Option Addr} {n c : Nat → Nat} {o : Nat → Option Nat} (h : ZR w wr lb A n c o) {i q : Nat} (hi : i < 3) (hq : q < n i) :
    ∃ g off u0 u1 u2 u3, A i = some ⟨g, off, none⟩ ∧ g < wr.heap.size ∧ (wr.cell? ⟨g, off + q * 4, none⟩ = some u0 ∧ wr.cell? ⟨g, off + q * 4 + 1, none⟩ = some u1 ∧ wr.cell? ⟨g, off + q * 4 + 2, none⟩ = some u2 ∧ wr.cell? ⟨g, off + q * 4 + 3, none⟩ = some u3) ∧
      (∀ x, wr.frozen? ⟨g, x, none⟩ = false) ∧ ZR w (zset wr g (off + q * 4)) lb A n c o := by
  obtain ⟨m, hm, hown⟩ := h.own i hi
  have hqm : q < m.length := by omega
  obtain ⟨g, off, cap, hv, -, -, ho, hc⟩ := hown.rd.at_ hqm
  simp only [Value.slice.injEq] at hv
  obtain ⟨hA, -, hcap⟩ := hv
  have hgw := hown.lt g ho
  have c0 := hc 0 (by decide)
  have c1 := hc 1 (by decide)
  have c2 := hc 2 (by decide)
  have c3 := hc 3 (by decide)
  simp only [evC, Nat.add_zero, List.getElem?_cons_zero, List.getElem?_cons_succ, ← Nat.add_assoc] at c0 c1 c2 c3
  have hneb := hown.ne_blk h.blk (by decide)
  have hf : Fr (fun k => k = g) wr (zset wr g (off + q * 4)) := Fr.setCell (Fr.setCell (Fr.setCell (Fr.setCell (Fr.refl (fun k => k = g) wr) (.inl rfl) _) (.inl rfl) _) (.inl rfl) _) (.inl rfl) _
  have hlb : lb < wr.heap.size := (Array.getElem?_eq_some_iff.1 h.blk).1
  refine ⟨g, off, _, _, _, _, hA, hgw, ⟨c0, c1, c2, c3⟩, fun x => hown.frozen (by rw [hA]) (by rw [ho]; simp), ⟨(hf.block lb hlb (fun e => hneb (by rw [ho, e]))).trans h.blk, fun j hj => ?_, h.dj, h.new, ?_⟩⟩
  · by_cases hji : j = i
    · subst hji
      refine ⟨m.set q ⟨0, ⟨#[]⟩, 0, 0⟩, by rw [List.length_set]; exact hm, ?_⟩
      rw [hA, ho] at hown ⊢
      exact hown.set4 hqm 0 ⟨#[]⟩ 0 0
    · obtain ⟨m', hm', hown'⟩ := h.own j hj
      exact ⟨m', hm', hown'.fr hf (fun k hk e => h.dj j i hj hi hji k hk (by rw [ho, e]))⟩
  · exact h.fr.then_ hf (fun k hk e => by have := h.new i hi g ho; omega)

set_option maxHeartbeats 4000000 in
theorem is_true (b c : Nat) (s : PSt) (F G : Nat → Prop) (w : World) (h : PoolAt 59 31 w b s F) (h' : PoolAt 61 63 w c s G) (ht : s.tot ≤ 1000000) :
    Calls Try.prog 14 #[.pointer (some ⟨b, 0, none⟩), .pointer (some ⟨c, 0, none⟩)] w fun e w' => e = .returned (.bool true) ∧ Fr (fun _ => False) w w' := by
  have l0 := s.le_tot (i := 0) (by omega)
  have l1 := s.le_tot (i := 1) (by omega)
  have l2 := s.le_tot (i := 2) (by omega)
  have H := hide h
  have H' := hide h'
  obtain ⟨us, ps, hR, hFR⟩ := h'
  have r0 := hR.cell0
  have r1 := hR.cell (i := 0) (by omega)
  have r2 := hR.cell (i := 1) (by omega)
  have r3 := hR.cell (i := 2) (by omega)
  simp only [Nat.reduceAdd] at r1 r2 r3
  have hcw := hR.lt
  have HR := hide hR
  have HQ := hide (And.intro r1 (And.intro r2 r3))
  clear h hR hFR r1 r2 r3
  go_enter Try.func14, Try.ntmps14
  go_wp2_with fail
  go_quiet ((first
    | (go_at_call 21; exact quiet_left (len_any b s F _ (H.out.same (Fr.drewN (Fr.refl _ _) _)) ht))
    | (go_at_call 36; exact rlen_fr c s G _ H'.out ht _)
    | (go_at_call 22; exact quiet_left (room_any b s F _ (H.out.same (Fr.drewN (Fr.refl _ _) _))))))
  have F0 := hide (Fr.drewN (Fr.refl (fun _ => False) w) nq)
  go_wp2_with fail
  generalize w.drewN nq = w0 at *
  clear r0
  go_loopw [5] (fun i wr => ∃ k : Nat, k ≤ 2 ∧ i = .int .i64 k ∧ Hid (Fr (fun _ => False) w wr)) (fun i _ => 2 - (intOf i).toNat)
  case atStart => exact ⟨0, by omega, rfl, F0.out⟩
  case round =>
    obtain ⟨k, hk, rfl, hfr⟩ := hrel
    by_cases hlt : k < 2
    · have hlti : (k : Int) < 2 := by omega
      go_wp2_with fail
      refine (rows_any b s F wr (H.out.same hfr.out) ht).mono ?_
      rintro e w1 ⟨A0, c0, o0, A1, c1, o1, A2, c2, o2, rfl, m0, m1, m2, f1, hn, d01, d02, d12⟩
      have F1 := hide (hfr.out.trans f1)
      have M := hide (And.intro m0 (And.intro m1 m2))
      have D := hide (And.intro d01 (And.intro d02 d12))
      have N := hide (show ∀ k, o0 = some k ∨ o1 = some k ∨ o2 = some k → w.heap.size ≤ k from fun k hk => Nat.le_trans hfr.out.size (hn k hk))
      have q1 := (F1.out.cell (p := ⟨c, 1, none⟩) hcw (fun h => h)).trans HQ.out.1
      have hcw1 : c < w1.heap.size := Nat.lt_of_lt_of_le hcw F1.out.size
      clear m0 m1 m2 f1 hn d01 d02 d12
      go_wp2_with fail
      refine (same_true _ _ _ (us 0) (s.L 0) w1 M.out.1.rd ((HR.out.same F1.out).own 0 (by omega)).rd M.out.1.lt ((HR.out.same F1.out).own 0 (by omega)).lt (by omega)).mono ?_
      rintro e w2 ⟨rfl, f2⟩
      have F2 := hide (F1.out.trans f2)
      have M2 := hide (And.intro (M.out.1.fr f2 (fun _ _ h => h)) (And.intro (M.out.2.1.fr f2 (fun _ _ h => h)) (M.out.2.2.fr f2 (fun _ _ h => h))))
      have q2 := (F2.out.cell (p := ⟨c, 2, none⟩) hcw (fun h => h)).trans HQ.out.2.1
      have hcw2 : c < w2.heap.size := Nat.lt_of_lt_of_le hcw F2.out.size
      clear f2 q1 hcw1
      go_wp2_with fail
      refine (same_true _ _ _ (us 1) (s.L 1) w2 M2.out.2.1.rd ((HR.out.same F2.out).own 1 (by omega)).rd M2.out.2.1.lt ((HR.out.same F2.out).own 1 (by omega)).lt (by omega)).mono ?_
      rintro e w3 ⟨rfl, f3⟩
      have F3 := hide (F2.out.trans f3)
      have M3 := hide (And.intro (M2.out.1.fr f3 (fun _ _ h => h)) (And.intro (M2.out.2.1.fr f3 (fun _ _ h => h)) (M2.out.2.2.fr f3 (fun _ _ h => h))))
      have q3 := (F3.out.cell (p := ⟨c, 3, none⟩) hcw (fun h => h)).trans HQ.out.2.2
      have hcw3 : c < w3.heap.size := Nat.lt_of_lt_of_le hcw F3.out.size
      clear f3 q2 hcw2
      go_wp2_with fail
      refine (same_true _ _ _ (us 2) (s.L 2) w3 M3.out.2.2.rd ((HR.out.same F3.out).own 2 (by omega)).rd M3.out.2.2.lt ((HR.out.same F3.out).own 2 (by omega)).lt (by omega)).mono ?_
      rintro e w4 ⟨rfl, f4⟩
      have hz : ZR w (w4.alloc (.cells #[.slice A0 (s.L 0).length c0, .slice A1 (s.L 1).length c1, .slice A2 (s.L 2).length c2] 41)) w4.heap.size (fun i => if i = 0 then A0 else if i = 1 then A1 else A2) (fun i => (s.L i).length) (fun i => if i = 0 then c0 else if i = 1 then c1 else c2) (fun i => if i = 0 then o0 else if i = 1 then o1 else o2) := by
        have f5 := Fr.alloc (Fr.refl (fun _ => False) w4) (.cells #[.slice A0 (s.L 0).length c0, .slice A1 (s.L 1).length c1, .slice A2 (s.L 2).length c2] 41)
        refine ⟨heap_alloc_new w4 _, fun i hi => ?_, fun i j hi hj hij => ?_, fun i hi k hk => ?_, Fr.alloc (F3.out.trans f4) _⟩
        · rcases i with _ | _ | _ | i
          · exact ⟨_, rfl, (M3.out.1.fr f4 (fun _ _ h => h)).fr f5 (fun _ _ h => h)⟩
          · exact ⟨_, rfl, (M3.out.2.1.fr f4 (fun _ _ h => h)).fr f5 (fun _ _ h => h)⟩
          · exact ⟨_, rfl, (M3.out.2.2.fr f4 (fun _ _ h => h)).fr f5 (fun _ _ h => h)⟩
          · omega
        · rcases i with _ | _ | _ | i <;> rcases j with _ | _ | _ | j <;> first | omega | exact D.out.1 | exact D.out.2.1 | exact D.out.2.2 | exact D.out.1.symm | exact D.out.2.1.symm | exact D.out.2.2.symm
        · rcases i with _ | _ | _ | i
          · exact N.out k (.inl hk)
          · exact N.out k (.inr (.inl hk))
          · exact N.out k (.inr (.inr hk))
          · omega
      have HZ := hide hz
      clear hz f4 q3 hcw3
      go_wp2_with fail
      generalize w4.alloc (.cells #[.slice A0 (s.L 0).length c0, .slice A1 (s.L 1).length c1, .slice A2 (s.L 2).length c2] 41) = w5 at *
      generalize w4.heap.size = lb at *
      clear M M2 M3 F1 F2 F3 D N
      refine wp_loop_rounds 4 ?_
      rw [rounds_succ]
      go_wp2_with fail
      go_loopw [11] (fun j wr => ∃ q : Nat, q ≤ (s.L 0).length ∧ j = .int .i64 q ∧ Hid (ZR w wr lb (fun i => if i = 0 then A0 else if i = 1 then A1 else A2) (fun i => (s.L i).length) (fun i => if i = 0 then c0 else if i = 1 then c1 else c2) (fun i => if i = 0 then o0 else if i = 1 then o1 else o2))) (fun j _ => (s.L 0).length - (intOf j).toNat)
      case atStart => exact ⟨0, Nat.zero_le _, rfl, HZ.out⟩
      case round =>
      obtain ⟨q, hq, rfl, HZ0⟩ := hrel
      have x0 : wr.cell? ⟨lb, 0, none⟩ = some (.slice A0 (s.L 0).length c0) := cell_of_row wr lb 0 _ _ _ HZ0.out.blk
      have hlb0 : lb < wr.heap.size := (Array.getElem?_eq_some_iff.1 HZ0.out.blk).1
      by_cases hlt : q < (s.L 0).length
      · obtain ⟨g, off, u0, u1, u2, u3, hA, hgw, ⟨y0, y1, y2, y3⟩, hfz, hz⟩ := HZ0.out.step (i := 0) (by omega) hlt
        replace hA : A0 = some ⟨g, off, none⟩ := hA
        subst hA
        have z0 := hfz (off + q * 4)
        have z1 := hfz (off + q * 4 + 1)
        have z2 := hfz (off + q * 4 + 2)
        have z3 := hfz (off + q * 4 + 3)
        have HZ := hide hz
        have hqi : (q : Int) < ((s.L 0).length : Int) := by omega
        clear hfz hz
        go_wp2_with fail
        go_roundw
        case rel => exact ⟨q + 1, by omega, by go_num, HZ.out⟩
        case measure => simp [intOf]; omega
      obtain rfl : q = (s.L 0).length := by omega
      go_wp2_with fail
      clear x0 hlb0 hlt HZ
      have HZ := HZ0
      clear HZ0
      rw [rounds_succ]
      go_wp2_with fail
      go_loopw [11] (fun j wr => ∃ q : Nat, q ≤ (s.L 1).length ∧ j = .int .i64 q ∧ Hid (ZR w wr lb (fun i => if i = 0 then A0 else if i = 1 then A1 else A2) (fun i => (s.L i).length) (fun i => if i = 0 then c0 else if i = 1 then c1 else c2) (fun i => if i = 0 then o0 else if i = 1 then o1 else o2))) (fun j _ => (s.L 1).length - (intOf j).toNat)
      case atStart => exact ⟨0, Nat.zero_le _, rfl, HZ.out⟩
      case round =>
      obtain ⟨q, hq, rfl, HZ1⟩ := hrel
      have x1 : wr.cell? ⟨lb, 1, none⟩ = some (.slice A1 (s.L 1).length c1) := cell_of_row wr lb 1 _ _ _ HZ1.out.blk
      have hlb1 : lb < wr.heap.size := (Array.getElem?_eq_some_iff.1 HZ1.out.blk).1
      by_cases hlt : q < (s.L 1).length
      · obtain ⟨g, off, u0, u1, u2, u3, hA, hgw, ⟨y0, y1, y2, y3⟩, hfz, hz⟩ := HZ1.out.step (i := 1) (by omega) hlt
        replace hA : A1 = some ⟨g, off, none⟩ := hA
        subst hA
        have z0 := hfz (off + q * 4)
        have z1 := hfz (off + q * 4 + 1)
        have z2 := hfz (off + q * 4 + 2)
        have z3 := hfz (off + q * 4 + 3)
        have HZ := hide hz
        have hqi : (q : Int) < ((s.L 1).length : Int) := by omega
        clear hfz hz
        go_wp2_with fail
        go_roundw
        case rel => exact ⟨q + 1, by omega, by go_num, HZ.out⟩
        case measure => simp [intOf]; omega
      obtain rfl : q = (s.L 1).length := by omega
      go_wp2_with fail
      clear x1 hlb1 hlt HZ
      have HZ := HZ1
      clear HZ1
      rw [rounds_succ]
      go_wp2_with fail
      go_loopw [11] (fun j wr => ∃ q : Nat, q ≤ (s.L 2).length ∧ j = .int .i64 q ∧ Hid (ZR w wr lb (fun i => if i = 0 then A0 else if i = 1 then A1 else A2) (fun i => (s.L i).length) (fun i => if i = 0 then c0 else if i = 1 then c1 else c2) (fun i => if i = 0 then o0 else if i = 1 then o1 else o2))) (fun j _ => (s.L 2).length - (intOf j).toNat)
      case atStart => exact ⟨0, Nat.zero_le _, rfl, HZ.out⟩
      case round =>
      obtain ⟨q, hq, rfl, HZ2⟩ := hrel
      have x2 : wr.cell? ⟨lb, 2, none⟩ = some (.slice A2 (s.L 2).length c2) := cell_of_row wr lb 2 _ _ _ HZ2.out.blk
      have hlb2 : lb < wr.heap.size := (Array.getElem?_eq_some_iff.1 HZ2.out.blk).1
      by_cases hlt : q < (s.L 2).length
      · obtain ⟨g, off, u0, u1, u2, u3, hA, hgw, ⟨y0, y1, y2, y3⟩, hfz, hz⟩ := HZ2.out.step (i := 2) (by omega) hlt
        replace hA : A2 = some ⟨g, off, none⟩ := hA
        subst hA
        have z0 := hfz (off + q * 4)
        have z1 := hfz (off + q * 4 + 1)
        have z2 := hfz (off + q * 4 + 2)
        have z3 := hfz (off + q * 4 + 3)
        have HZ := hide hz
        have hqi : (q : Int) < ((s.L 2).length : Int) := by omega
        clear hfz hz
        go_wp2_with fail
        go_roundw
        case rel => exact ⟨q + 1, by omega, by go_num, HZ.out⟩
        case measure => simp [intOf]; omega
      obtain rfl : q = (s.L 2).length := by omega
      go_wp2_with fail
      clear x2 hlb2 hlt HZ
      have HZ := HZ2
      clear HZ2
      rw [rounds_succ]
      go_wp2_with fail
      go_roundw
      case rel => exact ⟨k + 1, by omega, by go_num, HZ.out.fr⟩
      case measure => simp [intOf]; omega
    · obtain rfl : k = 2 := by omega
      go_wp2_with fail
      go_ret
      exact ⟨rfl, hfr.out⟩
end Go.Proofs.Ythfihlojpmhagaa
