/- The reference's pool. -/
import Derived.Test.YthfihlojpmhagaaPool9
namespace Go.Proofs.Ythfihlojpmhagaa
open Go.RowKit
attribute [local go_sem ↓] Go.wp_at_zero Go.wp_at_succ

set_option maxHeartbeats 400000 in
theorem rnew_any (n : Int) (w : World) :
    Calls Try.prog 12 #[.int .i64 n] w fun e w' => e = .returned (.pointer (some ⟨w.heap.size, 0, none⟩)) ∧ PoolAt 61 63 w' w.heap.size ⟨newRoom n, fun _ => []⟩ (fun k => k = w.heap.size) ∧ Fr (fun _ => False) w w' ∧ w'.heap.size = w.heap.size + 1 := by
  go_enter Try.func12, Try.ntmps12
  go_wp2
  all_goals go_ret
  all_goals refine ⟨rfl, ⟨fun _ => .slice none 0 0, fun _ => none, ⟨?_, fun _ _ => Own.nil_ _ _ _ none, fun _ _ _ _ _ k hk => (by cases hk)⟩, rfl, fun _ _ k hk => (by cases hk), fun k hk => ?_⟩, Fr.alloc (Fr.refl _ _) _, by simp⟩
  all_goals first | (subst hk; simp; done) | skip
  all_goals rw [heap_alloc_new]; simp [newRoom]
  all_goals omega

set_option maxHeartbeats 400000 in
theorem rlen_any (b : Nat) (s : PSt) (F : Nat → Prop) (w : World) (h : PoolAt 61 63 w b s F) (ht : s.tot ≤ 1000000) :
    Calls Try.prog 36 #[.pointer (some ⟨b, 0, none⟩)] w fun e w' => e = .returned (.int .i64 s.tot) ∧ ∃ n, w' = w.drewN n := by
  obtain ⟨vs, os, h, -⟩ := h
  obtain ⟨A0, c0, e0, -, -⟩ := (h.own 0 (by omega)).form
  obtain ⟨A1, c1, e1, -, -⟩ := (h.own 1 (by omega)).form
  obtain ⟨A2, c2, e2, -, -⟩ := (h.own 2 (by omega)).form
  have k1 := h.cell (i := 0) (by omega)
  have k2 := h.cell (i := 1) (by omega)
  have k3 := h.cell (i := 2) (by omega)
  rw [e0] at k1; rw [e1] at k2; rw [e2] at k3
  simp only [Nat.reduceAdd] at k1 k2 k3
  unfold PSt.tot at *
  generalize (s.L 0).length = n0 at *
  generalize (s.L 1).length = n1 at *
  generalize (s.L 2).length = n2 at *
  clear h e0 e1 e2
  go_enter Try.func36, Try.ntmps36
  go_wp2_with fail
  have i1 : IntKind.i64.wrap ((n0 : Int) + (n1 : Int)) = (n0 : Int) + (n1 : Int) := IntWalk.i64_in _ (by omega)
  have i2 : IntKind.i64.wrap ((n0 : Int) + (n1 : Int) + (n2 : Int)) = (n0 : Int) + (n1 : Int) + (n2 : Int) := IntWalk.i64_in _ (by omega)
  go_quiet (fail)
  go_wp2_with fail
  go_ret
  exact ⟨by simp, _, rfl⟩
theorem rlen_fr (b : Nat) (s : PSt) (F : Nat → Prop) (w : World) (h : PoolAt 61 63 w b s F) (ht : s.tot ≤ 1000000) (n : Nat) :
    Calls Try.prog 36 #[.pointer (some ⟨b, 0, none⟩)] (w.drewN n) fun e w'' => e = .returned (.int .i64 s.tot) ∧ ∃ m, w'' = w.drewN m :=
  (rlen_any b s F _ (h.same (Fr.drewN (Fr.refl _ _) _)) ht).mono fun _ _ ⟨he, m, hm⟩ => ⟨he, n + m, by rw [hm, World.drewN_drewN]⟩

/-- the append of one event to row i, in memory -/
theorem rows_push {T E : TypeId} {w W w1 : World} {b i : Nat} {s : PSt} {vs : Nat → Value} {os : Nat → Option Nat} {F : Nat → Prop} (hT : T ≠ E) (hi : i < 3) (h : PoolR T E W b s vs os) (hF : F b) (hos : ∀ i, i < 3 → ∀ k, os i = some k → F k) (hfW : Fr (fun _ => False) w W)
    {e : Ev} {v' : Value} {o' : Option Nat} (hown : Own evC w1 E v' o' (s.L i ++ [e])) (hf : Fr (fun k => os i = some k) W w1) (hn : ∀ k, o' = some k → os i = some k ∨ W.heap.size ≤ k) :
    PoolPost T E b (s.push i e) F w (w1.setCell ⟨b, 1 + i, none⟩ v') := by
  have p := h.upd_ hi hT hf hown hn
  refine p.post hF (fun j hj k hk => ?_) ((hfW.mono fun _ h => h.elim).trans (Fr.setCell (hf.mono fun k hk => hos i hi k hk) (.inl hF) _))
  by_cases hji : j = i
  · subst hji
    rw [upd_same] at hk
    exact (hn k hk).imp (hos j hj k) (fun h => Nat.le_trans hfW.size h)
  · rw [upd_other _ _ hji] at hk
    exact .inl (hos j hj k hk)

set_option maxHeartbeats 1000000 in
theorem rput_any (b : Nat) (s : PSt) (F : Nat → Prop) (k : Int) (nm : ByteArray) (a t : Int) (w : World) (h : PoolAt 61 63 w b s F) (ht : s.tot ≤ 1000000) :
    Calls Try.prog 35 #[.pointer (some ⟨b, 0, none⟩), .agg #[.int .u8 k, .string nm, .int .i64 a, .int .i64 t]] w fun e w' => e = .returned (.int .i64 (putS s ⟨k, nm, a, t⟩).1) ∧
      PoolPost 61 63 b (putS s ⟨k, nm, a, t⟩).2 F w w' := by
  obtain ⟨vs, os, h, hF⟩ := h
  have H := hide h
  have HF := hide hF
  have h0 := h.cell0
  have hbs := h.lt
  have HLEN : ∀ W : World, Fr (fun _ => False) w W → Hid (∀ n, Calls Try.prog 36 #[.pointer (some ⟨b, 0, none⟩)] (W.drewN n) fun e w'' => e = .returned (.int .i64 s.tot) ∧ ∃ m, w'' = W.drewN m) := fun W hW n => rlen_fr b s (fun k => k < W.heap.size) W ⟨vs, os, h.same hW, (h.same hW).lt, fun j hj k hk => ((h.same hW).own j hj).lt k hk, fun _ h => h⟩ ht n
  have HL := hide HLEN
  clear h hF HLEN
  have hS : ∀ m, mayB ⟨k, nm, a, t⟩ = m → putS s ⟨k, nm, a, t⟩ = addS s (if k = 1 then 0 else 1) ⟨k, nm, a, t⟩ m := fun m hm => by rw [← hm]; rfl
  obtain ⟨r, hr0⟩ : ∃ r, putS s ⟨k, nm, a, t⟩ = r := ⟨_, rfl⟩
  rw [hr0]
  have HR := hide hr0
  clear hr0
  go_enter Try.func35, Try.ntmps35
  go_wp2_with fail
  refine (rmay_any k nm a t _).mono ?_
  rintro e w1 ⟨rfl, hb1⟩
  have hc1 := (hb1.block w.heap.size (by simp)).trans (heap_alloc_new w (.cells #[.int .u8 k, .string nm, .int .i64 a, .int .i64 t] 63))
  have f1 : Fr (fun _ => False) w w1 := (Fr.alloc (Fr.refl _ _) _).trans (Fr.of_below' hb1)
  obtain ⟨y0, y1, y2, y3⟩ := ev_cells hc1
  have q0 := (f1.cell (p := ⟨b, 0, none⟩) hbs (fun h => h)).trans h0
  have hb1' : b < w1.heap.size := Nat.lt_of_lt_of_le hbs f1.size
  have F1 := hide f1
  have C1 := hide hc1
  clear hb1 f1 hc1 h0
  cases hm : mayB ⟨k, nm, a, t⟩ with
  | false =>
    have E1 := hide (HR.out.symm.trans (hS _ hm))
    clear hS hm
    go_wp2_with fail
    go_ret
    rw [E1.out]
    exact ⟨rfl, (H.out.same F1.out).post HF.out.1 (fun i hi k hk => .inl (HF.out.2.1 i hi k hk)) (F1.out.mono fun _ h => h.elim)⟩
  | true =>
    by_cases hr : s.room ≤ s.tot
    · have e1 : putS s ⟨k, nm, a, t⟩ = (240, s) := by rw [hS _ hm]; simp [addS, hr]
      have E1 := hide (HR.out.symm.trans e1)
      clear e1 hS hm
      go_wp2_with fail
      go_quiet ((go_at_call 36; exact (HL.out _ F1.out).out _))
      go_wp2_with fail
      go_ret
      rw [E1.out]
      exact ⟨rfl, (H.out.same (Fr.drewN F1.out _)).post HF.out.1 (fun i hi k hk => .inl (HF.out.2.1 i hi k hk)) (Fr.drewN (F1.out.mono fun _ h => h.elim) _)⟩
    · by_cases hk1 : k = 1
      · have kb : (k == 1) = true := by simpa using hk1
        have e1 : putS s ⟨k, nm, a, t⟩ = (0, s.push 0 ⟨k, nm, a, t⟩) := by rw [hS _ hm]; simp [addS, hr, hk1]
        have E1 := hide (HR.out.symm.trans e1)
        have hr' : (s.tot : Int) < s.room := by omega
        clear e1 hS hm hr hk1
        go_wp2_with fail
        go_quiet ((go_at_call 36; exact (HL.out _ F1.out).out _))
        go_wp2_with fail
        have HfW : Hid (Fr (fun _ => False) w (w1.drewN nq)) := hide (Fr.drewN F1.out _)
        have hcW : (w1.drewN nq).heap[w.heap.size]? = some (.cells #[.int .u8 k, .string nm, .int .i64 a, .int .i64 t] 63 (0, 0)) := C1.out
        clear y0 y1 y2 y3 q0 hb1' F1 C1 HL
        generalize w1.drewN nq = W at *
        obtain ⟨y0, y1, y2, y3⟩ := ev_cells hcW
        have hPW := hide (H.out.same HfW.out)
        clear hcW
        have nb : ¬ os 0 = some b := (hPW.out.own 0 (by omega)).ne_blk hPW.out.blk (by decide)
        have ll := s.le_tot (i := 0) (by omega)
        have lW : b < W.heap.size := hPW.out.lt
        have k1 := hPW.out.cell (i := 0) (by omega)
        simp only [Nat.reduceAdd] at k1
        go_region_law (refine step_append_Own (by rfl) (by rfl) el_rev (by rfl) (by rfl) ((hPW.out.own 0 (by omega)).fr (Fr.alloc (Fr.drew (Fr.refl (fun _ => False) _)) _) (fun _ _ h => h)) (rd_one _ _ _ _ _ _) (by (try simp); omega) ?_; intro A' cap' w1 o' hown hfr hnew; have hfr1 := (Fr.alloc (Fr.drew (Fr.refl (fun k => os 0 = some k) W)) _).trans hfr; have x1 := (hfr1.cell (p := ⟨b, 1, none⟩) lW nb).trans k1; have fz := (hfr1.frozen (p := ⟨b, 1, none⟩) lW nb).trans (hPW.out.frozen _))
        all_goals
          go_wp2
          go_ret
          rw [E1.out]
          refine ⟨rfl, rows_push (by decide) (i := 0) (by omega) hPW.out HF.out.1 HF.out.2.1 HfW.out hown hfr1 (fun k hk => (hnew k hk).imp id (fun h => by have := h.1; simp at this; omega))⟩

      · have kb : (k == 1) = false := by simpa using hk1
        have e1 : putS s ⟨k, nm, a, t⟩ = (0, s.push 1 ⟨k, nm, a, t⟩) := by rw [hS _ hm]; simp [addS, hr, hk1]
        have E1 := hide (HR.out.symm.trans e1)
        have hr' : (s.tot : Int) < s.room := by omega
        clear e1 hS hm hr hk1
        go_wp2_with fail
        go_quiet ((go_at_call 36; exact (HL.out _ F1.out).out _))
        go_wp2_with fail
        have HfW : Hid (Fr (fun _ => False) w (w1.drewN nq)) := hide (Fr.drewN F1.out _)
        have hcW : (w1.drewN nq).heap[w.heap.size]? = some (.cells #[.int .u8 k, .string nm, .int .i64 a, .int .i64 t] 63 (0, 0)) := C1.out
        clear y0 y1 y2 y3 q0 hb1' F1 C1 HL
        generalize w1.drewN nq = W at *
        obtain ⟨y0, y1, y2, y3⟩ := ev_cells hcW
        have hPW := hide (H.out.same HfW.out)
        clear hcW
        have nb : ¬ os 1 = some b := (hPW.out.own 1 (by omega)).ne_blk hPW.out.blk (by decide)
        have ll := s.le_tot (i := 1) (by omega)
        have lW : b < W.heap.size := hPW.out.lt
        have k1 := hPW.out.cell (i := 1) (by omega)
        simp only [Nat.reduceAdd] at k1
        go_region_law (refine step_append_Own (by rfl) (by rfl) el_rev (by rfl) (by rfl) ((hPW.out.own 1 (by omega)).fr (Fr.alloc (Fr.drew (Fr.refl (fun _ => False) _)) _) (fun _ _ h => h)) (rd_one _ _ _ _ _ _) (by (try simp); omega) ?_; intro A' cap' w1 o' hown hfr hnew; have hfr1 := (Fr.alloc (Fr.drew (Fr.refl (fun k => os 1 = some k) W)) _).trans hfr; have x1 := (hfr1.cell (p := ⟨b, 2, none⟩) lW nb).trans k1; have fz := (hfr1.frozen (p := ⟨b, 2, none⟩) lW nb).trans (hPW.out.frozen _))
        all_goals
          go_wp2
          go_ret
          rw [E1.out]
          refine ⟨rfl, rows_push (by decide) (i := 1) (by omega) hPW.out HF.out.1 HF.out.2.1 HfW.out hown hfr1 (fun k hk => (hnew k hk).imp id (fun h => by have := h.1; simp at this; omega))⟩


set_option maxHeartbeats 1000000 in
theorem rdefer_any (b : Nat) (s : PSt) (F : Nat → Prop) (k : Int) (nm : ByteArray) (a t : Int) (w : World) (h : PoolAt 61 63 w b s F) (ht : s.tot ≤ 1000000) :
    Calls Try.prog 28 #[.pointer (some ⟨b, 0, none⟩), .agg #[.int .u8 k, .string nm, .int .i64 a, .int .i64 t]] w fun e w' => e = .returned (.int .i64 (deferS s ⟨k, nm, a, t⟩).1) ∧
      PoolPost 61 63 b (deferS s ⟨k, nm, a, t⟩).2 F w w' := by
  obtain ⟨vs, os, h, hF⟩ := h
  have H := hide h
  have HF := hide hF
  have h0 := h.cell0
  have hbs := h.lt
  have HLEN : ∀ W : World, Fr (fun _ => False) w W → Hid (∀ n, Calls Try.prog 36 #[.pointer (some ⟨b, 0, none⟩)] (W.drewN n) fun e w'' => e = .returned (.int .i64 s.tot) ∧ ∃ m, w'' = W.drewN m) := fun W hW n => rlen_fr b s (fun k => k < W.heap.size) W ⟨vs, os, h.same hW, (h.same hW).lt, fun j hj k hk => ((h.same hW).own j hj).lt k hk, fun _ h => h⟩ ht n
  have HL := hide HLEN
  clear h hF HLEN
  have hS : ∀ m, mayB ⟨k, nm, a, t⟩ = m → deferS s ⟨k, nm, a, t⟩ = addS s 2 ⟨k, nm, a, t⟩ (decide (k = 2) && m) := fun m hm => by rw [← hm]; rfl
  obtain ⟨r, hr0⟩ : ∃ r, deferS s ⟨k, nm, a, t⟩ = r := ⟨_, rfl⟩
  rw [hr0]
  have HR := hide hr0
  clear hr0
  go_enter Try.func28, Try.ntmps28
  go_wp2_with fail
  refine (rmay_any k nm a t _).mono ?_
  rintro e w1 ⟨rfl, hb1⟩
  have hc1 := (hb1.block w.heap.size (by simp)).trans (heap_alloc_new w (.cells #[.int .u8 k, .string nm, .int .i64 a, .int .i64 t] 63))
  have f1 : Fr (fun _ => False) w w1 := (Fr.alloc (Fr.refl _ _) _).trans (Fr.of_below' hb1)
  obtain ⟨y0, y1, y2, y3⟩ := ev_cells hc1
  have q0 := (f1.cell (p := ⟨b, 0, none⟩) hbs (fun h => h)).trans h0
  have hb1' : b < w1.heap.size := Nat.lt_of_lt_of_le hbs f1.size
  have F1 := hide f1
  have C1 := hide hc1
  clear hb1 f1 hc1 h0
  cases hm : mayB ⟨k, nm, a, t⟩ with
  | false =>
    have E1 := hide (HR.out.symm.trans (hS _ hm))
    rw [Bool.and_false] at E1
    clear hS hm
    go_wp2_with fail
    go_ret
    rw [E1.out]
    exact ⟨rfl, (H.out.same F1.out).post HF.out.1 (fun i hi k hk => .inl (HF.out.2.1 i hi k hk)) (F1.out.mono fun _ h => h.elim)⟩
  | true =>
    by_cases hk : ¬ k = 2
    · have kb : (k != 2) = true := by simpa using hk
      have E1 := hide (HR.out.symm.trans (hS _ hm))
      rw [show (decide (k = 2) && true) = false from by simp [hk]] at E1
      clear hS hm hk
      go_wp2_with fail
      go_ret
      rw [E1.out]
      exact ⟨rfl, (H.out.same F1.out).post HF.out.1 (fun i hi k hk => .inl (HF.out.2.1 i hi k hk)) (F1.out.mono fun _ h => h.elim)⟩
    have hk : k = 2 := by omega
    have kb : (k != 2) = false := by simpa using hk
    by_cases hr : s.room ≤ s.tot
    · have e1 : deferS s ⟨k, nm, a, t⟩ = (240, s) := by rw [hS _ hm]; simp [addS, hr, hk]
      have E1 := hide (HR.out.symm.trans e1)
      clear e1 hS hm hk
      go_wp2_with fail
      go_quiet ((go_at_call 36; exact (HL.out _ F1.out).out _))
      go_wp2_with fail
      go_ret
      rw [E1.out]
      exact ⟨rfl, (H.out.same (Fr.drewN F1.out _)).post HF.out.1 (fun i hi k hk => .inl (HF.out.2.1 i hi k hk)) (Fr.drewN (F1.out.mono fun _ h => h.elim) _)⟩
    · skip
      have e1 : deferS s ⟨k, nm, a, t⟩ = (0, s.push 2 ⟨k, nm, a, t⟩) := by rw [hS _ hm]; simp [addS, hr, hk]
      have E1 := hide (HR.out.symm.trans e1)
      have hr' : (s.tot : Int) < s.room := by omega
      clear e1 hS hm hr hk
      go_wp2_with fail
      go_quiet ((go_at_call 36; exact (HL.out _ F1.out).out _))
      go_wp2_with fail
      have HfW : Hid (Fr (fun _ => False) w (w1.drewN nq)) := hide (Fr.drewN F1.out _)
      have hcW : (w1.drewN nq).heap[w.heap.size]? = some (.cells #[.int .u8 k, .string nm, .int .i64 a, .int .i64 t] 63 (0, 0)) := C1.out
      clear y0 y1 y2 y3 q0 hb1' F1 C1 HL
      generalize w1.drewN nq = W at *
      obtain ⟨y0, y1, y2, y3⟩ := ev_cells hcW
      have hPW := hide (H.out.same HfW.out)
      clear hcW
      have nb : ¬ os 2 = some b := (hPW.out.own 2 (by omega)).ne_blk hPW.out.blk (by decide)
      have ll := s.le_tot (i := 2) (by omega)
      have lW : b < W.heap.size := hPW.out.lt
      have k1 := hPW.out.cell (i := 2) (by omega)
      simp only [Nat.reduceAdd] at k1
      go_region_law (refine step_append_Own (by rfl) (by rfl) el_rev (by rfl) (by rfl) ((hPW.out.own 2 (by omega)).fr (Fr.alloc (Fr.drew (Fr.refl (fun _ => False) _)) _) (fun _ _ h => h)) (rd_one _ _ _ _ _ _) (by (try simp); omega) ?_; intro A' cap' w1 o' hown hfr hnew; have hfr1 := (Fr.alloc (Fr.drew (Fr.refl (fun k => os 2 = some k) W)) _).trans hfr; have x1 := (hfr1.cell (p := ⟨b, 3, none⟩) lW nb).trans k1; have fz := (hfr1.frozen (p := ⟨b, 3, none⟩) lW nb).trans (hPW.out.frozen _))
      all_goals
        go_wp2
        go_ret
        rw [E1.out]
        refine ⟨rfl, rows_push (by decide) (i := 2) (by omega) hPW.out HF.out.1 HF.out.2.1 HfW.out hown hfr1 (fun k hk => (hnew k hk).imp id (fun h => by have := h.1; simp at this; omega))⟩

end Go.Proofs.Ythfihlojpmhagaa
