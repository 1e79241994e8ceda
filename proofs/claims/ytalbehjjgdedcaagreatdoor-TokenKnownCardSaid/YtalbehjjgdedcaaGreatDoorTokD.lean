/- token: the cutter's remark. -/
import Derived.Test.YtalbehjjgdedcaaGreatDoorTokB
namespace Go.Proofs.YtalbehjjgdedcaaGreatDoor
open Go.RowKit Go.Lib
attribute [local go_sem ↓] Go.wp_at_zero Go.wp_at_succ

/-- the box of a round: the pair of texts that a remark begins and ends with -/
theorem pair_box {w : World} {b n : Nat} {r : ByteArray} (h : CutAt w b n r) (x y : Value) : ∃ W, w.alloc (.cells #[x, y] 136) = W ∧ CutAt W b n r ∧ W.cell? ⟨w.heap.size, 0, none⟩ = some x ∧ W.cell? ⟨w.heap.size, 1, none⟩ = some y ∧ Fr (fun k => k = b) w W := by
  have hb := heap_alloc_new w (.cells #[x, y] 136)
  refine ⟨_, rfl, h.same (Fr.alloc (Fr.refl _ _) _), ?_, ?_, Fr.alloc (Fr.refl _ _) _⟩
  · rw [cell_of_row _ _ 0 _ _ _ hb]; rfl
  · rw [cell_of_row _ _ 1 _ _ _ hb]; rfl
theorem CutAt.drewN {w : World} {b n : Nat} {r : ByteArray} (h : CutAt w b n r) (m : Nat) : CutAt (w.drewN m) b n r := ⟨h.blk, h.le, h.n_le⟩
theorem cut_find {l t : List UInt8} (ht : t ≠ []) : cut l t = match findP t l with | some i => (l.take i, l.drop (i + t.length), true) | none => (l, [], false) := by
  unfold cut
  rw [findP_index ht]
  cases findP t l with
  | none => rw [if_neg (by simp)]
  | some i => rw [if_pos (by simp)]; simp

def B1 : ByteArray := ⟨#[60, 33, 45, 45]⟩
def E1 : ByteArray := ⟨#[45, 45, 62]⟩
def B2 : ByteArray := ⟨#[60, 63]⟩
def E2 : ByteArray := ⟨#[63, 62]⟩

set_option maxRecDepth 100000 in
set_option maxHeartbeats 4000000 in
theorem remark_any (b n : Nat) (r : ByteArray) (w : World) (h : CutAt w b n r) (hst : St w) (hfree : Free b) :
    Calls Tryz.prog 39 #[.pointer (some ⟨b, 0, none⟩)] w fun e w' => e = .returned (.bool (decide (0 < remarkP r.data.toList))) ∧ CutAt w' b n ⟨(r.data.toList.drop (remarkP r.data.toList)).toArray⟩ ∧ Fr (fun k => k = b) w w' := by
  have hl : r.data.toList.length = r.size := rfl
  obtain ⟨ml, hml⟩ := hst.ml
  have HM := hide (fun W (f : Fr (fun k => k = b) w W) => show W.cell? ⟨1, 0, none⟩ = some (.int .i64 ml) by
    rw [f.cell (World.block_lt_of_cell? w _ hml) (fun e => hfree.2.1 e.symm)]; exact hml)
  have z1 := h.c1
  have H := hide h
  have hn := h.n_le
  have hle := h.le
  have HL := hide h.lt
  have c1 := fun W => (Tryz.strings_CutPrefix r ⟨#[60, 33, 45, 45]⟩ W)
  have c2 := fun W => (Tryz.strings_CutPrefix r ⟨#[60, 63]⟩ W)
  have i0 : ∀ W : World, (Instr.index 137 (.agg #[.string ⟨#[60, 33, 45, 45]⟩, .string ⟨#[45, 45, 62]⟩, .string ⟨#[60, 63]⟩, .string ⟨#[63, 62]⟩]) (.int .i64 0)).run Tryz.prog W = .ok (.agg #[.string ⟨#[60, 33, 45, 45]⟩, .string ⟨#[45, 45, 62]⟩]) W := fun W => by kernel_rfl
  have i1 : ∀ W : World, (Instr.index 137 (.agg #[.string ⟨#[60, 33, 45, 45]⟩, .string ⟨#[45, 45, 62]⟩, .string ⟨#[60, 63]⟩, .string ⟨#[63, 62]⟩]) (.int .i64 1)).run Tryz.prog W = .ok (.agg #[.string ⟨#[60, 63]⟩, .string ⟨#[63, 62]⟩]) W := fun W => by kernel_rfl
  clear h hml
  rw [show (⟨#[60, 33, 45, 45]⟩ : ByteArray).data.toList = [60, 33, 45, 45] from rfl] at c1
  rw [show (⟨#[60, 63]⟩ : ByteArray).data.toList = [60, 63] from rfl] at c2
  cases h1 : hasPrefix r.data.toList [60, 33, 45, 45] with
  | true =>
    have t1 : trimPrefix r.data.toList [60, 33, 45, 45] = r.data.toList.drop 4 := by unfold trimPrefix; rw [if_pos h1]; rfl
    rw [h1, t1] at c1
    obtain ⟨t, ht⟩ : ∃ t : ByteArray, (⟨(r.data.toList.drop 4).toArray⟩ : ByteArray) = t := ⟨_, rfl⟩
    have htl : t.data.toList = r.data.toList.drop 4 := by rw [← ht]
    have htz : t.size ≤ 1000000 := by rw [← ht, mk_size, List.length_drop]; omega
    rw [ht] at c1
    have HC1 := hide c1
    have c3 := fun W hW => Tryz.strings_Cut t ⟨#[45, 45, 62]⟩ ml W (by omega) hW
    rw [show (⟨#[45, 45, 62]⟩ : ByteArray).data.toList = [45, 45, 62] from rfl, htl, cut_find (by simp)] at c3
    have hrm : remarkP r.data.toList = match findP [45, 45, 62] (r.data.toList.drop 4) with | some i => 4 + i + 3 | none => 0 := by
      unfold remarkP; unfold hasPrefix at h1; rw [if_pos h1]; cases findP [45, 45, 62] (r.data.toList.drop 4) <;> rfl
    cases hf : findP [45, 45, 62] (r.data.toList.drop 4) with
    | none =>
      rw [hf] at hrm c3
      simp only at hrm c3
      have HT := hide c3
      rw [hrm, List.drop_zero, mk_self]
      clear c1 c2 c3 t1 h1 ht htl hrm hf hl
      go_enter Tryz.func39, Tryz.ntmps39
      go_wp2
      refine wp_loop_rounds 3 ?_
      rw [rounds_succ]
      go_wp2
      obtain ⟨W1, hW1, p1, m0, m1, g1⟩ := pair_box H.out (.string ⟨#[60, 33, 45, 45]⟩) (.string ⟨#[45, 45, 62]⟩)
      rw [hW1]
      have k1 := p1.c1
      go_quiet ((go_at_call 71; exact quiet_left ((HC1.out _).mono fun _ _ ⟨x, y⟩ => ⟨x, y.symm⟩)))
      go_wp2_with (go_at_call 72; refine (HT.out _ (HM.out _ (g1.drewN _))).mono ?_; rintro e w3 ⟨rfl, n3, rfl⟩)
      go_ret
      exact ⟨rfl, p1.drewN _, g1.drewN _⟩
    | some i =>
      rw [hf] at hrm c3
      simp only [List.length_cons, List.length_nil, Nat.reduceAdd] at hrm c3
      obtain ⟨q, hq⟩ : ∃ q : ByteArray, (⟨((r.data.toList.drop 4).drop (i + 3)).toArray⟩ : ByteArray) = q := ⟨_, rfl⟩
      have hq2 : (⟨(r.data.toList.drop (remarkP r.data.toList)).toArray⟩ : ByteArray) = q := by
        rw [hrm, ← hq, List.drop_drop, show 4 + i + 3 = 4 + (i + 3) by omega]
      have hqz : q.size ≤ n := by rw [← hq2, mk_size, List.length_drop]; omega
      have hd : decide (0 < remarkP r.data.toList) = true := decide_eq_true (by omega)
      rw [hq] at c3
      have HT := hide c3
      have HZ := hide hqz
      rw [hq2, hd]
      clear c1 c2 c3 t1 h1 ht htl hrm hf hl hq hq2 hqz hd
      go_enter Tryz.func39, Tryz.ntmps39
      go_wp2
      refine wp_loop_rounds 3 ?_
      rw [rounds_succ]
      go_wp2
      obtain ⟨W1, hW1, p1, m0, m1, g1⟩ := pair_box H.out (.string ⟨#[60, 33, 45, 45]⟩) (.string ⟨#[45, 45, 62]⟩)
      rw [hW1]
      have k1 := p1.c1
      go_quiet ((go_at_call 71; exact quiet_left ((HC1.out _).mono fun _ _ ⟨x, y⟩ => ⟨x, y.symm⟩)))
      have y1 := p1.fz
      go_wp2_with (go_at_call 72; refine (HT.out _ (HM.out _ (g1.drewN _))).mono ?_; rintro e w3 ⟨rfl, n3, rfl⟩)
      go_ret
      exact ⟨rfl, (p1.drewN _).set HZ.out, (g1.drewN _).more_set⟩
  | false =>
    have t1 : trimPrefix r.data.toList [60, 33, 45, 45] = r.data.toList := by unfold trimPrefix; rw [if_neg (by rw [h1]; decide)]
    rw [h1, t1, mk_self] at c1
    cases h2 : hasPrefix r.data.toList [60, 63] with
    | true =>
      have t2 : trimPrefix r.data.toList [60, 63] = r.data.toList.drop 2 := by unfold trimPrefix; rw [if_pos h2]; rfl
      rw [h2, t2] at c2
      obtain ⟨t, ht⟩ : ∃ t : ByteArray, (⟨(r.data.toList.drop 2).toArray⟩ : ByteArray) = t := ⟨_, rfl⟩
      have htl : t.data.toList = r.data.toList.drop 2 := by rw [← ht]
      have htz : t.size ≤ 1000000 := by rw [← ht, mk_size, List.length_drop]; omega
      rw [ht] at c2
      have HC1 := hide c1
      have HC2 := hide c2
      have c3 := fun W hW => Tryz.strings_Cut t ⟨#[63, 62]⟩ ml W (by omega) hW
      rw [show (⟨#[63, 62]⟩ : ByteArray).data.toList = [63, 62] from rfl, htl, cut_find (by simp)] at c3
      have hrm : remarkP r.data.toList = match findP [63, 62] (r.data.toList.drop 2) with | some i => 2 + i + 2 | none => 0 := by
        unfold remarkP; unfold hasPrefix at h1 h2; rw [if_neg (by rw [h1]; decide), if_pos h2]; cases findP [63, 62] (r.data.toList.drop 2) <;> rfl
      cases hf : findP [63, 62] (r.data.toList.drop 2) with
      | none =>
        rw [hf] at hrm c3
        simp only at hrm c3
        have HT := hide c3
        rw [hrm, List.drop_zero, mk_self]
        clear c1 c2 c3 t1 t2 h1 h2 ht htl hrm hf hl
        go_enter Tryz.func39, Tryz.ntmps39
        go_wp2
        refine wp_loop_rounds 3 ?_
        rw [rounds_succ]
        go_wp2
        obtain ⟨W1, hW1, p1, m0, m1, g1⟩ := pair_box H.out (.string ⟨#[60, 33, 45, 45]⟩) (.string ⟨#[45, 45, 62]⟩)
        rw [hW1]
        have k1 := p1.c1
        go_quiet ((go_at_call 71; exact quiet_left ((HC1.out _).mono fun _ _ ⟨x, y⟩ => ⟨x, y.symm⟩)))
        have p1' := p1.drewN nq
        have g1' := g1.drewN nq
        generalize W1.drewN nq = V1 at *
        go_wp2
        rw [rounds_succ]
        go_wp2
        obtain ⟨W2, hW2, p2, o0, o1, g2⟩ := pair_box p1' (.string ⟨#[60, 63]⟩) (.string ⟨#[63, 62]⟩)
        rw [hW2]
        have k2 := p2.c1
        go_quiet ((go_at_call 71; exact quiet_left ((HC2.out _).mono fun _ _ ⟨x, y⟩ => ⟨x, y.symm⟩)))
        go_wp2_with (go_at_call 72; refine (HT.out _ (HM.out _ (g1'.trans (g2.drewN _)))).mono ?_; rintro e w3 ⟨rfl, n3, rfl⟩)
        go_ret
        exact ⟨rfl, p2.drewN _, g1'.trans (g2.drewN _)⟩
      | some i =>
        rw [hf] at hrm c3
        simp only [List.length_cons, List.length_nil, Nat.reduceAdd] at hrm c3
        obtain ⟨q, hq⟩ : ∃ q : ByteArray, (⟨((r.data.toList.drop 2).drop (i + 2)).toArray⟩ : ByteArray) = q := ⟨_, rfl⟩
        have hq2 : (⟨(r.data.toList.drop (remarkP r.data.toList)).toArray⟩ : ByteArray) = q := by
          rw [hrm, ← hq, List.drop_drop, show 2 + i + 2 = 2 + (i + 2) by omega]
        have hqz : q.size ≤ n := by rw [← hq2, mk_size, List.length_drop]; omega
        have hd : decide (0 < remarkP r.data.toList) = true := decide_eq_true (by omega)
        rw [hq] at c3
        have HT := hide c3
        have HZ := hide hqz
        rw [hq2, hd]
        clear c1 c2 c3 t1 t2 h1 h2 ht htl hrm hf hl hq hq2 hqz hd
        go_enter Tryz.func39, Tryz.ntmps39
        go_wp2
        refine wp_loop_rounds 3 ?_
        rw [rounds_succ]
        go_wp2
        obtain ⟨W1, hW1, p1, m0, m1, g1⟩ := pair_box H.out (.string ⟨#[60, 33, 45, 45]⟩) (.string ⟨#[45, 45, 62]⟩)
        rw [hW1]
        have k1 := p1.c1
        go_quiet ((go_at_call 71; exact quiet_left ((HC1.out _).mono fun _ _ ⟨x, y⟩ => ⟨x, y.symm⟩)))
        have p1' := p1.drewN nq
        have g1' := g1.drewN nq
        generalize W1.drewN nq = V1 at *
        go_wp2
        rw [rounds_succ]
        go_wp2
        obtain ⟨W2, hW2, p2, o0, o1, g2⟩ := pair_box p1' (.string ⟨#[60, 63]⟩) (.string ⟨#[63, 62]⟩)
        rw [hW2]
        have k2 := p2.c1
        go_quiet ((go_at_call 71; exact quiet_left ((HC2.out _).mono fun _ _ ⟨x, y⟩ => ⟨x, y.symm⟩)))
        have y2 := p2.fz
        go_wp2_with (go_at_call 72; refine (HT.out _ (HM.out _ (g1'.trans (g2.drewN _)))).mono ?_; rintro e w3 ⟨rfl, n3, rfl⟩)
        go_ret
        exact ⟨rfl, (p2.drewN _).set HZ.out, (g1'.trans (g2.drewN _)).more_set⟩
    | false =>
      have t2 : trimPrefix r.data.toList [60, 63] = r.data.toList := by unfold trimPrefix; rw [if_neg (by rw [h2]; decide)]
      rw [h2, t2, mk_self] at c2
      have hr : remarkP r.data.toList = 0 := by
        unfold remarkP
        unfold hasPrefix at h1 h2
        rw [if_neg (by rw [h1]; decide), if_neg (by rw [h2]; decide)]
      rw [hr, List.drop_zero, mk_self]
      have HC1 := hide c1
      have HC2 := hide c2
      clear c1 c2 t1 t2 h1 h2 hr hl
      go_enter Tryz.func39, Tryz.ntmps39
      go_wp2
      refine wp_loop_rounds 3 ?_
      rw [rounds_succ]
      go_wp2
      obtain ⟨W1, hW1, p1, m0, m1, g1⟩ := pair_box H.out (.string ⟨#[60, 33, 45, 45]⟩) (.string ⟨#[45, 45, 62]⟩)
      rw [hW1]
      have k1 := p1.c1
      go_quiet ((go_at_call 71; exact quiet_left ((HC1.out _).mono fun _ _ ⟨x, y⟩ => ⟨x, y.symm⟩)))
      have p1' := p1.drewN nq
      have g1' := g1.drewN nq
      generalize W1.drewN nq = V1 at *
      go_wp2
      rw [rounds_succ]
      go_wp2
      obtain ⟨W2, hW2, p2, o0, o1, g2⟩ := pair_box p1' (.string ⟨#[60, 63]⟩) (.string ⟨#[63, 62]⟩)
      rw [hW2]
      have k2 := p2.c1
      go_quiet ((go_at_call 71; exact quiet_left ((HC2.out _).mono fun _ _ ⟨x, y⟩ => ⟨x, y.symm⟩)))
      go_wp2
      rw [rounds_succ]
      go_wp2
      go_ret
      exact ⟨rfl, p2.drewN _, g1'.trans (g2.drewN _)⟩
end Go.Proofs.YtalbehjjgdedcaaGreatDoor
