/- token: the cutter's at, skip, eat, word; Blank. -/
import Derived.Test.YtalbehjjgdedcaaGreatDoorNamB
import Derived.Test.YtalbehjjgdedcaaGreatDoorEntE
import Derived.Test.YtalbehjjgdedcaaGreatDoorTokR
import Derived.Shelf.Strings.SlTrimAscii
namespace Go.Proofs.YtalbehjjgdedcaaGreatDoor
open Go.RowKit Go.Lib
attribute [local go_sem ↓] Go.wp_at_zero Go.wp_at_succ

theorem blanks_eq : (fun b => [32, 9, 10, 13].contains b) = blankB := by
  funext b
  rw [Bool.eq_iff_iff]
  simp [blankB, or_assoc]
theorem trimLeft_any (s : ByteArray) (w : World) : Calls Tryz.prog 138 #[.string s, .string ⟨#[32, 9, 10, 13]⟩] w fun e w' => e = .returned (.string ⟨(s.data.toList.drop (nB s.data.toList)).toArray⟩) ∧ Fr (fun _ => False) w w' := by
  have h := Any.strings_TrimLeft_laid Tryz.lays161 (by kernel_rfl) s ⟨#[32, 9, 10, 13]⟩ w (by decide) (ascii_of_all (by decide))
  refine h.mono ?_
  rintro e w' ⟨rfl, hb⟩
  refine ⟨?_, Fr.of_below hb (fun k h1 h2 => absurd h1 (by omega))⟩
  rw [drop_nB]
  unfold Lib.trimLeftS
  rw [blanks_eq]

/-- the cutter: its block, how long the whole is, what is left -/
structure CutAt (w : World) (b n : Nat) (r : ByteArray) : Prop where
  blk : w.heap[b]? = some (.cells #[.int .i64 n, .string r] 86 (0, 0))
  le : r.size ≤ n
  n_le : n ≤ 1000000
namespace CutAt
variable {w w' : World} {b n : Nat} {r r' : ByteArray}
theorem c0 (h : CutAt w b n r) : w.cell? ⟨b, 0, none⟩ = some (.int .i64 n) := by rw [cell_of_row w b 0 _ _ _ h.blk]; rfl
theorem c1 (h : CutAt w b n r) : w.cell? ⟨b, 1, none⟩ = some (.string r) := by rw [cell_of_row w b 1 _ _ _ h.blk]; rfl
theorem fz (h : CutAt w b n r) : w.frozen? ⟨b, 1, none⟩ = false := frozen_of_row w b _ _ _ h.blk
theorem lt (h : CutAt w b n r) : b < w.heap.size := (Array.getElem?_eq_some_iff.1 h.blk).1
theorem fr {fp : Nat → Prop} (h : CutAt w b n r) (hf : Fr fp w w') (hb : ¬ fp b) : CutAt w' b n r := ⟨(hf.block b h.lt hb).trans h.blk, h.le, h.n_le⟩
theorem same (h : CutAt w b n r) (hf : Fr (fun _ => False) w w') : CutAt w' b n r := h.fr hf (fun h => h)
theorem set (h : CutAt w b n r) (hr : r'.size ≤ n) : CutAt (w.setCell ⟨b, 1, none⟩ (.string r')) b n r' :=
  ⟨by rw [heap_setCell_same w b 1 _ _ _ h.blk]; rfl, hr, h.n_le⟩
end CutAt
theorem Fr.into_set {w w' : World} {b i : Nat} {v : Value} (h : Fr (fun _ => False) w w') : Fr (fun k => k = b) w (w'.setCell ⟨b, i, none⟩ v) := Fr.setCell (fp := fun k => k = b) (p := ⟨b, i, none⟩) (h.mono (fun _ h => h.elim)) (.inl rfl) v
theorem Fr.more_set {w w' : World} {b i : Nat} {v : Value} (h : Fr (fun k => k = b) w w') : Fr (fun k => k = b) w (w'.setCell ⟨b, i, none⟩ v) := Fr.setCell (fp := fun k => k = b) (p := ⟨b, i, none⟩) h (.inl rfl) v
theorem Fr.into {w w' : World} {b : Nat} (h : Fr (fun _ => False) w w') : Fr (fun k => k = b) w w' := h.mono (fun _ h => h.elim)
/-- a text of a list of bytes -/
theorem mk_size (l : List UInt8) : (⟨l.toArray⟩ : ByteArray).size = l.length := List.size_toArray ..
theorem mk_self (s : ByteArray) : (⟨s.data.toList.toArray⟩ : ByteArray) = s := by cases s; rfl

set_option maxHeartbeats 1000000 in
theorem at_any (b n : Nat) (r : ByteArray) (w : World) (h : CutAt w b n r) : Calls Tryz.prog 73 #[.pointer (some ⟨b, 0, none⟩)] w fun e w' => e = .returned (.int .i64 ((n - r.size : Nat) : Int)) ∧ Fr (fun _ => False) w w' := by
  have z0 := h.c0
  have z1 := h.c1
  have hle := h.le
  have hn := h.n_le
  have hw : IntKind.i64.wrap ((n : Int) - (r.size : Int)) = ((n - r.size : Nat) : Int) := by rw [IntWalk.i64_in _ (by omega)]; omega
  clear h
  go_enter Tryz.func73, Tryz.ntmps73
  go_wp2
  go_quiet (fail)
  go_wp2
  go_ret
  exact ⟨rfl, (Fr.refl _ _).drewN _⟩

set_option maxHeartbeats 1000000 in
theorem skip_any (b n : Nat) (r : ByteArray) (w : World) (h : CutAt w b n r) : Calls Tryz.prog 110 #[.pointer (some ⟨b, 0, none⟩)] w fun e w' => e = .returned (.bool (decide (0 < nB r.data.toList))) ∧ CutAt w' b n ⟨(r.data.toList.drop (nB r.data.toList)).toArray⟩ ∧ Fr (fun k => k = b) w w' := by
  have z1 := h.c1
  have hl : r.data.toList.length = r.size := rfl
  have hnb := nB_le r.data.toList
  have HT := hide (fun W => trimLeft_any r W)
  have H := hide h
  obtain ⟨r2, hr2⟩ : ∃ r2 : ByteArray, (⟨(r.data.toList.drop (nB r.data.toList)).toArray⟩ : ByteArray) = r2 := ⟨_, rfl⟩
  have hz : r2.size = r.size - nB r.data.toList := by rw [← hr2, mk_size, List.length_drop, hl]
  have hle := h.le
  have hn := h.n_le
  have hd : decide (r2.size < r.size) = decide (0 < nB r.data.toList) := by
    rw [hl] at hnb
    by_cases h0 : 0 < nB r.data.toList
    · rw [decide_eq_true h0, decide_eq_true (by omega)]
    · rw [decide_eq_false h0, decide_eq_false (by omega)]
  rw [hr2] at HT ⊢
  have HD := hide hd
  have HR := hide (show r2.size ≤ n by omega)
  clear hd hz hr2 hl hnb h
  go_enter Tryz.func110, Tryz.ntmps110
  go_wp2_with (go_at_call 138; refine (HT.out _).mono ?_; rintro e w1 ⟨rfl, f1⟩; have c1 := H.out.same f1; have y1 := c1.fz; have y0 := c1.c1; have y2 := (c1.set (r' := r2) HR.out).c1)
  go_ret
  exact ⟨by rw [← HD.out]; rfl, c1.set HR.out, f1.into_set⟩

set_option maxHeartbeats 1000000 in
theorem eat_any (b n : Nat) (r t : ByteArray) (w : World) (h : CutAt w b n r) : Calls Tryz.prog 108 #[.pointer (some ⟨b, 0, none⟩), .string t] w fun e w' => e = .returned (.bool (hasPrefix r.data.toList t.data.toList)) ∧ CutAt w' b n ⟨(trimPrefix r.data.toList t.data.toList).toArray⟩ ∧ Fr (fun k => k = b) w w' := by
  have z1 := h.c1
  have y1 := h.fz
  have hl : r.data.toList.length = r.size := rfl
  have HT := hide (fun W => Tryz.strings_CutPrefix r t W)
  obtain ⟨r2, hr2⟩ : ∃ r2 : ByteArray, (⟨(trimPrefix r.data.toList t.data.toList).toArray⟩ : ByteArray) = r2 := ⟨_, rfl⟩
  have hz : r2.size ≤ n := by
    have hle := h.le
    rw [← hr2, mk_size]
    unfold trimPrefix
    split
    · rw [List.length_drop]; omega
    · omega
  rw [hr2] at HT ⊢
  generalize hasPrefix r.data.toList t.data.toList = ok at *
  have HC := hide (h.set hz)
  have HF := hide ((Fr.refl (fun _ => False) w).into_set (b := b) (i := 1) (v := .string r2))
  clear hz hr2 hl h
  go_enter Tryz.func108, Tryz.ntmps108
  go_wp2_with (go_at_call 71; refine (HT.out _).mono ?_; rintro e w1 ⟨rfl, rfl⟩)
  go_ret
  exact ⟨rfl, HC.out, HF.out⟩

set_option maxHeartbeats 1000000 in
theorem word_any (b n : Nat) (r : ByteArray) (w : World) (h : CutAt w b n r) : Calls Tryz.prog 109 #[.pointer (some ⟨b, 0, none⟩)] w fun e w' =>
    e = .returned (.string ⟨(r.data.toList.take (beginN r.data.toList)).toArray⟩) ∧ CutAt w' b n ⟨(r.data.toList.drop (beginN r.data.toList)).toArray⟩ ∧ Fr (fun k => k = b) w w' := by
  have z1 := h.c1
  have y1 := h.fz
  have hl : r.data.toList.length = r.size := rfl
  have hle := h.le
  have hn := h.n_le
  have hb := beginN_le r.data.toList
  have HT := hide (fun W => begin_any r W (by omega))
  have e1 : (⟨(r.data.toList.take (beginN r.data.toList)).toArray⟩ : ByteArray) = r.extract 0 (beginN r.data.toList) := by
    apply ByteArray.ext
    apply Array.toList_inj.1
    rw [extract_data]
    simp
  have e2 : (⟨(r.data.toList.drop (beginN r.data.toList)).toArray⟩ : ByteArray) = r.extract (beginN r.data.toList) r.size := by
    apply ByteArray.ext
    apply Array.toList_inj.1
    rw [extract_data, List.take_of_length_le (by rw [List.length_drop]; omega)]
  rw [e1, e2]
  have hz : (r.extract (beginN r.data.toList) r.size).size ≤ n := by simp; omega
  generalize beginN r.data.toList = k at *
  have hks : k ≤ r.size := by omega
  have HC := hide (h.set hz)
  have HF := hide ((Fr.refl (fun _ => False) w).into_set (b := b) (i := 1) (v := .string (r.extract k r.size)))
  clear hz hl h e1 e2 hb
  go_enter Tryz.func109, Tryz.ntmps109
  go_wp2_with (go_at_call 137; refine (HT.out _).mono ?_; rintro e w1 ⟨rfl, rfl⟩)
  go_ret
  exact ⟨rfl, HC.out, HF.out⟩
end Go.Proofs.YtalbehjjgdedcaaGreatDoor
