/- utf: each. -/
import Derived.Test.YtalbehjjgdedcaaGreatDoorEnt1
import Derived.Lib.OthersKept
import Derived.WalkSmall
import Derived.Lib.Strings
import Derived.Lib.Bytes
namespace Go.Proofs.YtalbehjjgdedcaaGreatDoor
open Go.RowKit Go.Lib
attribute [local go_sem ↓] Go.wp_at_zero Go.wp_at_succ

theorem Fr.iterAt {fp : Nat → Prop} {w w' : World} (h : Fr fp w w') {k : Nat} (hk : w.heap.size ≤ k) (s : ByteArray) (p : Nat) : Fr fp w (w'.iterAt k s p) :=
  ⟨h.os, h.tape, h.output, by rw [iterAt_size]; exact h.size, fun j hj hn => (iterAt_other w' k j s p (by omega)).trans (h.block j hj hn)⟩

/-- characters, one by one: at most so many; the last one, how many, of how many bytes -/
def runL (most : Int) : Nat → List UInt8 → Int → Nat → Nat → Int × Nat × Nat
  | 0, _, c, n, b => (c, n, b)
  | f + 1, l, c, n, b => if (n : Int) = most then (c, n, b) else match nextL l with
    | none => (c, n, b)
    | some (x, k) => runL most f (l.drop k) x (n + 1) (b + k)
theorem nextL_nil : nextL [] = none := by decide
theorem runL_end (most : Int) (f : Nat) (c : Int) (n b : Nat) : runL most f [] c n b = (c, n, b) := by
  cases f with
  | zero => rfl
  | succ f => simp [runL, nextL_nil]

theorem extract_toList (s : ByteArray) (i j : Nat) : (s.extract i j).data.toList = (s.data.toList.drop i).take (j - i) := by
  simp [ByteArray.extract, ByteArray.copySlice]

theorem nextL_decode {s : ByteArray} {p x k : Nat} (h : nextL (s.data.toList.drop p) = some (x, k)) : Utf8.decode s p = (x, k) ∧ (⟨(putL x).toArray⟩ : ByteArray) = s.extract p (p + k) ∧ (s.extract p (p + k)).size = k ∧ p + k ≤ s.size ∧ 1 ≤ k ∧ k ≤ 4 := by
  obtain ⟨h1, h2, h3, h4, h5, h6⟩ := nextL_some h
  rw [List.length_drop] at h4
  have h7 : s.data.toList.length = s.size := rfl
  have hpre : encodeRune (x : Int) <+: s.data.toList.drop p := h3 ▸ List.take_prefix _ _
  obtain ⟨t, ht⟩ := hpre
  have hd := dec_enc h1 t
  rw [ht] at hd
  have he : (⟨(putL x).toArray⟩ : ByteArray) = s.extract p (p + k) := by
    have : putL x = (s.extract p (p + k)).data.toList := by
      rw [extract_toList, show p + k - p = k by omega, ← h3]
      simp [putL, h1]
    rw [this]
  refine ⟨by rw [decode_decL, hd, ← h2]; rfl, he, ?_, by omega, h5, h6⟩
  rw [← he]
  show (putL x).toArray.size = k
  simp [putL, h1, h2]

/-- tests on strings, in the walk's spelling -/
theorem ne_empty {P : ByteArray} (h : 1 ≤ P.size) : P.toList.isEmpty = false := by
  rw [toList_data]
  cases hl : P.data.toList with
  | nil =>
    have : P.data.toList.length = P.size := rfl
    rw [hl] at this
    simp at this
    omega
  | cons a l => rfl
theorem ne_nil {P : ByteArray} (h : 1 ≤ P.size) : ¬ P.toList = [] := fun hc => by
  have := ne_empty h
  rw [hc] at this
  cases this
theorem str_ne {P Q : ByteArray} (h : P ≠ Q) : (P.toList == Q.toList) = false := by
  rw [toList_data, toList_data]
  apply beq_false_of_ne
  intro hc
  apply h
  have : P.data = Q.data := Array.toList_inj.1 hc
  cases P; cases Q; simp_all

set_option maxRecDepth 100000 in
set_option maxHeartbeats 2000000 in
theorem each_any (s : ByteArray) (most : Int) (w : World) (hb : UB w) (hs : s.size ≤ 1000000) : Calls Tryz.prog 70 #[.string s, .int .i64 most] w fun e w' =>
    e = .returned (.tuple #[.int .i32 (runL most s.size s.data.toList 0 0 0).1, .int .i64 (runL most s.size s.data.toList 0 0 0).2.1, .int .i64 (runL most s.size s.data.toList 0 0 0).2.2]) ∧ Fr (fun _ => False) w w' := by
  have HB := hide hb
  clear hb
  obtain ⟨r, hr⟩ : ∃ r, runL most s.size s.data.toList 0 0 0 = r := ⟨_, rfl⟩
  obtain ⟨rc, rn, rb⟩ := r
  rw [hr]
  have HR := hide hr
  clear hr
  go_enter Tryz.func70, Tryz.ntmps70
  go_wp2_with fail
  go_loopw [4, 5, 6] (fun c n b wr => ∃ (x : Int) (m p f : Nat), c = .int .i32 x ∧ n = .int .i64 m ∧ b = .int .i64 p ∧ wr.heap[w.heap.size]? = some (.stringIter s p) ∧ m ≤ p ∧ p ≤ s.size ∧ Hid (Fr (fun _ => False) w wr) ∧ Hid (runL most f (s.data.toList.drop p) x m p = (rc, rn, rb) ∧ s.size ≤ p + f)) (fun _ _ _ wr => s.size - wr.iterPos w.heap.size)
  case atStart => exact ⟨0, 0, 0, s.size, rfl, rfl, rfl, World.iter_heap w s 0, by omega, by omega, Fr.alloc (Fr.refl _ _) _, by simpa using HR.out, by omega⟩
  case round =>
    obtain ⟨x, m, p, f, rfl, rfl, rfl, hit, hmp, hps, hfr, hrun⟩ := hrel
    have hpos0 := iterPos_of hit
    by_cases hp : p < s.size
    · have hnx : ∀ ty, (Instr.next (.pointer (some ⟨w.heap.size, 0, none⟩)) true ty).run Tryz.prog wr = _ := fun ty => run_next_any_at wr w.heap.size s p ty hit hp
      obtain ⟨f, rfl⟩ : ∃ f', f = f' + 1 := ⟨f - 1, by have := hrun.out.2; omega⟩
      by_cases hm : (m : Int) = most
      · obtain rfl := hm
        have hf2 := hide (hfr.out.iterAt (k := w.heap.size) (Nat.le_refl _) s (p + (Utf8.decode s p).2))
        have hres := hrun.out.1
        simp only [runL, if_true, Prod.mk.injEq] at hres
        obtain ⟨rfl, rfl, rfl⟩ := hres
        go_wp2_with fail
        go_returns
        exact ⟨rfl, hf2.out⟩
      · have hmb : ((m : Int) == most) = false := by simpa using hm
        cases hn : nextL (s.data.toList.drop p) with
        | some r =>
          obtain ⟨x', k⟩ := r
          obtain ⟨hd, he, hsz, hpk, hk1, hk4⟩ := nextL_decode hn
          have hit2 := iterAt_heap wr w.heap.size s p (p + (Utf8.decode s p).2) hit
          have hf2 := hide (hfr.out.iterAt (k := w.heap.size) (Nat.le_refl _) s (p + (Utf8.decode s p).2))
          simp only [hd] at hnx hit2 hf2
          have HP := hide (put_any x' _ (HB.out.same hf2.out))
          rw [he] at HP
          have hrec := hrun.out.1
          simp only [runL, if_neg hm, hn, List.drop_drop] at hrec
          have HREC := hide hrec
          have hE := ne_empty (P := s.extract p (p + k)) (by omega)
          have hE2 := ne_nil (P := s.extract p (p + k)) (by omega)
          clear hd he hn hrec hit
          go_wp2_with (go_at_call 105; refine HP.out.mono ?_; rintro e w1 ⟨rfl, f1⟩)
          go_roundw
          case rel => exact ⟨x', m + 1, p + k, f, rfl, by go_num, by go_num, (f1.block w.heap.size (lt_of_block hit2) (fun h => h)).trans hit2, by omega, by omega, hf2.out.trans f1, HREC.out, by have := hrun.out.2; omega⟩
          case measure =>
            rw [hpos0, iterPos_of ((f1.block w.heap.size (lt_of_block hit2) (fun h => h)).trans hit2)]
            omega
        | none =>
          have hf2 := hide (hfr.out.iterAt (k := w.heap.size) (Nat.le_refl _) s (p + (Utf8.decode s p).2))
          have hres := hrun.out.1
          simp only [runL, if_neg hm, hn, Prod.mk.injEq] at hres
          obtain ⟨rfl, rfl, rfl⟩ := hres
          have hd := decode_decL s p
          obtain ⟨x', wd, hxw⟩ : ∃ a b, Utf8.decode s p = (a, b) := ⟨_, _, rfl⟩
          rw [hxw] at hd
          simp only [hxw] at hnx hf2
          unfold nextL at hn
          rw [← hd] at hn
          simp only [ite_eq_right_iff, reduceCtorEq, imp_false, not_and] at hn
          have HP := hide (put_any x' _ (HB.out.same hf2.out))
          clear hd hxw hit
          cases hc : isC (x' : Int) with
          | false =>
            have he : putL (x' : Int) = [] := by simp [putL, hc]
            rw [he] at HP
            clear he hc hn
            go_wp2_with (go_at_call 105; refine HP.out.mono ?_; rintro e w1 ⟨rfl, f1⟩)
            go_returns
            exact ⟨rfl, hf2.out.trans f1⟩
          | true =>
            have hnp := hn hc
            have hl := encodeRuneZ_length (x' : Int)
            have he : putL (x' : Int) = encodeRune x' := by simp [putL, hc]
            obtain ⟨P, hPd⟩ : ∃ P : ByteArray, (⟨(putL (x' : Int)).toArray⟩ : ByteArray) = P := ⟨_, rfl⟩
            have hsz : P.size = (encodeRuneZ (x' : Int)).length := by
              rw [← hPd, he]
              show (encodeRune (x' : Int)).toArray.size = _
              simp [encodeRune]
            have hne : ∀ b, s.extract p b ≠ P := fun b hc2 => by
              apply hnp
              rw [← he]
              have : putL (x' : Int) = (s.extract p b).data.toList := by rw [hc2, ← hPd]
              rw [this, extract_toList]
              exact List.take_prefix _ _
            rw [hPd] at HP
            obtain ⟨kk, hkk⟩ : ∃ kk, (encodeRuneZ (x' : Int)).length = kk := ⟨_, rfl⟩
            rw [hkk] at hl hsz
            clear hn hc hnp he hPd hkk
            obtain ⟨hl1, hl4⟩ := hl
            have hE := ne_empty (P := P) (by omega)
            have hE2 := ne_nil (P := P) (by omega)
            by_cases hfit : p + kk ≤ s.size
            · have hne2 := str_ne (hne (p + kk))
              clear hne
              go_wp2_with (go_at_call 105; refine HP.out.mono ?_; rintro e w1 ⟨rfl, f1⟩)
              go_returns
              exact ⟨rfl, hf2.out.trans f1⟩
            · clear hne
              go_wp2_with (go_at_call 105; refine HP.out.mono ?_; rintro e w1 ⟨rfl, f1⟩)
              go_returns
              exact ⟨rfl, hf2.out.trans f1⟩
    · obtain rfl : p = s.size := by omega
      have hnx : ∀ ty, (Instr.next (.pointer (some ⟨w.heap.size, 0, none⟩)) true ty).run Tryz.prog wr = _ := fun ty => run_next_end_at wr w.heap.size s s.size ty hit hp
      have hres := hrun.out.1
      rw [List.drop_of_length_le (show s.data.toList.length ≤ s.size from Nat.le_refl _), runL_end] at hres
      simp only [Prod.mk.injEq] at hres
      obtain ⟨rfl, rfl, rfl⟩ := hres
      go_wp2_with fail
      go_returns
      exact ⟨rfl, hfr.out⟩
end Go.Proofs.YtalbehjjgdedcaaGreatDoor
