/- strings.ContainsAny at + - _, for a text of at most eight bytes. -/
import Derived.Test.YtalbehjjgdedcaaGreatDoorEntA
import Derived.Outline
import Derived.WalkMore
namespace Go.Proofs.YtalbehjjgdedcaaGreatDoor
open Go.RowKit Go.Lib
attribute [local go_sem ↓] Go.wp_at_zero Go.wp_at_succ

def signs : ByteArray := ⟨#[43, 45, 95]⟩
theorem iter_fr (w : World) (s : ByteArray) (p : Nat) : Fr (fun _ => False) w (w.iter s p) := Fr.alloc (Fr.refl _ _) _

set_option maxRecDepth 100000 in
set_option maxHeartbeats 1000000 in
theorem idxRune_bad (w : World) : Calls Tryz.prog 144 #[.string ⟨#[43, 45, 95]⟩, .int .i32 65533] w fun e w' => e = .returned (.int .i64 (-1)) ∧ Fr (fun _ => False) w w' := by
  go_enter Tryz.func144, Tryz.ntmps144
  go_wp2_with fail
  go_loopw [5] (fun i wr => ∃ p : Nat, p ≤ 3 ∧ wr.heap[w.heap.size]? = some (.stringIter ⟨#[43, 45, 95]⟩ p) ∧ Hid (Fr (fun _ => False) w wr)) (fun _ wr => 3 - wr.iterPos w.heap.size)
  case atStart => exact ⟨0, by omega, World.iter_heap w _ 0, Fr.alloc (Fr.refl _ _) _⟩
  case round =>
    obtain ⟨p, hp, hit, hfr⟩ := hrel
    have hpos0 := iterPos_of hit
    by_cases h3 : p < 3
    · have hnx : ∀ ty, (Instr.next (.pointer (some ⟨w.heap.size, 0, none⟩)) true ty).run Tryz.prog wr = _ := fun ty => run_next_any_at wr w.heap.size ⟨#[43, 45, 95]⟩ p ty hit h3
      obtain ⟨c, hd, hc⟩ : ∃ c : Nat, Utf8.decode ⟨#[43, 45, 95]⟩ p = (c, 1) ∧ c < 128 := by
        have : p = 0 ∨ p = 1 ∨ p = 2 := by omega
        rcases this with rfl | rfl | rfl
        · exact ⟨43, by decide, by decide⟩
        · exact ⟨45, by decide, by decide⟩
        · exact ⟨95, by decide, by decide⟩
      have hit2 := iterAt_heap wr w.heap.size ⟨#[43, 45, 95]⟩ p (p + (Utf8.decode ⟨#[43, 45, 95]⟩ p).2) hit
      have hf2 := hide (hfr.out.iterAt (k := w.heap.size) (Nat.le_refl _) ⟨#[43, 45, 95]⟩ (p + (Utf8.decode ⟨#[43, 45, 95]⟩ p).2))
      simp only [hd] at hnx hit2 hf2
      have hcb : ((c : Int) == 65533) = false := by simp; omega
      clear hd hit
      go_wp2_with fail
      go_roundw
      case rel => exact ⟨p + 1, by omega, hit2, hf2.out⟩
      case measure =>
        rw [hpos0, iterPos_of hit2]
        omega
    · obtain rfl : p = 3 := by omega
      have hnx : ∀ ty, (Instr.next (.pointer (some ⟨w.heap.size, 0, none⟩)) true ty).run Tryz.prog wr = _ := fun ty => run_next_end_at wr w.heap.size ⟨#[43, 45, 95]⟩ 3 ty hit h3
      go_wp2_with fail
      go_ret
      exact ⟨rfl, hfr.out⟩

/-- a rune's bytes, where it is none of ASCII -/
theorem enc_last {r : Int} (h0 : 128 ≤ r) (hv : (0 ≤ r ∧ r < 55296) ∨ (57343 < r ∧ r ≤ 1114111)) : ∃ (P : ByteArray) (k : Nat), Utf8.encode r = P ∧ P.size = k ∧ (k = 2 ∨ k = 3 ∨ k = 4) ∧ ∀ h : k - 1 < P.size, 128 ≤ (P[k - 1]'h).toNat := by
  have hn : Utf8.valid r = true := by simp [Utf8.valid]; omega
  unfold Utf8.encode
  simp only [hn, if_true]
  rw [if_neg (by omega)]
  have hu : ∀ x : Nat, 128 ≤ (UInt8.ofNat (128 + x % 64)).toNat := fun x => by
    rw [UInt8.toNat_ofNat']
    omega
  split
  · exact ⟨_, 2, rfl, rfl, .inl rfl, fun _ => hu _⟩
  · split
    · exact ⟨_, 3, rfl, rfl, .inr (.inl rfl), fun _ => hu _⟩
    · exact ⟨_, 4, rfl, rfl, .inr (.inr rfl), fun _ => hu _⟩

theorem indexByte_none {B : UInt8} (hB : 128 ≤ B.toNat) : ∀ (l : List UInt8), (l.all fun x => decide (x.toNat < 128)) = true → Lib.indexByte l B = -1
  | [], _ => rfl
  | x :: l, h => by
    rw [List.all_cons, Bool.and_eq_true, decide_eq_true_eq] at h
    have hx : (x == B) = false := by
      rw [beq_eq_false_iff_ne]
      rintro rfl
      omega
    unfold Lib.indexByte
    rw [hx, indexByte_none hB l h.2]
    rfl
theorem idxByte_none (S : ByteArray) (B : UInt8) (w : World) (hS : (S.data.toList.all fun x => decide (x.toNat < 128)) = true) (hB : 128 ≤ B.toNat) :
    Calls Tryz.prog 76 #[.string S, .int .u8 (B.toNat : Int)] w fun e w' => e = .returned (.int .i64 (-1)) ∧ w = w' := by
  refine (Tryz.strings_IndexByte S (B.toNat : Int) w).mono ?_
  rintro e w' ⟨rfl, rfl⟩
  rw [show ((B.toNat : Int)).toNat.toUInt8 = B by simp, indexByte_none hB _ hS]
  exact ⟨rfl, rfl⟩

set_option maxRecDepth 100000 in
set_option maxHeartbeats 4000000 in
theorem idxRune_high (r : Int) (w : World) (h0 : 128 ≤ r) (h3 : r ≠ 65533) (hv : (0 ≤ r ∧ r < 55296) ∨ (57343 < r ∧ r ≤ 1114111)) : Calls Tryz.prog 144 #[.string ⟨#[43, 45, 95]⟩, .int .i32 r] w fun e w' => e = .returned (.int .i64 (-1)) ∧ Fr (fun _ => False) w w' := by
  obtain ⟨P, k, hP, hsz, hk, hlast⟩ := enc_last h0 hv
  have e3 : (r == 65533) = false := by simpa using h3
  have hlt : ¬ r < 128 := by omega
  have h00 : 0 ≤ r := by omega
  have HV := hide (Tryz.utf8_ValidRune r w)
  rw [show Lib.validRune r = true by simpa [Lib.validRune] using hv] at HV
  clear hv
  rcases hk with rfl | rfl | rfl
  · have h1 : 1 < P.size := by omega
    have hb := hlast h1
    have hbu : (P[1]'h1).toNat < 256 := UInt8.toNat_lt _
    clear hlast
    simp only [Nat.add_one_sub_one] at hb
    generalize hB : (P[1]'h1) = B at *
    have hne : (((((⟨#[43, 45, 95]⟩ : ByteArray)[1]'(by decide)).toNat : Nat) : Int) != (B.toNat : Int)) = true := by
      rw [show (((⟨#[43, 45, 95]⟩ : ByteArray)[1]'(by decide)).toNat : Nat) = 45 from rfl]
      simp; omega
    go_enter Tryz.func144, Tryz.ntmps144
    go_wp2_with (go_at_call 167; refine HV.out.mono ?_; rintro e w1 ⟨rfl, rfl⟩)
    go_step3
    go_wp2_with fail
    refine wp_loop_rounds 1 ?_
    rw [rounds_succ]
    go_wp2_with fail
    go_step3
    go_wp2_with fail
    go_quiet (fail)
    go_wp2_with fail
    have ew : IntKind.i64.wrap 2 = 2 := by decide
    go_quiet ((go_at_call 76; first | exact quiet_add_left (idxByte_none _ _ _ (by decide) hb) | exact quiet_left (idxByte_none _ _ _ (by decide) hb)))
    go_wp2_with fail
    simp only [Exit.noGoto_ret, Exit.inBlock, Exit.then]
    go_ret
    exact ⟨rfl, (Fr.refl _ _).drewN _⟩
  · have h1 : 2 < P.size := by omega
    have hb := hlast h1
    have hbu : (P[2]'h1).toNat < 256 := UInt8.toNat_lt _
    clear hlast
    simp only [Nat.reduceSub] at hb
    generalize hB : (P[2]'h1) = B at *
    have hne : (((((⟨#[43, 45, 95]⟩ : ByteArray)[2]'(by decide)).toNat : Nat) : Int) != (B.toNat : Int)) = true := by
      rw [show (((⟨#[43, 45, 95]⟩ : ByteArray)[2]'(by decide)).toNat : Nat) = 95 from rfl]
      simp; omega
    go_enter Tryz.func144, Tryz.ntmps144
    go_wp2_with (go_at_call 167; refine HV.out.mono ?_; rintro e w1 ⟨rfl, rfl⟩)
    go_step3
    go_wp2_with fail
    refine wp_loop_rounds 1 ?_
    rw [rounds_succ]
    go_wp2_with fail
    go_step3
    go_wp2_with fail
    go_quiet (fail)
    go_wp2_with fail
    have ew : IntKind.i64.wrap 3 = 3 := by decide
    go_quiet ((go_at_call 76; first | exact quiet_add_left (idxByte_none _ _ _ (by decide) hb) | exact quiet_left (idxByte_none _ _ _ (by decide) hb)))
    go_wp2_with fail
    simp only [Exit.noGoto_ret, Exit.inBlock, Exit.then]
    go_ret
    exact ⟨rfl, (Fr.refl _ _).drewN _⟩
  · go_enter Tryz.func144, Tryz.ntmps144
    go_wp2_with (go_at_call 167; refine HV.out.mono ?_; rintro e w1 ⟨rfl, rfl⟩)
    go_step3
    go_wp2_with fail
    refine wp_loop_rounds 1 ?_
    rw [rounds_succ]
    go_wp2_with fail
    repeat rw [Exit.noGoto_ret]
    go_ret
    exact ⟨rfl, Fr.refl _ _⟩

/-- what a byte or a rune at a place says of it -/
theorem dec_low {n b0 b1 b2 b3 : Nat} (h : (decodeN n b0 b1 b2 b3).1 < 128) : decodeN n b0 b1 b2 b3 = (b0, 1) ∧ b0 < 128 := by
  unfold decodeN at h ⊢
  split at h
  · rename_i h1
    rw [if_pos h1]
    exact ⟨rfl, h1⟩
  · exfalso
    repeat' split at h
    all_goals (simp only at h; omega)
theorem dec_valid (n b0 b1 b2 b3 : Nat) : let r : Int := (decodeN n b0 b1 b2 b3).1; (0 ≤ r ∧ r < 55296) ∨ (57343 < r ∧ r ≤ 1114111) := by
  simp only
  unfold decodeN
  repeat' split
  all_goals (simp only; omega)
theorem dec_wide (n b0 b1 b2 b3 : Nat) : 1 ≤ (decodeN n b0 b1 b2 b3).2 := by
  unfold decodeN
  repeat' split
  all_goals (simp only; omega)

def signB (b : UInt8) : Bool := b == 43 || b == 45 || b == 95

theorem byte_get (s : ByteArray) (p : Nat) (h : p < s.size) : s.data.toList[p]? = some (s.get! p) := by
  obtain ⟨d⟩ := s
  have h' : p < d.size := h
  show d.toList[p]? = some (d[p]!)
  rw [getElem!_pos d p h']
  simp [h']
theorem index_signs (b : UInt8) : (signB b = true ∧ 0 ≤ Lib.indexByte [43, 45, 95] b) ∨ (signB b = false ∧ Lib.indexByte [43, 45, 95] b < 0) := by
  unfold signB
  by_cases h1 : b = 43
  · subst h1; exact .inl ⟨by decide, by decide⟩
  · by_cases h2 : b = 45
    · subst h2; exact .inl ⟨by decide, by decide⟩
    · by_cases h3 : b = 95
      · subst h3; exact .inl ⟨by decide, by decide⟩
      · right
        simp [h1, h2, h3, Lib.indexByte, Ne.symm h1, Ne.symm h2, Ne.symm h3]
theorem signs_at (s : ByteArray) (p : Nat) (h : p < s.size) : ∃ n : Int, (0 ≤ n → s.data.toList.any signB = true) ∧ (n < 0 → p = 0 → ∀ x, s.data.toList[0]? = some x → signB x = false) ∧
    ∀ W, Calls Tryz.prog 144 #[.string ⟨#[43, 45, 95]⟩, .int .i32 (Utf8.decode s p).1] W fun e w' => e = .returned (.int .i64 n) ∧ Fr (fun _ => False) W w' := by
  have hb := byte_get s p h
  have hd := decode_at s p
  generalize s.get! p = b at *
  by_cases hlo : (Utf8.decode s p).1 < 128
  · obtain ⟨h1, h2⟩ := dec_low (hd ▸ hlo)
    rw [hd, h1]
    simp only
    refine ⟨Lib.indexByte [43, 45, 95] b, fun hn => ?_, fun hn h0 x hx => ?_, fun W => (Tryz.strings_IndexRune_ascii _ _ W (by omega) (by omega)).mono ?_⟩
    · rcases index_signs b with ⟨g1, g2⟩ | ⟨g1, g2⟩
      · exact List.any_eq_true.2 ⟨b, List.mem_of_getElem? hb, g1⟩
      · omega
    · subst h0
      rw [hb] at hx
      injection hx with hx
      subst hx
      rcases index_signs b with ⟨g1, g2⟩ | ⟨g1, g2⟩
      · omega
      · exact g1
    · rintro e w' ⟨rfl, rfl⟩
      rw [show ((b.toNat : Nat) : Int).toNat.toUInt8 = b by simp]
      exact ⟨rfl, Fr.refl _ _⟩
  · have hv := dec_valid (s.size - p) b.toNat (s.get! (p + 1)).toNat (s.get! (p + 2)).toNat (s.get! (p + 3)).toNat
    simp only at hv
    have hh : 128 ≤ b.toNat := by
      rcases Nat.lt_or_ge b.toNat 128 with h1 | h1
      · exfalso
        apply hlo
        rw [hd]
        unfold decodeN
        rw [if_pos h1]
        exact h1
      · exact h1
    have hsb : signB b = false := by
      unfold signB
      have e1 : b ≠ 43 := fun e => by subst e; revert hh; decide
      have e2 : b ≠ 45 := fun e => by subst e; revert hh; decide
      have e3 : b ≠ 95 := fun e => by subst e; revert hh; decide
      simp [e1, e2, e3]
    refine ⟨-1, fun hn => absurd hn (by decide), fun hn h0 x hx => ?_, fun W => ?_⟩
    · subst h0
      rw [hb] at hx
      injection hx with hx
      subst hx
      exact hsb
    · rw [hd] at hlo ⊢
      by_cases hbad : (decodeN (s.size - p) b.toNat (s.get! (p + 1)).toNat (s.get! (p + 2)).toNat (s.get! (p + 3)).toNat).1 = 65533
      · rw [hbad]
        exact idxRune_bad W
      · exact idxRune_high _ W (by omega) (by omega) hv

set_option maxRecDepth 100000 in
set_option maxHeartbeats 4000000 in
theorem containsSigns (s : ByteArray) (w : World) (h1 : 1 ≤ s.size) (h8 : s.size ≤ 8) : Calls Tryz.prog 165 #[.string s, .string ⟨#[43, 45, 95]⟩] w fun e w' =>
    ∃ b : Bool, e = .returned (.bool b) ∧ (b = true → s.data.toList.any signB = true) ∧ (b = false → ∀ x, s.data.toList[0]? = some x → signB x = false) ∧ Fr (fun _ => False) w w' := by
  have h8z : decide ((8 : Int) < (s.size : Int)) = false := decide_eq_false (by omega)
  have hA : Calls Tryz.prog 175 #[.string s, .string ⟨#[43, 45, 95]⟩] w fun e w' => ∃ n : Int, e = .returned (.int .i64 n) ∧ (0 ≤ n → s.data.toList.any signB = true) ∧ (n < 0 → ∀ x, s.data.toList[0]? = some x → signB x = false) ∧ Fr (fun _ => False) w w' := by
    go_enter Tryz.func175, Tryz.ntmps175
    go_wp2_with (go_at_call 179; refine (Tryz.strings_shouldUseASCIISet _ _).mono ?_; rintro e w' ⟨rfl, hw⟩; rw [hw, h8z])
    go_loopw [9] (fun i wr => ∃ p : Nat, p ≤ s.size + 4 ∧ wr.heap[w.heap.size]? = some (.stringIter s p) ∧ Hid (Fr (fun _ => False) w wr) ∧ Hid (1 ≤ p → ∀ x, s.data.toList[0]? = some x → signB x = false)) (fun _ wr => s.size + 4 - wr.iterPos w.heap.size)
    case atStart => exact ⟨0, by omega, World.iter_heap w _ 0, Fr.alloc (Fr.refl _ _) _, fun h => absurd h (by omega)⟩
    case round =>
      obtain ⟨p, hp, hit, hfr, hno⟩ := hrel
      have hpos0 := iterPos_of hit
      by_cases hps : p < s.size
      · have hnx : ∀ ty, (Instr.next (.pointer (some ⟨w.heap.size, 0, none⟩)) true ty).run Tryz.prog wr = _ := fun ty => run_next_any_at wr w.heap.size s p ty hit hps
        have hit2 := iterAt_heap wr w.heap.size s p (p + (Utf8.decode s p).2) hit
        have hf2 := hide (hfr.out.iterAt (k := w.heap.size) (Nat.le_refl _) s (p + (Utf8.decode s p).2))
        obtain ⟨n, g1, g2, g3⟩ := signs_at s p hps
        have hw1 : 1 ≤ (Utf8.decode s p).2 := by rw [decode_at]; exact dec_wide _ _ _ _ _
        have hw4 : (Utf8.decode s p).2 ≤ 4 := by
          rw [decode_at]
          unfold decodeN
          repeat' split
          all_goals (simp only; omega)
        have G1 := hide g1
        have G2 := hide g2
        have G3 := hide g3
        clear g1 g2 g3 hit
        obtain ⟨c, wd, hd⟩ : ∃ c wd, Utf8.decode s p = (c, wd) := ⟨_, _, rfl⟩
        simp only [hd] at hnx hit2 hf2 G3 hw1 hw4
        clear hd
        by_cases hn : 0 ≤ n
        · go_wp2_with (go_at_call 144; refine (G3.out _).mono ?_; rintro e w1 ⟨rfl, f1⟩)
          go_ret
          exact ⟨_, rfl, fun _ => G1.out hn, fun h => absurd h (by omega), hf2.out.trans f1⟩
        · go_wp2_with (go_at_call 144; refine (G3.out _).mono ?_; rintro e w1 ⟨rfl, f1⟩)
          go_roundw
          case rel => exact ⟨p + wd, by omega, (f1.block w.heap.size (lt_of_block hit2) (fun h => h)).trans hit2, hf2.out.trans f1, fun _ => by
            by_cases h0 : p = 0
            · exact G2.out (by omega) h0
            · exact hno.out (by omega)⟩
          case measure =>
            rw [hpos0, iterPos_of ((f1.block w.heap.size (lt_of_block hit2) (fun h => h)).trans hit2)]
            omega
      · have hnx : ∀ ty, (Instr.next (.pointer (some ⟨w.heap.size, 0, none⟩)) true ty).run Tryz.prog wr = _ := fun ty => run_next_end_at wr w.heap.size s p ty hit hps
        go_wp2_with fail
        go_ret
        exact ⟨_, rfl, fun h => absurd h (by decide), fun _ => hno.out (by omega), hfr.out⟩
  go_enter Tryz.func165, Tryz.ntmps165
  go_wp2_with (go_at_call 175; refine hA.mono ?_; rintro e w1 ⟨n, rfl, k1, k2, f1⟩)
  go_ret
  exact ⟨_, rfl, fun h => k1 (by simpa using h), fun h => k2 (by simpa using h), f1⟩
end Go.Proofs.YtalbehjjgdedcaaGreatDoor
