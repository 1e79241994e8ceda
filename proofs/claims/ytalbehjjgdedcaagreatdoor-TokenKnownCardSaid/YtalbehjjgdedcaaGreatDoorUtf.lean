/- UTF-8 in plain Lean: the first character of bytes, by decoding (the program's way) and by trying each length (the reference's). -/
import Derived.Lib.DecodeN
import Derived.Lib.RuneBytes
namespace Go.Proofs.YtalbehjjgdedcaaGreatDoor
open Go.Lib

def isC (c : Int) : Bool := decide ((9 ≤ c ∧ c ≤ 10) ∨ c = 13 ∨ (32 ≤ c ∧ c ≤ 55295) ∨ (57344 ≤ c ∧ c ≤ 65533) ∨ (65536 ≤ c ∧ c ≤ 1114111))
def putL (c : Int) : List UInt8 := if isC c = true then encodeRune c else []
def byteAt (l : List UInt8) (i : Nat) : Nat := (l[i]?.getD 0).toNat
def decL (l : List UInt8) : Nat × Nat := decodeN l.length (byteAt l 0) (byteAt l 1) (byteAt l 2) (byteAt l 3)

theorem byteAt_drop (s : ByteArray) (i k : Nat) : (s.get! (i + k)).toNat = byteAt (s.data.toList.drop i) k := by
  unfold byteAt
  rw [List.getElem?_drop]
  congr 1
  show s.data[i + k]! = _
  rw [getElem!_def, Array.getElem?_toList]
  cases s.data[i + k]? <;> rfl
theorem decode_decL (s : ByteArray) (i : Nat) : Utf8.decode s i = decL (s.data.toList.drop i) := by
  rw [decode_at]
  unfold decL
  have h0 := byteAt_drop s i 0
  rw [Nat.add_zero] at h0
  rw [h0, byteAt_drop, byteAt_drop, byteAt_drop, List.length_drop]
  rfl

theorem u8_toNat (x : Int) : (x.toNat.toUInt8).toNat = x.toNat % 256 := by simp [Nat.toUInt8]

set_option maxHeartbeats 1000000 in
theorem dec_enc {c : Int} (h : isC c = true) (t : List UInt8) : decL (encodeRune c ++ t) = (c.toNat, (encodeRune c).length) := by
  simp only [isC, decide_eq_true_eq] at h
  have hr : (0 ≤ c ∧ c ≤ 127) ∨ (128 ≤ c ∧ c ≤ 2047) ∨ ((2048 ≤ c ∧ c < 55296) ∨ (57343 < c ∧ c ≤ 65535)) ∨ (65536 ≤ c ∧ c ≤ 1114111) := by omega
  rcases hr with h1 | h1 | h1 | h1
  · unfold encodeRune decL
    rw [encodeRuneZ_one h1.1 h1.2]
    simp only [List.map_cons, List.map_nil, byteAt, List.cons_append, List.nil_append, List.getElem?_cons_zero, Option.getD_some, u8_toNat, List.length_cons, List.length_nil]
    unfold decodeN
    rw [if_pos (by omega)]
    simp only [Nat.zero_add, Prod.mk.injEq, and_true]
    omega
  · unfold encodeRune decL
    rw [encodeRuneZ_two h1.1 h1.2]
    simp only [List.map_cons, List.map_nil, byteAt, List.cons_append, List.nil_append, List.getElem?_cons_zero, List.getElem?_cons_succ, Option.getD_some, u8_toNat, List.length_cons, List.length_nil]
    unfold decodeN
    rw [if_neg (by omega), if_pos (by omega), if_pos (by omega)]
    refine Prod.ext ?_ rfl
    show _ = c.toNat
    dsimp only
    omega
  · unfold encodeRune decL
    rw [encodeRuneZ_three h1]
    simp only [List.map_cons, List.map_nil, byteAt, List.cons_append, List.nil_append, List.getElem?_cons_zero, List.getElem?_cons_succ, Option.getD_some, u8_toNat, List.length_cons, List.length_nil]
    unfold decodeN
    rw [if_neg (by omega), if_neg (by omega), if_pos (by omega), if_pos (by omega)]
    refine Prod.ext ?_ rfl
    show _ = c.toNat
    dsimp only
    omega
  · unfold encodeRune decL
    rw [encodeRuneZ_four h1.1 h1.2]
    simp only [List.map_cons, List.map_nil, byteAt, List.cons_append, List.nil_append, List.getElem?_cons_zero, List.getElem?_cons_succ, Option.getD_some, u8_toNat, List.length_cons, List.length_nil]
    unfold decodeN
    rw [if_neg (by omega), if_neg (by omega), if_neg (by omega), if_pos (by omega), if_pos (by omega)]
    refine Prod.ext ?_ rfl
    show _ = c.toNat
    dsimp only
    omega

/-- the first character of bytes, and how long it is -/
def nextL (l : List UInt8) : Option (Nat × Nat) :=
  if isC (decL l).1 = true ∧ encodeRune (decL l).1 <+: l then some ((decL l).1, (encodeRune (decL l).1).length) else none

theorem nextL_some {l : List UInt8} {c n : Nat} (h : nextL l = some (c, n)) : isC c = true ∧ n = (encodeRune c).length ∧ encodeRune c = l.take n ∧ n ≤ l.length ∧ 1 ≤ n ∧ n ≤ 4 := by
  unfold nextL at h
  split at h
  · rename_i hc
    simp only [Option.some.injEq, Prod.mk.injEq] at h
    obtain ⟨rfl, rfl⟩ := h
    have h1 := encodeRuneZ_length ((decL l).1 : Int)
    have h2 : (encodeRune ((decL l).1 : Int)).length = (encodeRuneZ ((decL l).1 : Int)).length := by simp [encodeRune]
    exact ⟨hc.1, rfl, List.prefix_iff_eq_take.1 hc.2, hc.2.length_le, by omega, by omega⟩
  · cases h
theorem nextL_of {l : List UInt8} {c : Int} (h : isC c = true) (hp : encodeRune c <+: l) : nextL l = some (c.toNat, (encodeRune c).length) := by
  obtain ⟨t, rfl⟩ := hp
  have hd := dec_enc h t
  have h0 : 0 ≤ c := by simp only [isC, decide_eq_true_eq] at h; omega
  have hc : ((c.toNat : Nat) : Int) = c := by omega
  unfold nextL
  rw [hd]
  simp only [hc]
  rw [if_pos ⟨h, List.prefix_append _ _⟩]

/-- the reference's number of n bytes -/
def refNum (l : List UInt8) (n : Nat) : Int :=
  match n with
  | 1 => byteAt l 0
  | 2 => ((byteAt l 0 : Int) - 192) * 64 + byteAt l 1 - 128
  | 3 => (((byteAt l 0 : Int) - 224) * 64 + byteAt l 1 - 128) * 64 + byteAt l 2 - 128
  | 4 => ((((byteAt l 0 : Int) - 240) * 64 + byteAt l 1 - 128) * 64 + byteAt l 2 - 128) * 64 + byteAt l 3 - 128
  | _ => 0
def refOk (l : List UInt8) (n : Nat) : Bool := decide (1 ≤ n ∧ n ≤ 4 ∧ n ≤ l.length) && isC (refNum l n) && decide (putL (refNum l n) = l.take n)

theorem refNum_enc {l : List UInt8} {c : Int} (h : isC c = true) (hp : encodeRune c <+: l) : refNum l (encodeRune c).length = c := by
  obtain ⟨t, rfl⟩ := hp
  simp only [isC, decide_eq_true_eq] at h
  have hr : (0 ≤ c ∧ c ≤ 127) ∨ (128 ≤ c ∧ c ≤ 2047) ∨ ((2048 ≤ c ∧ c < 55296) ∨ (57343 < c ∧ c ≤ 65535)) ∨ (65536 ≤ c ∧ c ≤ 1114111) := by omega
  rcases hr with h1 | h1 | h1 | h1
  · unfold encodeRune
    rw [encodeRuneZ_one h1.1 h1.2]
    simp only [List.map_cons, List.map_nil, byteAt, refNum, List.cons_append, List.nil_append, List.getElem?_cons_zero, Option.getD_some, u8_toNat, List.length_cons, List.length_nil, Nat.zero_add]
    omega
  · unfold encodeRune
    rw [encodeRuneZ_two h1.1 h1.2]
    simp only [List.map_cons, List.map_nil, byteAt, refNum, List.cons_append, List.nil_append, List.getElem?_cons_zero, List.getElem?_cons_succ, Option.getD_some, u8_toNat, List.length_cons, List.length_nil, Nat.zero_add, Nat.reduceAdd]
    omega
  · unfold encodeRune
    rw [encodeRuneZ_three h1]
    simp only [List.map_cons, List.map_nil, byteAt, refNum, List.cons_append, List.nil_append, List.getElem?_cons_zero, List.getElem?_cons_succ, Option.getD_some, u8_toNat, List.length_cons, List.length_nil, Nat.zero_add, Nat.reduceAdd]
    omega
  · unfold encodeRune
    rw [encodeRuneZ_four h1.1 h1.2]
    simp only [List.map_cons, List.map_nil, byteAt, refNum, List.cons_append, List.nil_append, List.getElem?_cons_zero, List.getElem?_cons_succ, Option.getD_some, u8_toNat, List.length_cons, List.length_nil, Nat.zero_add, Nat.reduceAdd]
    omega

/-- a length is taken by the reference just where the decoding finds a character of that length -/
theorem refOk_iff (l : List UInt8) (n : Nat) : refOk l n = true ↔ nextL l = some ((refNum l n).toNat, n) := by
  constructor
  · intro h
    simp only [refOk, Bool.and_eq_true, decide_eq_true_eq] at h
    obtain ⟨⟨hn, hc⟩, hp⟩ := h
    unfold putL at hp
    rw [if_pos hc] at hp
    have := nextL_of hc (l := l) (hp ▸ List.take_prefix n l)
    rw [this]
    have hl : (encodeRune (refNum l n)).length = n := by rw [hp, List.length_take]; omega
    rw [hl]
  · intro h
    obtain ⟨h1, h2, h3, h4, h5, h6⟩ := nextL_some h
    have hp : encodeRune ((refNum l n).toNat : Int) <+: l := h3 ▸ List.take_prefix n l
    have hn := refNum_enc h1 hp
    rw [← h2] at hn
    simp only [refOk, Bool.and_eq_true, decide_eq_true_eq]
    refine ⟨⟨⟨h5, h6, h4⟩, by rw [hn]; exact h1⟩, ?_⟩
    unfold putL
    rw [hn, if_pos h1]
    exact h3
/-- .. of one length alone -/
theorem refOk_len {l : List UInt8} {c n : Nat} (h : nextL l = some (c, n)) : refOk l n = true ∧ refNum l n = c ∧ ∀ m, m ≠ n → refOk l m = false := by
  obtain ⟨h1, h2, h3, h4, h5, h6⟩ := nextL_some h
  have hp : encodeRune (c : Int) <+: l := h3 ▸ List.take_prefix n l
  have hn := refNum_enc h1 hp
  rw [← h2] at hn
  refine ⟨(refOk_iff l n).2 (by rw [h, hn]; rfl), hn, fun m hm => ?_⟩
  cases hr : refOk l m with
  | false => rfl
  | true =>
    have := (refOk_iff l m).1 hr
    rw [h] at this
    simp only [Option.some.injEq, Prod.mk.injEq] at this
    exact absurd this.2.symm hm
theorem refOk_none {l : List UInt8} (h : nextL l = none) (m : Nat) : refOk l m = false := by
  cases hr : refOk l m with
  | false => rfl
  | true => rw [(refOk_iff l m).1 hr] at h; cases h
end Go.Proofs.YtalbehjjgdedcaaGreatDoor
