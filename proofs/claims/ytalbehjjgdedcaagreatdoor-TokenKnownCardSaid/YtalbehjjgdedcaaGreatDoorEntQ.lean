/- Decoding and encoding in plain Lean; what is encoded is decoded as it was; piece by piece. -/
import Derived.Test.YtalbehjjgdedcaaGreatDoorEntP
namespace Go.Proofs.YtalbehjjgdedcaaGreatDoor
open Go.Lib

/-! texts that are characters -/
inductive IsU : List UInt8 → Prop
  | nil : IsU []
  | cons {c : Int} {l : List UInt8} : isC c = true → IsU l → IsU (encodeRune c ++ l)
theorem enc_pos (c : Int) : 1 ≤ (encodeRune c).length := by
  have := encodeRuneZ_length c
  unfold encodeRune
  rw [List.length_map]
  omega
theorem IsU.append {a b : List UInt8} (ha : IsU a) (hb : IsU b) : IsU (a ++ b) := by
  induction ha with
  | nil => exact hb
  | cons h _ ih => rw [List.append_assoc]; exact .cons h ih
theorem IsU.put (c : Int) : IsU (putL c) := by
  unfold putL
  split
  · rename_i h
    have := IsU.cons h .nil
    rwa [List.append_nil] at this
  · exact .nil
theorem nextL_enc {c : Int} (h : isC c = true) (l : List UInt8) : nextL (encodeRune c ++ l) = some (c.toNat, (encodeRune c).length) := nextL_of h (List.prefix_append _ _)
theorem IsU.of_next {l : List UInt8} {x k : Nat} (h : nextL l = some (x, k)) : isC x = true ∧ l = encodeRune x ++ l.drop k ∧ (encodeRune x).length = k := by
  obtain ⟨h1, h2, h3, h4, -, -⟩ := nextL_some h
  exact ⟨h1, by rw [h3, List.take_append_drop], h2.symm⟩
theorem good_isU : ∀ (f : Nat) (l : List UInt8), goodL f l = l.length → IsU l
  | 0, l, h => by
    have : l = [] := List.eq_nil_of_length_eq_zero (by simpa [goodL] using h.symm)
    rw [this]; exact .nil
  | f + 1, l, h => by
    unfold goodL at h
    cases hn : nextL l with
    | none =>
      rw [hn] at h
      have : l = [] := List.eq_nil_of_length_eq_zero (by simpa using h.symm)
      rw [this]; exact .nil
    | some r =>
      obtain ⟨x, k⟩ := r
      rw [hn] at h
      simp only at h
      obtain ⟨h1, h2, h3⟩ := IsU.of_next hn
      have hk := (nextL_some hn).2.2.2.1
      rw [h2]
      exact .cons h1 (good_isU f (l.drop k) (by rw [List.length_drop]; omega))
theorem isU_good {l : List UInt8} (h : IsU l) : ∀ f, l.length ≤ f → goodL f l = l.length := by
  induction h with
  | nil =>
    intro f _
    cases f with
    | zero => rfl
    | succ f => simp [goodL, nextL_nil]
  | @cons c l hc _ ih =>
    intro f hf
    have hp := enc_pos c
    rw [List.length_append] at hf
    cases f with
    | zero => omega
    | succ f =>
      unfold goodL
      rw [nextL_enc hc]
      simp only [List.drop_left]
      rw [ih f (by omega), List.length_append]
theorem validR_iff (l : List UInt8) : (validR l).2 = 0 ↔ IsU l := by
  unfold validR
  constructor
  · intro h
    split at h
    · cases h
    · rename_i hh
      exact good_isU l.length l (Nat.le_antisymm (goodL_le _ _) (by omega))
  · intro h
    rw [if_neg]
    rw [isU_good h l.length (Nat.le_refl _)]
    omega
theorem validR_ok {l : List UInt8} (h : IsU l) : validR l = (0, 0) := by
  have := (validR_iff l).2 h
  unfold validR at this ⊢
  split at this
  · cases this
  · rename_i hh; rw [if_neg hh]
theorem validR_err {l : List UInt8} (h : (validR l).2 ≠ 0) : (validR l).2 = 10 := by
  unfold validR at h ⊢
  split at h
  · rename_i hh; rw [if_pos hh]
  · exact absurd rfl h

/-! decoding -/
def stepD (l : List UInt8) : List UInt8 × Nat × Int :=
  if (refP l).2 ≠ 0 then ((refP l).1, (refP l).2, 0) else if l.head? = some 38 then ([], 0, 30) else (l.take (nextR l).2.1, (nextR l).2.1, (nextR l).2.2)
def decode : Nat → List UInt8 → List UInt8 → Nat → List UInt8 × Nat × Int
  | 0, _, acc, _ => (acc, 0, 0)
  | f + 1, l, acc, at_ => if l = [] then (acc, 0, 0) else if (stepD l).2.2 ≠ 0 then ([], at_, (stepD l).2.2) else decode f (l.drop (stepD l).2.1) (acc ++ (stepD l).1) (at_ + (stepD l).2.1)
def decodeR (l : List UInt8) : List UInt8 × Nat × Int := decode l.length l [] 0

theorem nameV_isU (n : List UInt8) : IsU (nameV n) := by
  unfold nameV
  split
  · rename_i p hp
    have := List.mem_of_find?_eq_some hp
    simp only [nameL, List.mem_cons, List.not_mem_nil, or_false] at this
    rcases this with rfl | rfl | rfl | rfl | rfl
    · exact IsU.put 38
    · exact IsU.put 60
    · exact IsU.put 62
    · exact IsU.put 34
    · exact IsU.put 39
  · exact .nil
theorem saysP_isU (n : List UInt8) : IsU (saysP n) := by
  unfold saysP numP
  split
  · split
    · exact IsU.put _
    · exact .nil
  · split
    · split
      · exact IsU.put _
      · exact .nil
    · exact nameV_isU n
theorem refP_cases (l : List UInt8) : refP l = ([], 0) ∨ ∃ n r, l = 38 :: (n ++ 59 :: r) ∧ (59 : UInt8) ∉ n ∧ saysP n ≠ [] ∧ refP l = (saysP n, n.length + 2) := by
  by_cases hsemi : (59 : UInt8) ∈ l
  · obtain ⟨a, r, rfl, ha⟩ := mem_split_first hsemi
    cases a with
    | nil => exact .inl (refP_head (by decide))
    | cons b n =>
      by_cases hb : b = 38
      · subst hb
        have hn : (59 : UInt8) ∉ n := fun e => ha (by simp [e])
        have h := refP_of (r := r) hn
        rw [List.cons_append]
        by_cases hs : saysP n = []
        · rw [if_pos hs] at h; exact .inl h
        · rw [if_neg hs] at h; exact .inr ⟨n, r, rfl, hn, hs, h⟩
      · exact .inl (refP_head hb)
  · exact .inl (refP_no hsemi)
theorem refP_app {l : List UInt8} (h : (refP l).2 ≠ 0) (m : List UInt8) : refP (l ++ m) = refP l := by
  rcases refP_cases l with h1 | ⟨n, r, rfl, h2, h3, h4⟩
  · rw [h1] at h; exact absurd rfl h
  · rw [h4]
    have := refP_of (n := n) (r := r ++ m) h2
    rw [if_neg h3] at this
    rw [← this]
    simp
theorem nextR_app {l : List UInt8} {k : Nat} (h : (nextR l).2.2 = 0) (h0 : l ≠ []) (hk : (nextR l).2.1 = k) (m : List UInt8) : nextR (l ++ m) = nextR l ∧ 1 ≤ k ∧ k ≤ l.length := by
  unfold nextR at h hk ⊢
  cases hn : nextL l with
  | none =>
    rw [hn] at h
    simp [h0] at h
  | some r =>
    obtain ⟨x, j⟩ := r
    rw [hn] at hk
    simp only at hk
    subst hk
    obtain ⟨h1, h2, h3, h4, h5, h6⟩ := nextL_some hn
    have hp : encodeRune (x : Int) <+: l ++ m := (h3 ▸ List.take_prefix _ _).trans (List.prefix_append _ _)
    rw [nextL_of h1 hp, ← h2]
    exact ⟨rfl, h5, h4⟩
/-- a step that is taken is taken with more behind it, too -/
theorem stepD_app {l : List UInt8} (h0 : l ≠ []) (h : (stepD l).2.2 = 0) (m : List UInt8) : stepD (l ++ m) = stepD l ∧ 1 ≤ (stepD l).2.1 ∧ (stepD l).2.1 ≤ l.length ∧ IsU (stepD l).1 := by
  unfold stepD at h ⊢
  by_cases hr : (refP l).2 ≠ 0
  · rw [if_pos hr] at h ⊢
    rw [refP_app hr, if_pos hr]
    refine ⟨rfl, (by show 1 ≤ (refP l).2; omega), ?_⟩
    rcases refP_cases l with h1 | ⟨n, r, rfl, h2, h3, h4⟩
    · rw [h1] at hr; exact absurd rfl hr
    · rw [h4]
      exact ⟨by simp only [List.length_cons, List.length_append]; omega, saysP_isU n⟩
  · rw [if_neg hr] at h ⊢
    by_cases hh : l.head? = some 38
    · rw [if_pos hh] at h; cases h
    · rw [if_neg hh] at h ⊢
      obtain ⟨hn, h1, h2⟩ := nextR_app h h0 rfl m
      have hne : refP (l ++ m) = ([], 0) := by
        cases l with
        | nil => exact absurd rfl h0
        | cons b l => exact refP_head (fun e => hh (by simp [e]))
      have hh2 : (l ++ m).head? = l.head? := by
        cases l with
        | nil => exact absurd rfl h0
        | cons b l => rfl
      rw [hne, if_neg (by simp), hh2, if_neg hh, hn, List.take_append_of_le_length h2]
      refine ⟨rfl, h1, h2, ?_⟩
      show IsU (l.take (nextR l).2.1)
      unfold nextR at h ⊢
      cases hx : nextL l with
      | none => rw [hx] at h; simp [h0] at h
      | some r =>
        obtain ⟨x, j⟩ := r
        obtain ⟨g1, g2, g3, -⟩ := nextL_some hx
        simp only
        rw [← g3]
        have := IsU.cons g1 .nil
        rwa [List.append_nil] at this
theorem stepD_err (l : List UInt8) (h : (stepD l).2.2 ≠ 0) : (stepD l).2.2 = 30 ∨ (stepD l).2.2 = 10 := by
  unfold stepD at h ⊢
  split at h
  · exact absurd rfl h
  · rename_i h1
    split at h
    · rename_i h2; rw [if_neg h1, if_pos h2]; exact .inl rfl
    · rename_i h2
      rw [if_neg h1, if_neg h2]
      right
      unfold nextR at h ⊢
      split
      · rename_i h3; rw [h3] at h; exact absurd rfl h
      · rename_i h3
        rw [h3] at h
        split
        · rename_i h4; simp [h4] at h
        · rfl

/-- enough fuel is enough -/
theorem decode_fuel : ∀ (f : Nat) (l acc : List UInt8) (a : Nat), l.length ≤ f → decode f l acc a = decode l.length l acc a
  | 0, l, acc, a, h => by
    have : l = [] := List.eq_nil_of_length_eq_zero (by omega)
    subst this; rfl
  | f + 1, [], acc, a, h => rfl
  | f + 1, b :: t, acc, a, h => by
    rw [List.length_cons]
    unfold decode
    rw [if_neg (List.cons_ne_nil b t), if_neg (List.cons_ne_nil b t)]
    by_cases he : (stepD (b :: t)).2.2 ≠ 0
    · rw [if_pos he, if_pos he]
    · rw [if_neg he, if_neg he]
      have he : (stepD (b :: t)).2.2 = 0 := by omega
      obtain ⟨-, h1, h2, -⟩ := stepD_app (by simp) he []
      simp only [List.length_cons] at h h2
      rw [decode_fuel f _ _ _ (by rw [List.length_drop, List.length_cons]; omega)]
      have := decode_fuel t.length ((b :: t).drop (stepD (b :: t)).2.1) (acc ++ (stepD (b :: t)).1) (a + (stepD (b :: t)).2.1) (by rw [List.length_drop, List.length_cons]; omega)
      rw [this]

/-- decoding, without fuel -/
theorem decode_step {l : List UInt8} (h0 : l ≠ []) (acc : List UInt8) (a : Nat) : decode l.length l acc a = if (stepD l).2.2 ≠ 0 then ([], a, (stepD l).2.2) else decode (l.drop (stepD l).2.1).length (l.drop (stepD l).2.1) (acc ++ (stepD l).1) (a + (stepD l).2.1) := by
  cases l with
  | nil => exact absurd rfl h0
  | cons b t =>
    rw [List.length_cons]
    conv => lhs; unfold decode
    rw [if_neg (by simp)]
    split
    · rfl
    · rename_i he
      have he : (stepD (b :: t)).2.2 = 0 := by omega
      obtain ⟨-, h1, h2, -⟩ := stepD_app (by simp) he []
      simp only [List.length_cons] at h2
      rw [decode_fuel]
      rw [List.length_drop, List.length_cons]
      omega
/-- what is read: a text that is decoded, and what it says -/
inductive Dec : List UInt8 → List UInt8 → Prop
  | nil : Dec [] []
  | cons {l t : List UInt8} : l ≠ [] → (stepD l).2.2 = 0 → Dec (l.drop (stepD l).2.1) t → Dec l ((stepD l).1 ++ t)
theorem Dec.isU {l t : List UInt8} (h : Dec l t) : IsU t := by
  induction h with
  | nil => exact .nil
  | cons h0 h1 _ ih => exact (stepD_app h0 h1 []).2.2.2.append ih
theorem Dec.run {l t : List UInt8} (h : Dec l t) (m : List UInt8) : ∀ (acc : List UInt8) (a : Nat), decode (l ++ m).length (l ++ m) acc a = decode m.length m (acc ++ t) (a + l.length) := by
  induction h with
  | nil => intro acc a; simp
  | @cons l t h0 h1 _ ih =>
    intro acc a
    obtain ⟨h2, h3, h4, -⟩ := stepD_app h0 h1 m
    rw [decode_step (by simp [h0]), h2, if_neg (by rw [h1]; simp), List.drop_append_of_le_length h4, ih]
    congr 1
    · simp
    · rw [List.length_drop]; omega
theorem Dec.done {l t : List UInt8} (h : Dec l t) : decodeR l = (t, 0, 0) := by
  have := h.run [] [] 0
  simp only [List.append_nil, List.nil_append] at this
  unfold decodeR
  rw [this]
  rfl
theorem dec_of : ∀ (n : Nat) (l acc : List UInt8) (a : Nat), l.length ≤ n → (decode l.length l acc a).2.2 = 0 → ∃ t, Dec l t ∧ decode l.length l acc a = (acc ++ t, 0, 0)
  | 0, l, acc, a, hn, _ => by
    have : l = [] := List.eq_nil_of_length_eq_zero (by omega)
    subst this
    exact ⟨[], .nil, by simp [decode]⟩
  | n + 1, l, acc, a, hn, h => by
    by_cases h0 : l = []
    · subst h0
      exact ⟨[], .nil, by simp [decode]⟩
    · rw [decode_step h0] at h ⊢
      by_cases he : (stepD l).2.2 ≠ 0
      · rw [if_pos he] at h; exact absurd h he
      · rw [if_neg he] at h ⊢
        have he : (stepD l).2.2 = 0 := by omega
        obtain ⟨-, h1, h2, -⟩ := stepD_app h0 he []
        obtain ⟨t, h3, h4⟩ := dec_of n _ _ _ (by rw [List.length_drop]; omega) h
        exact ⟨_, .cons h0 he h3, by rw [h4]; simp⟩
theorem dec_of_ok {l : List UInt8} (h : (decodeR l).2.2 = 0) : Dec l (decodeR l).1 := by
  obtain ⟨t, h1, h2⟩ := dec_of l.length l [] 0 (Nat.le_refl _) h
  unfold decodeR
  rw [h2]
  simpa using h1
/-- the place and the error don't hang on what was read ahead -/
theorem decode_acc : ∀ (n : Nat) (l acc acc2 : List UInt8) (a a2 : Nat), l.length ≤ n →
    (decode l.length l acc2 a2).2.2 = (decode l.length l acc a).2.2 ∧ ((decode l.length l acc a).2.2 ≠ 0 → (decode l.length l acc a).1 = [] ∧ (decode l.length l acc2 a2).1 = [] ∧ (decode l.length l acc2 a2).2.1 + a = (decode l.length l acc a).2.1 + a2)
  | 0, l, acc, acc2, a, a2, hn => by
    have : l = [] := List.eq_nil_of_length_eq_zero (by omega)
    subst this
    exact ⟨rfl, fun h => absurd rfl h⟩
  | n + 1, l, acc, acc2, a, a2, hn => by
    by_cases h0 : l = []
    · subst h0
      exact ⟨rfl, fun h => absurd rfl h⟩
    · rw [decode_step h0, decode_step h0]
      by_cases he : (stepD l).2.2 ≠ 0
      · rw [if_pos he, if_pos he]
        exact ⟨rfl, fun _ => ⟨rfl, rfl, by simp only; omega⟩⟩
      · rw [if_neg he, if_neg he]
        have he : (stepD l).2.2 = 0 := by omega
        obtain ⟨-, h1, h2, -⟩ := stepD_app h0 he []
        obtain ⟨g1, g2⟩ := decode_acc n (l.drop (stepD l).2.1) (acc ++ (stepD l).1) (acc2 ++ (stepD l).1) (a + (stepD l).2.1) (a2 + (stepD l).2.1) (by rw [List.length_drop]; omega)
        exact ⟨g1, fun h => ⟨(g2 h).1, (g2 h).2.1, by have := (g2 h).2.2; omega⟩⟩
theorem decodeR_err {l : List UInt8} (h : (decodeR l).2.2 ≠ 0) : (decodeR l).1 = [] := ((decode_acc l.length l [] [] 0 0 (Nat.le_refl _)).2 h).1

/-! encoding -/
def escL (attr : Bool) (b : UInt8) : List UInt8 :=
  if b = 38 then [38, 97, 109, 112, 59] else if b = 60 then [38, 108, 116, 59] else if b = 62 then [38, 103, 116, 59] else if b = 13 then [38, 35, 49, 51, 59]
  else if b = 34 ∧ attr = true then [38, 113, 117, 111, 116, 59] else if b = 9 ∧ attr = true then [38, 35, 57, 59] else if b = 10 ∧ attr = true then [38, 35, 49, 48, 59] else [b]
def encL (attr : Bool) (l : List UInt8) : List UInt8 := l.flatMap (escL attr)
def encodeR (attr : Bool) (l : List UInt8) : List UInt8 × Int := if (validR l).2 = 0 then (encL attr l, 0) else ([], 10)

def badB (attr : Bool) (b : UInt8) : Bool := b == 60 || b == 62 || b == 13 || (attr && (b == 34 || b == 9 || b == 10))
theorem esc_good (attr : Bool) (b : UInt8) : ∀ x ∈ escL attr b, badB attr x = false := by
  have hc : ∀ l : List UInt8, (l.all fun x => !badB attr x) = true → ∀ x ∈ l, badB attr x = false := fun l h x hx => by
    have := List.all_eq_true.1 h x hx
    simpa using this
  unfold escL
  split
  · exact hc _ (by cases attr <;> decide)
  · rename_i h1
    split
    · exact hc _ (by cases attr <;> decide)
    · rename_i h2
      split
      · exact hc _ (by cases attr <;> decide)
      · rename_i h3
        split
        · exact hc _ (by cases attr <;> decide)
        · rename_i h4
          split
          · exact hc _ (by cases attr <;> decide)
          · rename_i h5
            split
            · exact hc _ (by cases attr <;> decide)
            · rename_i h6
              split
              · exact hc _ (by cases attr <;> decide)
              · rename_i h7
                intro x hx
                rw [List.mem_singleton] at hx
                subst hx
                cases attr <;> simp_all [badB]
theorem enc_good {attr : Bool} {l : List UInt8} {x : UInt8} (h : x ∈ encL attr l) : badB attr x = false := by
  obtain ⟨b, _, hb⟩ := List.mem_flatMap.1 h
  exact esc_good attr b x hb

/-- a reference that is read -/
theorem dec_ref {n c l t : List UInt8} (hn : (59 : UInt8) ∉ n) (hc : saysP n = c) (h0 : c ≠ []) (h : Dec l t) : Dec (38 :: (n ++ 59 :: l)) (c ++ t) := by
  have hr := refP_of (r := l) hn
  rw [hc, if_neg h0] at hr
  have hs : stepD (38 :: (n ++ 59 :: l)) = (c, n.length + 2, 0) := by
    unfold stepD
    rw [hr, if_pos (by simp)]
  have hd : (38 :: (n ++ 59 :: l)).drop (n.length + 2) = l := by
    rw [show n.length + 2 = (n ++ [59]).length + 1 from by simp]
    rw [List.drop_succ_cons, show n ++ 59 :: l = (n ++ [59]) ++ l from by simp, List.drop_left]
  have := Dec.cons (l := 38 :: (n ++ 59 :: l)) (t := t) (by simp) (by rw [hs]) (by rw [hs, hd]; exact h)
  rwa [hs] at this
/-- a character that is read -/
theorem dec_char {c : Int} {l t : List UInt8} (hc : isC c = true) (h38 : (encodeRune c).head? ≠ some 38) (h : Dec l t) : Dec (encodeRune c ++ l) (encodeRune c ++ t) := by
  have hp := enc_pos c
  have hh : (encodeRune c ++ l).head? = (encodeRune c).head? := by
    cases he : encodeRune c with
    | nil => rw [he] at hp; simp at hp
    | cons b t => rfl
  have hr : refP (encodeRune c ++ l) = ([], 0) := by
    cases he : encodeRune c with
    | nil => rw [he] at hp; simp at hp
    | cons b t => exact refP_head (fun e => h38 (by rw [he, e]; rfl))
  have hx : nextR (encodeRune c ++ l) = ((c.toNat : Int), (encodeRune c).length, 0) := by
    unfold nextR
    rw [nextL_enc hc]
  have hs : stepD (encodeRune c ++ l) = (encodeRune c, (encodeRune c).length, 0) := by
    unfold stepD
    rw [hr, if_neg (by simp), hh, if_neg h38, hx, List.take_left]
  have := Dec.cons (l := encodeRune c ++ l) (t := t) (by simp; intro e; rw [e] at hp; simp at hp) (by rw [hs]) (by rw [hs, List.drop_left]; exact h)
  rwa [hs] at this

theorem esc_high {attr : Bool} {b : UInt8} (h : 128 ≤ b.toNat) : escL attr b = [b] := by
  have hne : ∀ n : UInt8, n.toNat < 128 → b ≠ n := fun n hn e => by subst e; omega
  unfold escL
  rw [if_neg (hne _ (by decide)), if_neg (hne _ (by decide)), if_neg (hne _ (by decide)), if_neg (hne _ (by decide)), if_neg (fun e => hne _ (by decide) e.1), if_neg (fun e => hne _ (by decide) e.1), if_neg (fun e => hne _ (by decide) e.1)]
theorem enc_high {attr : Bool} : ∀ {l : List UInt8}, (∀ b ∈ l, 128 ≤ b.toNat) → encL attr l = l
  | [], _ => rfl
  | b :: l, h => by
    unfold encL
    rw [List.flatMap_cons, esc_high (h b (by simp))]
    have := enc_high (attr := attr) (l := l) (fun x hx => h x (by simp [hx]))
    unfold encL at this
    rw [this]
    rfl
theorem high_bytes {c : Int} (h : isC c = true) (hc : 128 ≤ c) : ∀ b ∈ encodeRune c, 128 ≤ b.toNat := by
  simp only [isC, decide_eq_true_eq] at h
  have hr : (128 ≤ c ∧ c ≤ 2047) ∨ ((2048 ≤ c ∧ c < 55296) ∨ (57343 < c ∧ c ≤ 65535)) ∨ (65536 ≤ c ∧ c ≤ 1114111) := by omega
  intro b hb
  rcases hr with h1 | h1 | h1
  · unfold encodeRune at hb
    rw [encodeRuneZ_two h1.1 h1.2] at hb
    simp only [List.map_cons, List.map_nil, List.mem_cons, List.not_mem_nil, or_false] at hb
    rcases hb with rfl | rfl <;> rw [u8_toNat] <;> omega
  · unfold encodeRune at hb
    rw [encodeRuneZ_three h1] at hb
    simp only [List.map_cons, List.map_nil, List.mem_cons, List.not_mem_nil, or_false] at hb
    rcases hb with rfl | rfl | rfl <;> rw [u8_toNat] <;> omega
  · unfold encodeRune at hb
    rw [encodeRuneZ_four h1.1 h1.2] at hb
    simp only [List.map_cons, List.map_nil, List.mem_cons, List.not_mem_nil, or_false] at hb
    rcases hb with rfl | rfl | rfl | rfl <;> rw [u8_toNat] <;> omega

/-- THE STAGE'S THEOREM, plainly -/
theorem enc_dec (attr : Bool) {l : List UInt8} (h : IsU l) : Dec (encL attr l) l := by
  induction h with
  | nil => exact .nil
  | @cons c l hc _ ih =>
    have happ : encL attr (encodeRune c ++ l) = encL attr (encodeRune c) ++ encL attr l := by simp [encL]
    rw [happ]
    by_cases h128 : 128 ≤ c
    · rw [enc_high (high_bytes hc h128)]
      refine dec_char hc (fun e => ?_) ih
      have := high_bytes hc h128 38 (List.mem_of_mem_head? e)
      revert this; decide
    · have h0 : 0 ≤ c := by simp only [isC, decide_eq_true_eq] at hc; omega
      have he : encodeRune c = [c.toNat.toUInt8] := by
        unfold encodeRune
        rw [encodeRuneZ_one h0 (by omega)]
        rfl
      have hb : ∀ n : UInt8, c.toNat.toUInt8 = n → c = n.toNat := fun n hn => by
        have := congrArg UInt8.toNat hn
        rw [u8_toNat] at this
        omega
      by_cases h38 : c.toNat.toUInt8 = 38
      · rw [he, h38]
        exact dec_ref (n := [97, 109, 112]) (by decide) (by decide) (by decide) ih
      · by_cases h60 : c.toNat.toUInt8 = 60
        · rw [he, h60]
          exact dec_ref (n := [108, 116]) (by decide) (by decide) (by decide) ih
        · by_cases h62 : c.toNat.toUInt8 = 62
          · rw [he, h62]
            exact dec_ref (n := [103, 116]) (by decide) (by decide) (by decide) ih
          · by_cases h13 : c.toNat.toUInt8 = 13
            · rw [he, h13]
              exact dec_ref (n := [35, 49, 51]) (by decide) (by decide) (by decide) ih
            · by_cases h34 : c.toNat.toUInt8 = 34 ∧ attr = true
              · rw [he, h34.1, h34.2]
                have := dec_ref (n := [113, 117, 111, 116]) (c := [34]) (by decide) (by decide) (by decide) ih
                rw [h34.2] at this
                exact this
              · by_cases h9 : c.toNat.toUInt8 = 9 ∧ attr = true
                · rw [he, h9.1, h9.2]
                  have := dec_ref (n := [35, 57]) (c := [9]) (by decide) (by decide) (by decide) ih
                  rw [h9.2] at this
                  exact this
                · by_cases h10 : c.toNat.toUInt8 = 10 ∧ attr = true
                  · rw [he, h10.1, h10.2]
                    have := dec_ref (n := [35, 49, 48]) (c := [10]) (by decide) (by decide) (by decide) ih
                    rw [h10.2] at this
                    exact this
                  · have hesc : encL attr (encodeRune c) = encodeRune c := by
                      rw [he]
                      unfold encL escL
                      rw [List.flatMap_cons, if_neg h38, if_neg h60, if_neg h62, if_neg h13, if_neg h34, if_neg h9, if_neg h10]
                      rfl
                    rw [hesc]
                    refine dec_char hc (fun e => ?_) ih
                    rw [he] at e
                    simp only [List.head?_cons, Option.some.injEq] at e
                    exact h38 e
end Go.Proofs.YtalbehjjgdedcaaGreatDoor
