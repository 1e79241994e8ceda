/- The entity layer in plain Lean: what a reference says by both texts, decoding, encoding, and what the laws ask of them. -/
import Derived.Test.YtalbehjjgdedcaaGreatDoorEnt3
import Derived.Lib.IndexMore
namespace Go.Proofs.YtalbehjjgdedcaaGreatDoor
open Go.Lib

def digV (b : UInt8) : Int :=
  if 48 ≤ b.toNat ∧ b.toNat ≤ 57 then (b.toNat : Int) - 48 else if 97 ≤ b.toNat ∧ b.toNat ≤ 102 then (b.toNat : Int) - 87 else if 65 ≤ b.toNat ∧ b.toNat ≤ 70 then (b.toNat : Int) - 55 else -1
def digB (base : Int) (b : UInt8) : Bool := decide (0 ≤ digV b ∧ digV b < base)
def valL (base : Int) : List UInt8 → Int → Int
  | [], n => n
  | b :: t, n => valL base t (n * base + digV b)
def numP (base : Int) (most : Nat) (l : List UInt8) : List UInt8 := if 1 ≤ l.length ∧ l.length ≤ most ∧ l.all (digB base) = true then putL (valL base l 0) else []
def spanD (base : Int) : Nat → List UInt8 → Nat
  | 0, _ => 0
  | _ + 1, [] => 0
  | m + 1, b :: t => if digB base b = true then spanD base m t + 1 else 0
def numR (base : Int) (most : Nat) (l : List UInt8) : List UInt8 × Nat :=
  if spanD base most l = 0 ∨ l[spanD base most l]? ≠ some 59 then ([], 0) else (putL (valL base (l.take (spanD base most l)) 0), spanD base most l)

theorem spanD_le (base : Int) (m : Nat) (l : List UInt8) : spanD base m l ≤ m ∧ spanD base m l ≤ l.length := by
  induction m generalizing l with
  | zero => simp [spanD]
  | succ m ih =>
    cases l with
    | nil => simp [spanD]
    | cons b t =>
      have := ih t
      unfold spanD
      split
      · simp only [List.length_cons]; omega
      · simp
theorem spanD_all (base : Int) (m : Nat) (l : List UInt8) : (l.take (spanD base m l)).all (digB base) = true := by
  induction m generalizing l with
  | zero => simp [spanD]
  | succ m ih =>
    cases l with
    | nil => simp [spanD]
    | cons b t =>
      unfold spanD
      split
      · rename_i h
        rw [List.take_succ_cons, List.all_cons, h, ih t]
        rfl
      · simp
theorem spanD_full {base : Int} {m : Nat} {a : List UInt8} {b : UInt8} {r : List UInt8} (ha : a.all (digB base) = true) (hb : digB base b = false) (hm : a.length ≤ m) : spanD base m (a ++ b :: r) = a.length := by
  induction a generalizing m with
  | nil =>
    cases m with
    | zero => rfl
    | succ m => simp [spanD, hb]
  | cons x t ih =>
    cases m with
    | zero => simp at hm
    | succ m =>
      rw [List.all_cons, Bool.and_eq_true] at ha
      simp only [List.length_cons] at hm
      rw [List.cons_append]
      unfold spanD
      rw [if_pos ha.1, ih ha.2 (by omega)]
      rfl
theorem dig_semi (base : Int) : digB base 59 = false := by
  have : digV 59 = -1 := by decide
  simp [digB, this]
theorem mem_split_first {x : UInt8} : ∀ {l : List UInt8}, x ∈ l → ∃ a r, l = a ++ x :: r ∧ x ∉ a
  | [], h => absurd h (by simp)
  | b :: l, h => by
    by_cases hb : b = x
    · exact ⟨[], l, by rw [hb]; rfl, by simp⟩
    · obtain ⟨a, r, h1, h2⟩ := mem_split_first (l := l) (by simpa [Ne.symm hb] using h)
      exact ⟨b :: a, r, by rw [h1]; rfl, by simp [Ne.symm hb, h2]⟩
theorem first_unique {x : UInt8} : ∀ {a b r s : List UInt8}, a ++ x :: r = b ++ x :: s → x ∉ a → x ∉ b → a = b ∧ r = s
  | [], [], r, s, h, _, _ => by simpa using h
  | [], y :: b, r, s, h, _, hb => by simp at h; exact absurd h.1 (fun e => hb (by simp [e]))
  | y :: a, [], r, s, h, ha, _ => by simp at h; exact absurd h.1.symm (fun e => ha (by simp [e]))
  | y :: a, z :: b, r, s, h, ha, hb => by
    simp only [List.cons_append, List.cons.injEq] at h
    have := first_unique h.2 (fun e => ha (by simp [e])) (fun e => hb (by simp [e]))
    exact ⟨by rw [h.1, this.1], this.2⟩

theorem split_at {l : List UInt8} {k : Nat} {x : UInt8} (h : l[k]? = some x) : l = l.take k ++ x :: l.drop (k + 1) := by
  obtain ⟨h1, h2⟩ := List.getElem?_eq_some_iff.1 h
  conv => lhs; rw [← List.take_append_drop k l]
  rw [List.drop_eq_getElem_cons h1, h2]

/-- digits up to the first ; : both ways to read a number -/
theorem numR_eq {base : Int} {most : Nat} {a r : List UInt8} (ha : (59 : UInt8) ∉ a) : numR base most (a ++ 59 :: r) = if 1 ≤ a.length ∧ a.length ≤ most ∧ a.all (digB base) = true then (putL (valL base a 0), a.length) else ([], 0) := by
  unfold numR
  split
  · rename_i h
    rw [if_neg]
    rintro ⟨h1, h2, h3⟩
    have hk := spanD_full (r := r) h3 (dig_semi base) h2
    rw [hk] at h
    rcases h with h | h
    · omega
    · apply h
      rw [List.getElem?_append_right (Nat.le_refl _)]
      simp
  · rename_i h
    rw [not_or] at h
    obtain ⟨h1, h2⟩ := h
    have h2 : (a ++ 59 :: r)[spanD base most (a ++ 59 :: r)]? = some 59 := by simpa using h2
    have hle := spanD_le base most (a ++ 59 :: r)
    have hall := spanD_all base most (a ++ 59 :: r)
    have hlt := (List.getElem?_eq_some_iff.1 h2).1
    have hs : a ++ 59 :: r = (a ++ 59 :: r).take (spanD base most (a ++ 59 :: r)) ++ 59 :: (a ++ 59 :: r).drop (spanD base most (a ++ 59 :: r) + 1) := split_at h2
    have hu := first_unique hs ha (fun hm => by
      have := List.all_eq_true.1 hall _ hm
      rw [dig_semi] at this
      cases this)
    obtain ⟨hu1, -⟩ := hu
    have hlen := congrArg List.length hu1
    rw [List.length_take] at hlen
    rw [← hu1] at hall ⊢
    have hk : spanD base most (a ++ 59 :: r) = a.length := by omega
    rw [if_pos ⟨by omega, by omega, hall⟩, hk]
theorem numR_no {base : Int} {most : Nat} {l : List UInt8} (h : (59 : UInt8) ∉ l) : numR base most l = ([], 0) := by
  unfold numR
  rw [if_pos]
  right
  intro hc
  exact h (List.mem_of_getElem? hc)

/-! what a reference says -/
def nameL : List (List UInt8 × List UInt8) := [([97, 109, 112], [38]), ([108, 116], [60]), ([103, 116], [62]), ([113, 117, 111, 116], [34]), ([97, 112, 111, 115], [39])]
def nameV (n : List UInt8) : List UInt8 := match nameL.find? (fun p => p.1 == n) with
  | some p => p.2
  | none => []
def saysP (name : List UInt8) : List UInt8 :=
  if hasPrefix name [35, 120] = true then numP 16 6 (name.drop 2) else if hasPrefix name [35] = true then numP 10 7 (name.drop 1) else nameV name
def refP (l : List UInt8) : List UInt8 × Nat :=
  if hasPrefix l [38] = true ∧ (cut l [59]).2.2 = true ∧ saysP ((cut l [59]).1.drop 1) ≠ [] then (saysP ((cut l [59]).1.drop 1), (cut l [59]).1.length + 1) else ([], 0)
def headR (l : List UInt8) : List UInt8 × Nat × Nat :=
  if hasPrefix l [38, 35, 120] = true then ((numR 16 6 (l.drop 3)).1, (numR 16 6 (l.drop 3)).2, 3) else if hasPrefix l [38, 35] = true then ((numR 10 7 (l.drop 2)).1, (numR 10 7 (l.drop 2)).2, 2) else ([], 0, 0)
def refR (l : List UInt8) : List UInt8 × Nat :=
  match nameL.find? (fun p => hasPrefix l (38 :: (p.1 ++ [59]))) with
  | some p => (p.2, p.1.length + 2)
  | none => if (headR l).1 = [] then ([], 0) else ((headR l).1, (headR l).2.2 + (headR l).2.1 + 1)

theorem index_semi (x : UInt8) : ∀ (a r : List UInt8), x ∉ a → index (a ++ x :: r) [x] = a.length
  | [], r, _ => by simp [index]
  | b :: a, r, h => by
    have hb : b ≠ x := fun e => h (by simp [e])
    have ih := index_semi x a r (fun e => h (by simp [e]))
    rw [List.cons_append]
    unfold index
    rw [ih]
    have h1 : ([x].isPrefixOf (b :: (a ++ x :: r))) = false := by simp [List.isPrefixOf, Ne.symm hb]
    have h2 : ((a.length : Int) == -1) = false := by rw [beq_eq_false_iff_ne]; omega
    simp [h1, h2]
theorem index_no (x : UInt8) : ∀ (l : List UInt8), x ∉ l → index l [x] = -1
  | [], _ => rfl
  | b :: l, h => by
    have hb : b ≠ x := fun e => h (by simp [e])
    have ih := index_no x l (fun e => h (by simp [e]))
    unfold index
    rw [ih]
    have h1 : ([x].isPrefixOf (b :: l)) = false := by simp [List.isPrefixOf, Ne.symm hb]
    simp [h1]
theorem cut_one {x : UInt8} {a r : List UInt8} (h : x ∉ a) : cut (a ++ x :: r) [x] = (a, r, true) := by
  unfold cut
  rw [index_semi x a r h, if_pos (by omega), Int.toNat_natCast]
  simp
theorem cut_no {x : UInt8} {l : List UInt8} (h : x ∉ l) : cut l [x] = (l, [], false) := by
  unfold cut
  rw [index_no x l h, if_neg (by decide)]

theorem pre_semi {n p r : List UInt8} (hn : (59 : UInt8) ∉ n) (hp : (59 : UInt8) ∉ p) : hasPrefix (n ++ 59 :: r) (p ++ [59]) = (p == n) := by
  rw [Bool.eq_iff_iff, hasPrefix, List.isPrefixOf_iff_prefix, beq_iff_eq]
  constructor
  · rintro ⟨t, ht⟩
    rw [List.append_assoc, List.singleton_append] at ht
    exact (first_unique ht hp hn).1
  · rintro rfl
    exact ⟨r, by simp⟩
theorem pre_name {n p r : List UInt8} (hp : (59 : UInt8) ∉ p) : hasPrefix (n ++ 59 :: r) p = hasPrefix n p := by
  rw [Bool.eq_iff_iff, hasPrefix, hasPrefix, List.isPrefixOf_iff_prefix, List.isPrefixOf_iff_prefix]
  constructor
  · intro h
    rcases Nat.le_total p.length n.length with hl | hl
    · exact List.prefix_of_prefix_length_le h (List.prefix_append _ _) hl
    · rcases Nat.lt_or_ge n.length p.length with hlt | hge
      · exfalso
        obtain ⟨t, ht⟩ := h
        have : (p ++ t)[n.length]? = some 59 := by rw [ht, List.getElem?_append_right (Nat.le_refl _)]; simp
        rw [List.getElem?_append_left hlt] at this
        exact hp (List.mem_of_getElem? this)
      · exact List.prefix_of_prefix_length_le h (List.prefix_append _ _) hge
  · intro h
    exact h.trans (List.prefix_append _ _)

theorem find_names {n r : List UInt8} (hn : (59 : UInt8) ∉ n) : nameL.find? (fun p => hasPrefix (38 :: (n ++ 59 :: r)) (38 :: (p.1 ++ [59]))) = nameL.find? (fun p => p.1 == n) := by
  have h1 : ∀ p : List UInt8, (59 : UInt8) ∉ p → hasPrefix (38 :: (n ++ 59 :: r)) (38 :: (p ++ [59])) = (p == n) := fun p hp => by
    rw [← pre_semi (r := r) hn hp]
    simp [hasPrefix, List.isPrefixOf]
  unfold nameL
  simp only [List.find?_cons]
  rw [h1 _ (by decide), h1 _ (by decide), h1 _ (by decide), h1 _ (by decide), h1 _ (by decide)]
  simp only [List.find?_nil]

/-- a reference, as it stands -/
theorem refP_of {n r : List UInt8} (hn : (59 : UInt8) ∉ n) : refP (38 :: (n ++ 59 :: r)) = if saysP n = [] then ([], 0) else (saysP n, n.length + 2) := by
  unfold refP
  have hc : cut (38 :: (n ++ 59 :: r)) [59] = (38 :: n, r, true) := by
    have := cut_one (x := 59) (a := 38 :: n) (r := r) (by simp [hn])
    simpa using this
  rw [hc]
  have hp : hasPrefix (38 :: (n ++ 59 :: r)) [38] = true := by simp [hasPrefix, List.isPrefixOf]
  simp only [hp, List.drop_succ_cons, List.drop_zero, List.length_cons, true_and]
  by_cases h : saysP n = []
  · simp [h]
  · simp [h]
theorem refP_head {b : UInt8} {l : List UInt8} (h : b ≠ 38) : refP (b :: l) = ([], 0) := by
  unfold refP
  have hp : hasPrefix (b :: l) [38] = false := by simp [hasPrefix, List.isPrefixOf, Ne.symm h]
  simp [hp]
theorem refP_nil : refP [] = ([], 0) := by decide
theorem refP_no {l : List UInt8} (h : (59 : UInt8) ∉ l) : refP l = ([], 0) := by
  unfold refP
  rw [cut_no h]
  simp

theorem numP_one {base : Int} {most : Nat} {a : List UInt8} : numP base most a = (if 1 ≤ a.length ∧ a.length ≤ most ∧ a.all (digB base) = true then (putL (valL base a 0), a.length) else ([], 0)).1 := by
  unfold numP
  split <;> rfl

theorem refR_eq (l : List UInt8) : refR l = refP l := by
  by_cases hsemi : (59 : UInt8) ∈ l
  · obtain ⟨a, r, rfl, ha⟩ := mem_split_first hsemi
    cases a with
    | nil =>
      rw [List.nil_append, refP_head (by decide)]
      rfl
    | cons b n =>
      by_cases hb : b = 38
      · subst hb
        have hn : (59 : UInt8) ∉ n := fun e => ha (by simp [e])
        rw [List.cons_append, refP_of hn]
        unfold refR
        rw [find_names hn]
        cases hf : nameL.find? (fun p => p.1 == n) with
        | some p =>
          have hv : nameV n = p.2 := by unfold nameV; rw [hf]
          have hmem := List.mem_of_find?_eq_some hf
          have hpn : p.1 = n := by simpa using List.find?_some hf
          have h35 : hasPrefix n [35, 120] = false ∧ hasPrefix n [35] = false ∧ p.2 ≠ [] := by
            subst hpn
            simp only [nameL, List.mem_cons, List.not_mem_nil, or_false] at hmem
            rcases hmem with rfl | rfl | rfl | rfl | rfl <;> decide
          have hs : saysP n = p.2 := by
            unfold saysP
            rw [h35.1, h35.2.1, hv]
            simp
          simp only [hs, if_neg h35.2.2, hpn]
        | none =>
          have hv : nameV n = [] := by unfold nameV; rw [hf]
          have e1 : hasPrefix (38 :: (n ++ 59 :: r)) [38, 35, 120] = hasPrefix n [35, 120] := by
            rw [← pre_name (n := n) (p := [35, 120]) (r := r) (by decide)]
            simp [hasPrefix, List.isPrefixOf]
          have e2 : hasPrefix (38 :: (n ++ 59 :: r)) [38, 35] = hasPrefix n [35] := by
            rw [← pre_name (n := n) (p := [35]) (r := r) (by decide)]
            simp [hasPrefix, List.isPrefixOf]
          simp only [headR, saysP, e1, e2]
          by_cases hx : hasPrefix n [35, 120] = true
          · obtain ⟨t, rfl⟩ := List.isPrefixOf_iff_prefix.1 hx
            have ht : (59 : UInt8) ∉ t := fun e => hn (by simp [e])
            simp only [hx, if_true]
            have hd : List.drop 3 (38 :: ([35, 120] ++ t ++ 59 :: r)) = t ++ 59 :: r := by simp
            rw [hd, numR_eq ht]
            have hd2 : List.drop 2 ([35, 120] ++ t) = t := by simp
            rw [hd2, numP_one]
            split
            · simp only [List.length_append, List.length_cons, List.length_nil]
              split
              · rfl
              · simp only [Prod.mk.injEq, true_and]; omega
            · rfl
          · have hx' : hasPrefix n [35, 120] = false := by simpa using hx
            simp only [hx', Bool.false_eq_true, if_false]
            by_cases hd : hasPrefix n [35] = true
            · obtain ⟨t, rfl⟩ := List.isPrefixOf_iff_prefix.1 hd
              have ht : (59 : UInt8) ∉ t := fun e => hn (by simp [e])
              simp only [hd, if_true]
              have hd1 : List.drop 2 (38 :: ([35] ++ t ++ 59 :: r)) = t ++ 59 :: r := by simp
              rw [hd1, numR_eq ht]
              have hd2 : List.drop 1 ([35] ++ t) = t := by simp
              rw [hd2, numP_one]
              split
              · simp only [List.length_append, List.length_cons, List.length_nil]
                split
                · rfl
                · simp only [Prod.mk.injEq, true_and]; omega
              · rfl
            · have hd' : hasPrefix n [35] = false := by simpa using hd
              simp only [hd', hv, Bool.false_eq_true, if_false, if_true]
      · rw [List.cons_append, refP_head hb]
        have hno : ∀ p : List UInt8, hasPrefix (b :: (n ++ 59 :: r)) (38 :: p) = false := fun p => by simp [hasPrefix, List.isPrefixOf, Ne.symm hb]
        unfold refR nameL headR
        simp only [List.find?_cons, hno, List.find?_nil, Bool.false_eq_true, if_false, if_true]
  · rw [refP_no hsemi]
    have hno : ∀ p : List UInt8, hasPrefix l (38 :: (p ++ [59])) = false := fun p => by
      rw [Bool.eq_false_iff]
      intro h
      obtain ⟨t, ht⟩ := List.isPrefixOf_iff_prefix.1 h
      exact hsemi (by rw [← ht]; simp)
    unfold refR nameL headR
    simp only [List.find?_cons, hno, List.find?_nil]
    rw [numR_no (fun h => hsemi (List.mem_of_mem_drop h)), numR_no (fun h => hsemi (List.mem_of_mem_drop h))]
    split
    · rfl
    · split <;> rfl
end Go.Proofs.YtalbehjjgdedcaaGreatDoor
