/- Tokens in plain Lean: what is read of a text stays, whatever stands behind it. -/
import Derived.Test.YtalbehjjgdedcaaGreatDoorTokP
namespace Go.Proofs.YtalbehjjgdedcaaGreatDoor
open Go.Lib

theorem takeWhile_app {p : UInt8 → Bool} : ∀ {l : List UInt8} (m : List UInt8), (l.takeWhile p).length < l.length → (l ++ m).takeWhile p = l.takeWhile p
  | [], _, h => by simp at h
  | b :: t, m, h => by
    rw [List.cons_append, List.takeWhile_cons, List.takeWhile_cons]
    rw [List.takeWhile_cons] at h
    split
    · rename_i hb
      rw [if_pos hb] at h
      rw [takeWhile_app m (by simpa using h)]
    · rfl
theorem takeWhile_mem {q : UInt8} : ∀ {r : List UInt8}, q ∈ r → (r.takeWhile (· != q)).length < r.length
  | [], h => by cases h
  | b :: t, hm => by
    rw [List.takeWhile_cons]
    split
    · rename_i hb
      have hb : b ≠ q := by simpa using hb
      have := takeWhile_mem (q := q) (r := t) (by
        rcases List.mem_cons.1 hm with h | h
        · exact absurd h.symm hb
        · exact h)
      simp only [List.length_cons]
      omega
    · simp
theorem takeWhile_all_ : ∀ {q : UInt8} {r : List UInt8}, q ∉ r → r.takeWhile (· != q) = r
  | _, [], _ => rfl
  | q, b :: t, h => by
    rw [List.takeWhile_cons, if_pos (by simp only [bne_iff_ne, ne_eq]; intro e; exact h (by simp [e])), takeWhile_all_ (fun hm => h (by simp [hm]))]
theorem nB_app {l : List UInt8} (m : List UInt8) (h : nB l < l.length) : nB (l ++ m) = nB l := by
  unfold nB
  rw [takeWhile_app m h]
theorem nB_all {l : List UInt8} {i : Nat} (h : i < nB l) : ∃ b, l[i]? = some b ∧ blankB b = true := by
  unfold nB at h
  induction l generalizing i with
  | nil => simp at h
  | cons b t ih =>
    rw [List.takeWhile_cons] at h
    split at h
    · rename_i hb
      cases i with
      | zero => exact ⟨b, rfl, hb⟩
      | succ i => exact ih (by simpa using h)
    · simp at h
theorem nB_end {l : List UInt8} {b : UInt8} (h : l[nB l]? = some b) : blankB b = false := by
  unfold nB at h
  induction l with
  | nil => simp at h
  | cons c t ih =>
    rw [List.takeWhile_cons] at h
    split at h
    · exact ih (by simpa using h)
    · rename_i hc
      simp at h
      subst h
      simpa using hc
theorem nB_cons (b : UInt8) (t : List UInt8) : nB (b :: t) = if blankB b = true then nB t + 1 else 0 := by
  unfold nB
  rw [List.takeWhile_cons]
  split <;> simp
theorem blank_not {b : UInt8} (h : blankB b = true) : isL b = false ∧ b ≠ 58 := by
  unfold blankB at h
  simp only [Bool.or_eq_true, beq_iff_eq] at h
  rcases h with ((h | h) | h) | h <;> subst h <;> decide
theorem lt_of_get {l : List UInt8} {i : Nat} {b : UInt8} (h : l[i]? = some b) : i < l.length := (List.getElem?_eq_some_iff.1 h).1
theorem get_app {l : List UInt8} {i : Nat} {b : UInt8} (h : l[i]? = some b) (m : List UInt8) : (l ++ m)[i]? = some b := by
  rw [List.getElem?_append_left (lt_of_get h)]; exact h

theorem plainN_mem {l : List UInt8} (h : plainN l = true) {b : UInt8} (hb : b ∈ l) : isL b = true := by
  obtain ⟨i, hi, he⟩ := List.getElem_of_mem hb
  obtain ⟨h1, h2⟩ := (plainN_iff l).1 h
  obtain ⟨c, hc, hL⟩ := lenN_all l i (by omega)
  rw [List.getElem?_eq_getElem hi, he] at hc
  cases hc
  exact hL
theorem splitN_bad {l : List UInt8} {b : UInt8} (hb : b ∈ l) (hL : isL b = false) (h58 : b ≠ 58) : splitN l = none := by
  refine splitN_none (fun hp => ?_) (fun i hi h1 h2 => ?_)
  · rw [plainN_mem hp hb] at hL; cases hL
  · rw [split_at hi] at hb
    rcases List.mem_append.1 hb with h | h
    · rw [plainN_mem h1 h] at hL; cases hL
    · rcases List.mem_cons.1 h with h | h
      · exact h58 h
      · rw [plainN_mem h2 h] at hL; cases hL
theorem beginN_ok {l : List UInt8} (h : 0 < beginN l) : ∃ r, splitN (l.take (beginN l)) = some r := by
  refine (splitN_begin (beginN_le l)).2 ⟨h, ?_⟩
  have hd : beginN l = if lenN (l.take 64) = 0 ∨ (l.take 64)[lenN (l.take 64)]? ≠ some 58 ∨ lenN ((l.take 64).drop (lenN (l.take 64) + 1)) = 0 then lenN (l.take 64) else lenN (l.take 64) + 1 + lenN ((l.take 64).drop (lenN (l.take 64) + 1)) := rfl
  by_cases hc : lenN (l.take 64) = 0 ∨ (l.take 64)[lenN (l.take 64)]? ≠ some 58 ∨ lenN ((l.take 64).drop (lenN (l.take 64) + 1)) = 0
  · rw [if_pos hc] at hd
    exact .inl (by omega)
  · rw [if_neg hc] at hd
    have hc1 : lenN (l.take 64) ≠ 0 := fun e => hc (.inl e)
    have hc2 : (l.take 64)[lenN (l.take 64)]? = some 58 := Classical.byContradiction fun e => hc (.inr (.inl e))
    have hc3 : lenN ((l.take 64).drop (lenN (l.take 64) + 1)) ≠ 0 := fun e => hc (.inr (.inr e))
    exact .inr ⟨by omega, hc2, by omega, by omega⟩
theorem beginN_app {l : List UInt8} (m : List UInt8) {b : UInt8} (hb : l[beginN l]? = some b) (hL : isL b = false) (h58 : b ≠ 58) : beginN (l ++ m) = beginN l := by
  have hlt := lt_of_get hb
  have hbl := beginN_le l
  have hno : ∀ k, beginN l < k → k ≤ min (l ++ m).length 64 → splitN ((l ++ m).take k) = none := fun k h1 h2 => by
    refine splitN_bad (b := b) ?_ hL h58
    refine List.mem_of_getElem? (i := beginN l) ?_
    rw [List.getElem?_take, if_pos h1]
    exact get_app hb m
  rcases Nat.eq_zero_or_pos (beginN l) with h0 | h0
  · rw [h0]
    exact beginN_zero (fun k h1 h2 => hno k (by omega) h2)
  · refine (beginN_is (n := beginN l) (by rw [List.length_append]; omega) h0 ?_ hno).symm
    rw [List.take_append_of_le_length (by omega)]
    exact beginN_ok h0
theorem beginN_name {n m : List UInt8} {r : List UInt8 × List UInt8} (hn : splitN n = some r) {b : UInt8} (hL : isL b = false) (h58 : b ≠ 58) : beginN (n ++ b :: m) = n.length := by
  have h64 : n.length ≤ 64 := by
    unfold splitN at hn
    split at hn
    · cases hn
    · omega
  have h0 : 0 < n.length := by
    cases n with
    | nil => simp [splitN, plainN, lenN] at hn
    | cons b t => simp
  refine (beginN_is (n := n.length) (by rw [List.length_append]; omega) h0 ⟨r, by rw [List.take_left]; exact hn⟩ (fun k h1 h2 => ?_)).symm
  refine splitN_bad (b := b) ?_ hL h58
  refine List.mem_of_getElem? (i := n.length) ?_
  rw [List.getElem?_take, if_pos h1, List.getElem?_append_right (Nat.le_refl _)]
  simp

theorem attrP_iff {l : List UInt8} {a : RawA} {k : Nat} : attrP l = some (a, k) ↔ ∃ q r, 0 < beginN l ∧ l[beginN l + nB (l.drop (beginN l))]? = some 61 ∧ l.drop (markAt l) = q :: r ∧ (q = 34 ∨ q = 39) ∧ q ∈ r ∧
    (60 : UInt8) ∉ r.takeWhile (· != q) ∧ a = ⟨l.take (beginN l), r.takeWhile (· != q), markAt l + 1⟩ ∧ k = markAt l + 1 + (r.takeWhile (· != q)).length + 1 := by
  unfold attrP
  constructor
  · intro h
    split at h
    · cases h
    · rename_i h1
      split at h
      · cases h
      · rename_i q r hd
        split at h
        · rename_i hc
          simp only [Option.some.injEq, Prod.mk.injEq] at h
          refine ⟨q, r, ?_, Classical.byContradiction fun e => h1 (.inr e), hd, hc.1, hc.2.1, hc.2.2, h.1.symm, h.2.symm⟩
          rcases Nat.eq_zero_or_pos (beginN l) with h0 | h0
          · exact absurd (.inl h0) h1
          · exact h0
        · cases h
  · rintro ⟨q, r, h1, h2, h3, h4, h5, h6, rfl, rfl⟩
    rw [if_neg (by rintro (h | h); omega; exact h h2), h3]
    simp only
    rw [if_pos ⟨h4, h5, h6⟩]
theorem at_name {l : List UInt8} (h : ∃ c, l[beginN l + nB (l.drop (beginN l))]? = some c ∧ isL c = false ∧ c ≠ 58) : ∃ b, l[beginN l]? = some b ∧ isL b = false ∧ b ≠ 58 := by
  obtain ⟨c, h, hL, h58⟩ := h
  rcases Nat.eq_zero_or_pos (nB (l.drop (beginN l))) with h0 | h0
  · rw [h0, Nat.add_zero] at h
    exact ⟨c, h, hL, h58⟩
  · obtain ⟨b, hb, hB⟩ := nB_all h0
    rw [List.getElem?_drop, Nat.add_zero] at hb
    exact ⟨b, hb, blank_not hB⟩
theorem nB_drop_app {l : List UInt8} (m : List UInt8) {n : Nat} {c : UInt8} (h : l[n + nB (l.drop n)]? = some c) : nB ((l ++ m).drop n) = nB (l.drop n) := by
  have := lt_of_get h
  rw [List.drop_append_of_le_length (by omega), nB_app m (by rw [List.length_drop]; omega)]
theorem attrP_app {l : List UInt8} {a : RawA} {k : Nat} (h : attrP l = some (a, k)) (m : List UInt8) : attrP (l ++ m) = some (a, k) := by
  obtain ⟨q, r, h1, h2, h3, h4, h5, h6, h7, h8⟩ := attrP_iff.1 h
  obtain ⟨b, hb, hL, h58⟩ := at_name ⟨61, h2, by decide, by decide⟩
  have hbe := beginN_app m hb hL h58
  have hn1 := nB_drop_app m h2
  have hlm : markAt l < l.length := by
    have := congrArg List.length h3
    rw [List.length_drop, List.length_cons] at this
    omega
  have h2l := lt_of_get h2
  have hn2 : nB ((l ++ m).drop (beginN l + nB (l.drop (beginN l)) + 1)) = nB (l.drop (beginN l + nB (l.drop (beginN l)) + 1)) := by
    rw [List.drop_append_of_le_length (by omega), nB_app m]
    rw [List.length_drop]
    unfold markAt at hlm
    omega
  have hm : markAt (l ++ m) = markAt l := by
    unfold markAt
    rw [hbe, hn1, hn2]
  refine attrP_iff.2 ⟨q, r ++ m, by rw [hbe]; exact h1, ?_, ?_, h4, by simp [h5], ?_, ?_, ?_⟩
  · rw [hbe, hn1]; exact get_app h2 m
  · rw [hm, List.drop_append_of_le_length (by omega), h3]; rfl
  · rw [takeWhile_app m (takeWhile_mem h5)]; exact h6
  · rw [takeWhile_app m (takeWhile_mem h5), hm, hbe, List.take_append_of_le_length (by omega)]; exact h7
  · rw [takeWhile_app m (takeWhile_mem h5), hm]; exact h8

theorem attrsP_fuel : ∀ (f f' : Nat) (l : List UInt8) (at_ : Nat) (acc : List RawA), l.length < f → l.length < f' → attrsP f l at_ acc = attrsP f' l at_ acc
  | 0, _, _, _, _, h, _ => by omega
  | _ + 1, 0, _, _, _, _, h => by omega
  | f + 1, f' + 1, l, at_, acc, h, h' => by
    rw [attrsP, attrsP]
    split
    · rfl
    · split
      · rfl
      · split
        · rfl
        · cases ha : attrP (l.drop (nB l)) with
          | none => rfl
          | some x =>
            obtain ⟨a, k⟩ := x
            have := attrP_len ha
            rw [List.length_drop] at this
            exact attrsP_fuel f f' _ _ _ (by rw [List.length_drop]; omega) (by rw [List.length_drop]; omega)
/-- attributes and end -/
def attrsS (l : List UInt8) (at_ : Nat) (acc : List RawA) : Option (Nat × List RawA × Nat) := attrsP (l.length + 1) l at_ acc
theorem attrsS_step (l : List UInt8) (at_ : Nat) (acc : List RawA) : attrsS l at_ acc =
    if l[nB l]? = some 62 then some (1, acc, at_ + nB l + 1)
    else if l[nB l]? = some 47 ∧ l[nB l + 1]? = some 62 then some (3, acc, at_ + nB l + 2)
    else if nB l = 0 ∨ l.length ≤ nB l then none
    else match attrP (l.drop (nB l)) with
      | none => none
      | some (a, k) => attrsS (l.drop (nB l + k)) (at_ + nB l + k) (acc ++ [⟨a.name, a.value, at_ + nB l + a.off⟩]) := by
  unfold attrsS
  rw [attrsP]
  split
  · rfl
  · split
    · rfl
    · split
      · rfl
      · cases ha : attrP (l.drop (nB l)) with
        | none => rfl
        | some x =>
          obtain ⟨a, k⟩ := x
          have := attrP_len ha
          rw [List.length_drop] at this
          exact attrsP_fuel _ _ _ _ _ (by rw [List.length_drop]; omega) (by rw [List.length_drop]; omega)
theorem tagP_eq (l : List UInt8) : tagP l =
    if l[1]? = some 47 then
      (if beginN (l.drop 2) = 0 ∨ l[2 + beginN (l.drop 2) + nB (l.drop (2 + beginN (l.drop 2)))]? ≠ some 62 then none
       else some (2, (l.drop 2).take (beginN (l.drop 2)), [], 2 + beginN (l.drop 2) + nB (l.drop (2 + beginN (l.drop 2))) + 1))
    else if beginN (l.drop 1) = 0 then none
    else match attrsS (l.drop (1 + beginN (l.drop 1))) (1 + beginN (l.drop 1)) [] with
      | none => none
      | some (kind, ats, k) => some (kind, (l.drop 1).take (beginN (l.drop 1)), ats, k) := by
  unfold tagP
  split
  · rfl
  · split
    · rfl
    · rename_i h1 h2
      unfold attrsS
      have hbl := beginN_le (l.drop 1)
      rw [List.length_drop] at hbl
      rw [attrsP_fuel l.length ((l.drop (1 + beginN (l.drop 1))).length + 1) _ _ _ (by rw [List.length_drop]; omega) (by omega)]
      cases attrsP ((l.drop (1 + beginN (l.drop 1))).length + 1) (l.drop (1 + beginN (l.drop 1))) (1 + beginN (l.drop 1)) [] <;> rfl
theorem attrsS_facts : ∀ (n : Nat) (l : List UInt8) (at_ : Nat) (acc : List RawA) (kind : Nat) (ats : List RawA) (k : Nat), l.length ≤ n → attrsS l at_ acc = some (kind, ats, k) →
    (kind = 1 ∨ kind = 3) ∧ at_ < k ∧ k ≤ at_ + l.length ∧ (∃ c, l[0]? = some c ∧ isL c = false ∧ c ≠ 58) ∧ (∃ more, ats = acc ++ more ∧ (∀ a ∈ more, at_ < a.off ∧ a.off + a.value.length ≤ k)) := by
  intro n
  induction n with
  | zero =>
    intro l at_ acc kind ats k h0 h
    have : l = [] := List.eq_nil_of_length_eq_zero (by omega)
    subst this
    rw [attrsS_step] at h
    simp [nB] at h
  | succ n ih =>
    intro l at_ acc kind ats k hn h
    have hfirst : ∀ c, l[nB l]? = some c → isL c = false ∧ c ≠ 58 → ∃ c, l[0]? = some c ∧ isL c = false ∧ c ≠ 58 := fun c hc hcc => by
      rcases Nat.eq_zero_or_pos (nB l) with h0 | h0
      · rw [h0] at hc; exact ⟨c, hc, hcc⟩
      · obtain ⟨b, hb, hB⟩ := nB_all h0
        exact ⟨b, hb, blank_not hB⟩
    rw [attrsS_step] at h
    split at h
    · rename_i h1
      have := lt_of_get h1
      simp only [Option.some.injEq, Prod.mk.injEq] at h
      obtain ⟨rfl, rfl, rfl⟩ := h
      exact ⟨.inl rfl, by omega, by omega, hfirst _ h1 (by decide), [], by simp, by simp⟩
    · split at h
      · rename_i h1
        have := lt_of_get h1.2
        simp only [Option.some.injEq, Prod.mk.injEq] at h
        obtain ⟨rfl, rfl, rfl⟩ := h
        exact ⟨.inr rfl, by omega, by omega, hfirst _ h1.1 (by decide), [], by simp, by simp⟩
      · split at h
        · cases h
        · rename_i h1
          have hp : 0 < nB l := by
            rcases Nat.eq_zero_or_pos (nB l) with h0 | h0
            · exact absurd (.inl h0) h1
            · exact h0
          have hlt : nB l < l.length := by
            rcases Nat.lt_or_ge (nB l) l.length with h0 | h0
            · exact h0
            · exact absurd (.inr h0) h1
          obtain ⟨b, hb, hB⟩ := nB_all hp
          cases ha : attrP (l.drop (nB l)) with
          | none => rw [ha] at h; cases h
          | some x =>
            obtain ⟨a, j⟩ := x
            rw [ha] at h
            simp only at h
            have hlen := attrP_len ha
            rw [List.length_drop] at hlen
            obtain ⟨q, r, _, _, h3, _, h5, _, ha7, hk8⟩ := attrP_iff.1 ha
            have hr := takeWhile_mem h5
            have h3l := congrArg List.length h3
            rw [List.length_drop, List.length_drop, List.length_cons] at h3l
            obtain ⟨g1, g2, g3, _, more, g5, g6⟩ := ih _ _ _ _ _ _ (by rw [List.length_drop]; omega) h
            rw [List.length_drop] at g3
            refine ⟨g1, by omega, by omega, ⟨b, hb, blank_not hB⟩, _ :: more, by rw [g5, List.append_assoc]; rfl, ?_⟩
            intro x hx
            rcases List.mem_cons.1 hx with rfl | hx
            · simp only
              rw [ha7]
              simp only
              omega
            · have := g6 x hx
              omega
theorem attrsS_app : ∀ (n : Nat) (l : List UInt8) (at_ : Nat) (acc : List RawA) (x : Nat × List RawA × Nat) (m : List UInt8), l.length ≤ n → attrsS l at_ acc = some x → attrsS (l ++ m) at_ acc = some x := by
  intro n
  induction n with
  | zero =>
    intro l at_ acc x m h0 h
    have : l = [] := List.eq_nil_of_length_eq_zero (by omega)
    subst this
    rw [attrsS_step] at h
    simp [nB] at h
  | succ n ih =>
    intro l at_ acc x m hn h
    have hlt : nB l < l.length := by
      rw [attrsS_step] at h
      split at h
      · rename_i h1; exact lt_of_get h1
      · split at h
        · rename_i h1; exact lt_of_get h1.1
        · split at h
          · cases h
          · rename_i h1
            rcases Nat.lt_or_ge (nB l) l.length with h0 | h0
            · exact h0
            · exact absurd (.inr h0) h1
    have hnb := nB_app m hlt
    have hg0 : (l ++ m)[nB l]? = l[nB l]? := List.getElem?_append_left hlt
    rw [attrsS_step] at h
    rw [attrsS_step, hnb, hg0]
    split at h
    · rename_i h1; rw [if_pos h1]; exact h
    · rename_i h1
      rw [if_neg h1]
      split at h
      · rename_i h2
        rw [if_pos ⟨h2.1, get_app h2.2 m⟩]
        exact h
      · rename_i h2
        split at h
        · cases h
        · rename_i h3
          cases ha : attrP (l.drop (nB l)) with
          | none => rw [ha] at h; cases h
          | some y =>
            obtain ⟨a, j⟩ := y
            rw [ha] at h
            simp only at h
            have hlen := attrP_len ha
            rw [List.length_drop] at hlen
            have h4 : ¬ ((l[nB l]? = some 47) ∧ (l ++ m)[nB l + 1]? = some 62) := by
              rintro ⟨e1, e2⟩
              obtain ⟨q, r, hb0, _⟩ := attrP_iff.1 ha
              have : beginN (l.drop (nB l)) = 0 := by
                refine beginN_zero (fun k hk1 hk2 => splitN_bad (b := 47) (List.mem_of_getElem? (i := 0) ?_) (by decide) (by decide))
                rw [List.getElem?_take, if_pos hk1, List.getElem?_drop]
                exact e1
              omega
            rw [if_neg h4, if_neg (by rw [List.length_append]; omega), List.drop_append_of_le_length (by omega), attrP_app ha m]
            simp only
            rw [List.drop_append_of_le_length (by omega)]
            exact ih _ _ _ _ _ (by rw [List.length_drop]; omega) h
theorem tagP_facts {l : List UInt8} {kind : Nat} {name : List UInt8} {ats : List RawA} {k : Nat} (h : tagP l = some (kind, name, ats, k)) :
    (1 ≤ kind ∧ kind ≤ 3) ∧ name ≠ [] ∧ 2 ≤ k ∧ k ≤ l.length ∧ (0 < ats.length → kind ≠ 2) ∧ (∀ a ∈ ats, a.off + a.value.length ≤ k) ∧ (∃ c, l[1]? = some c ∧ (c = 47 ∨ isF c = true)) := by
  rw [tagP_eq] at h
  split at h
  · rename_i h47
    split at h
    · cases h
    · rename_i hc
      have h62 : l[2 + beginN (l.drop 2) + nB (l.drop (2 + beginN (l.drop 2)))]? = some 62 := Classical.byContradiction fun e => hc (.inr e)
      have h0 : 0 < beginN (l.drop 2) := by
        rcases Nat.eq_zero_or_pos (beginN (l.drop 2)) with h0 | h0
        · exact absurd (.inl h0) hc
        · exact h0
      have := lt_of_get h62
      simp only [Option.some.injEq, Prod.mk.injEq] at h
      obtain ⟨rfl, rfl, rfl, rfl⟩ := h
      refine ⟨by omega, ?_, by omega, by omega, by simp, by simp, 47, h47, .inl rfl⟩
      intro e
      have := congrArg List.length e
      rw [List.length_take, List.length_drop, List.length_nil] at this
      omega
  · split at h
    · cases h
    · rename_i h1 h2
      have hbl := beginN_le (l.drop 1)
      rw [List.length_drop] at hbl
      cases ha : attrsS (l.drop (1 + beginN (l.drop 1))) (1 + beginN (l.drop 1)) [] with
      | none => rw [ha] at h; cases h
      | some x =>
        obtain ⟨kd, as', j⟩ := x
        rw [ha] at h
        simp only [Option.some.injEq, Prod.mk.injEq] at h
        obtain ⟨rfl, rfl, rfl, rfl⟩ := h
        obtain ⟨g1, g2, g3, g4, more, g5, g6⟩ := attrsS_facts _ _ _ _ _ _ _ (Nat.le_refl _) ha
        rw [List.length_drop] at g3
        refine ⟨by omega, ?_, by omega, by omega, fun _ => by omega, ?_, ?_⟩
        · intro e
          have := congrArg List.length e
          rw [List.length_take, List.length_drop, List.length_nil] at this
          omega
        · intro a hx
          rw [g5] at hx
          exact (g6 a (by simpa using hx)).2
        · have h0 : 0 < beginN (l.drop 1) := by omega
          obtain ⟨r, hr⟩ := beginN_ok h0
          cases hd : l.drop 1 with
          | nil => rw [hd] at h0; exact absurd h0 (by decide)
          | cons c t =>
            refine ⟨c, by
              have : (l.drop 1)[0]? = some c := by rw [hd]; rfl
              rwa [List.getElem?_drop] at this, .inr ?_⟩
            have h9 := ((splitN_begin (beginN_le (l.drop 1))).1 ⟨r, hr⟩).2
            have hpos : 0 < lenN ((l.drop 1).take 64) := by
              rcases h9 with h9 | h9 <;> omega
            rw [hd, List.take_succ_cons, lenN_cons] at hpos
            split at hpos
            · assumption
            · omega
theorem tagP_app {l : List UInt8} {x : Nat × List UInt8 × List RawA × Nat} (h : tagP l = some x) (m : List UInt8) : tagP (l ++ m) = some x := by
  rw [tagP_eq] at h
  rw [tagP_eq]
  split at h
  · rename_i h47
    rw [if_pos (get_app h47 m)]
    split at h
    · cases h
    · rename_i hc
      have h62 : l[2 + beginN (l.drop 2) + nB (l.drop (2 + beginN (l.drop 2)))]? = some 62 := Classical.byContradiction fun e => hc (.inr e)
      have hl := lt_of_get h62
      have hdd : (l ++ m).drop 2 = l.drop 2 ++ m := List.drop_append_of_le_length (by omega)
      obtain ⟨b, hb, hL, h58⟩ := at_name (l := l.drop 2) ⟨62, by rw [List.drop_drop, List.getElem?_drop, ← Nat.add_assoc]; exact h62, by decide, by decide⟩
      have hbe : beginN ((l ++ m).drop 2) = beginN (l.drop 2) := by rw [hdd]; exact beginN_app m hb hL h58
      have hnb := nB_drop_app m (n := 2 + beginN (l.drop 2)) h62
      rw [hbe, hnb, if_neg (by rintro (e | e); exact hc (.inl e); exact e (get_app h62 m)), hdd, List.take_append_of_le_length (by rw [List.length_drop]; omega)]
      exact h
  · rename_i h47
    split at h
    · cases h
    · rename_i h0
      cases ha : attrsS (l.drop (1 + beginN (l.drop 1))) (1 + beginN (l.drop 1)) [] with
      | none => rw [ha] at h; cases h
      | some y =>
        rw [ha] at h
        obtain ⟨c, hc, hL, h58⟩ := (attrsS_facts _ _ _ _ y.1 y.2.1 y.2.2 (Nat.le_refl _) ha).2.2.2.1
        rw [List.getElem?_drop, Nat.add_zero] at hc
        have hl := lt_of_get hc
        have hdd : (l ++ m).drop 1 = l.drop 1 ++ m := List.drop_append_of_le_length (by omega)
        have hbe : beginN ((l ++ m).drop 1) = beginN (l.drop 1) := by
          rw [hdd]
          exact beginN_app m (b := c) (by rw [List.getElem?_drop]; exact hc) hL h58
        have h1 : (l ++ m)[1]? = l[1]? := List.getElem?_append_left (by omega)
        rw [h1, if_neg h47, hbe, if_neg h0, List.drop_append_of_le_length (by omega), attrsS_app _ _ _ _ _ m (Nat.le_refl _) ha]
        simp only at h ⊢
        rw [hdd, List.take_append_of_le_length (by rw [List.length_drop]; omega)]
        exact h

theorem prefix_app {t l : List UInt8} (m : List UInt8) (h : t.length ≤ l.length) : t.isPrefixOf (l ++ m) = t.isPrefixOf l := by
  induction t generalizing l with
  | nil => simp
  | cons b t ih =>
    cases l with
    | nil => simp at h
    | cons c l => simp only [List.cons_append, List.isPrefixOf]; rw [ih (by simpa using h)]
theorem prefix_len {t l : List UInt8} (h : t.isPrefixOf l = true) : t.length ≤ l.length := (List.isPrefixOf_iff_prefix.1 h).length_le
theorem findP_len {t : List UInt8} : ∀ {l : List UInt8} {i : Nat}, findP t l = some i → i + t.length ≤ l.length
  | [], i, h => by simp [findP] at h
  | b :: l, i, h => by
    rw [findP] at h
    split at h
    · rename_i hp
      cases h
      have := prefix_len hp
      omega
    · cases hf : findP t l with
      | none => rw [hf] at h; cases h
      | some j =>
        rw [hf] at h
        simp only [Option.map_some, Option.some.injEq] at h
        have := findP_len hf
        simp only [List.length_cons]
        omega
theorem findP_app {t : List UInt8} : ∀ {l : List UInt8} {i : Nat} (m : List UInt8), findP t l = some i → findP t (l ++ m) = some i
  | [], i, m, h => by simp [findP] at h
  | b :: l, i, m, h => by
    have hlen := findP_len h
    rw [findP] at h
    rw [List.cons_append, findP]
    have hp : t.isPrefixOf (b :: (l ++ m)) = t.isPrefixOf (b :: l) := by
      rw [← List.cons_append]
      exact prefix_app m (by omega)
    rw [hp]
    split at h
    · rename_i h1
      rw [if_pos h1]
      exact h
    · rename_i h1
      rw [if_neg h1]
      cases hf : findP t l with
      | none => rw [hf] at h; cases h
      | some j =>
        rw [hf] at h
        rw [findP_app m hf]
        exact h
theorem findP_index {t : List UInt8} (ht : t ≠ []) : ∀ l : List UInt8, index l t = match findP t l with | some i => (i : Int) | none => -1
  | [] => by
    cases t with
    | nil => exact absurd rfl ht
    | cons => rfl
  | b :: l => by
    rw [index, findP, findP_index ht l]
    split
    · rfl
    · cases findP t l with
      | none => rfl
      | some i =>
        simp only [Option.map_some]
        rw [if_neg (by simp only [beq_iff_eq]; omega)]
        exact (Int.natCast_add i 1).symm
theorem remarkP_le (l : List UInt8) : remarkP l ≤ l.length := by
  unfold remarkP
  split
  · rename_i h
    have := prefix_len h
    cases hf : findP [45, 45, 62] (l.drop 4) with
    | none => exact Nat.zero_le _
    | some i =>
      have h1 := findP_len hf
      rw [List.length_drop] at h1
      simp only [List.length_cons, List.length_nil] at h1 this ⊢
      omega
  · split
    · rename_i h
      have := prefix_len h
      cases hf : findP [63, 62] (l.drop 2) with
      | none => exact Nat.zero_le _
      | some i =>
        have h1 := findP_len hf
        rw [List.length_drop] at h1
        simp only [List.length_cons, List.length_nil] at h1 this ⊢
        omega
    · exact Nat.zero_le _
theorem remarkP_head {l : List UInt8} (h : 0 < remarkP l) : l.head? = some 60 := by
  unfold remarkP at h
  split at h
  · rename_i h1
    cases l with
    | nil => simp at h1
    | cons b l => simp only [List.isPrefixOf, Bool.and_eq_true, beq_iff_eq] at h1; rw [← h1.1]; rfl
  · split at h
    · rename_i h1
      cases l with
      | nil => simp at h1
      | cons b l => simp only [List.isPrefixOf, Bool.and_eq_true, beq_iff_eq] at h1; rw [← h1.1]; rfl
    · omega
theorem pre4 {l : List UInt8} (h : [60, 33, 45, 45].isPrefixOf l = true) : l[1]? = some 33 := by
  obtain ⟨r, rfl⟩ := List.isPrefixOf_iff_prefix.1 h; rfl
theorem pre2 {l : List UInt8} (h : [60, 63].isPrefixOf l = true) : l[1]? = some 63 := by
  obtain ⟨r, rfl⟩ := List.isPrefixOf_iff_prefix.1 h; rfl
theorem remarkP_app {l : List UInt8} (h : 0 < remarkP l) (m : List UInt8) : remarkP (l ++ m) = remarkP l := by
  unfold remarkP at h ⊢
  split at h
  · rename_i h1
    have hl := prefix_len h1
    rw [prefix_app m hl, h1, if_pos rfl, if_pos rfl]
    cases hf : findP [45, 45, 62] (l.drop 4) with
    | none => rw [hf] at h; exact absurd h (by simp)
    | some i =>
      rw [List.drop_append_of_le_length (by simpa using hl), findP_app m hf]
  · rename_i h1
    split at h
    · rename_i h2
      have hl := prefix_len h2
      have h3 : [60, 33, 45, 45].isPrefixOf (l ++ m) ≠ true := fun e => by
        have e1 := pre4 e
        have e2 := get_app (pre2 h2) m
        rw [e1] at e2
        cases e2
      rw [if_neg h3, prefix_app m hl, h2, if_pos rfl, if_neg h1, if_pos rfl]
      cases hf : findP [63, 62] (l.drop 2) with
      | none => rw [hf] at h; exact absurd h (by simp)
      | some i =>
        rw [List.drop_append_of_le_length (by simpa using hl), findP_app m hf]
    · omega
/-- a tag is no remark -/
theorem remarkP_tag {l : List UInt8} {c : UInt8} (h : l[1]? = some c) (hc : c = 47 ∨ isF c = true) : remarkP l = 0 := by
  unfold remarkP
  rw [if_neg (fun e => by
    have := pre4 e
    rw [h] at this
    cases this
    rcases hc with hc | hc
    · cases hc
    · revert hc; decide), if_neg (fun e => by
    have := pre2 e
    rw [h] at this
    cases this
    rcases hc with hc | hc
    · cases hc
    · revert hc; decide)]
end Go.Proofs.YtalbehjjgdedcaaGreatDoor
