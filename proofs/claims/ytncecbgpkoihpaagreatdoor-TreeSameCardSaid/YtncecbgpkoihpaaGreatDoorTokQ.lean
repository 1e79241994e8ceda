/- Tokens in plain Lean: what is read of a text stays, whatever stands behind it. -/
import Derived.Test.YtncecbgpkoihpaaGreatDoorTokPa
namespace Go.Proofs.YtncecbgpkoihpaaGreatDoor
open Go.Lib
theorem takeWhile_mem {q : UInt8} : ∀ {r : List UInt8}, q ∈ r → (r.takeWhile (· != q)).length < r.length
 | [], h => by cases h
 | b :: t, hm => by
   rw [List.takeWhile_cons]
   split
   · rename_i hb
     have hb : b ≠ q := by simpa using hb
     have := takeWhile_mem (q := q) (r := t) (by
      rcases List.mem_cons.1 hm with h | h
      · exact absurd h.symm hb
      · exact h)
     simp only [List.length_cons]
     omega
   · simp
theorem takeWhile_all_ : ∀ {q : UInt8} {r : List UInt8}, q ∉ r → r.takeWhile (· != q) = r
 | _, [], _ => rfl
 | q, b :: t, h => by
   rw [List.takeWhile_cons, if_pos (by simp only [bne_iff_ne, ne_eq]; intro e; exact h (by simp [e])), takeWhile_all_ (fun hm => h (by simp [hm]))]
theorem nB_all {l : List UInt8} {i : Nat} (h : i < nB l) : ∃ b, l[i]? = some b ∧ blankB b = true := by
 unfold nB at h
 induction l generalizing i with
 | nil => simp at h
 | cons b t ih =>
   rw [List.takeWhile_cons] at h
   split at h
   · rename_i hb
     cases i with
     | zero => exact ⟨b, rfl, hb⟩
     | succ i => exact ih (by simpa using h)
   · simp at h
theorem nB_end {l : List UInt8} {b : UInt8} (h : l[nB l]? = some b) : blankB b = false := by
 unfold nB at h
 induction l with
 | nil => simp at h
 | cons c t ih =>
   rw [List.takeWhile_cons] at h
   split at h
   · exact ih (by simpa using h)
   · rename_i hc
     simp at h
     subst h
     simpa using hc
theorem nB_cons (b : UInt8) (t : List UInt8) : nB (b :: t) = if blankB b = true then nB t + 1 else 0 := by
 unfold nB
 rw [List.takeWhile_cons]
 split <;> simp
theorem blank_not {b : UInt8} (h : blankB b = true) : isL b = false ∧ b ≠ 58 := by
 unfold blankB at h
 simp only [Bool.or_eq_true, beq_iff_eq] at h
 rcases h with ((h | h) | h) | h <;> subst h <;> decide
theorem lt_of_get {l : List UInt8} {i : Nat} {b : UInt8} (h : l[i]? = some b) : i < l.length := (List.getElem?_eq_some_iff.1 h).1
theorem plainN_mem {l : List UInt8} (h : plainN l = true) {b : UInt8} (hb : b ∈ l) : isL b = true := by
 obtain ⟨i, hi, he⟩ := List.getElem_of_mem hb
 obtain ⟨h1, h2⟩ := (plainN_iff l).1 h
 obtain ⟨c, hc, hL⟩ := lenN_all l i (by omega)
 rw [List.getElem?_eq_getElem hi, he] at hc
 cases hc
 exact hL
theorem splitN_bad {l : List UInt8} {b : UInt8} (hb : b ∈ l) (hL : isL b = false) (h58 : b ≠ 58) : splitN l = none := by
 refine splitN_none (fun hp => ?_) (fun i hi h1 h2 => ?_)
 · rw [plainN_mem hp hb] at hL; cases hL
 · rw [split_at hi] at hb
   rcases List.mem_append.1 hb with h | h
   · rw [plainN_mem h1 h] at hL; cases hL
   · rcases List.mem_cons.1 h with h | h
     · exact h58 h
     · rw [plainN_mem h2 h] at hL; cases hL
theorem beginN_ok {l : List UInt8} (h : 0 < beginN l) : ∃ r, splitN (l.take (beginN l)) = some r := by
 refine (splitN_begin (beginN_le l)).2 ⟨h, ?_⟩
 have hd : beginN l = if lenN (l.take 64) = 0 ∨ (l.take 64)[lenN (l.take 64)]? ≠ some 58 ∨ lenN ((l.take 64).drop (lenN (l.take 64) + 1)) = 0 then lenN (l.take 64) else lenN (l.take 64) + 1 + lenN ((l.take 64).drop (lenN (l.take 64) + 1)) := rfl
 by_cases hc : lenN (l.take 64) = 0 ∨ (l.take 64)[lenN (l.take 64)]? ≠ some 58 ∨ lenN ((l.take 64).drop (lenN (l.take 64) + 1)) = 0
 · rw [if_pos hc] at hd
   exact .inl (by omega)
 · rw [if_neg hc] at hd
   have hc1 : lenN (l.take 64) ≠ 0 := fun e => hc (.inl e)
   have hc2 : (l.take 64)[lenN (l.take 64)]? = some 58 := Classical.byContradiction fun e => hc (.inr (.inl e))
   have hc3 : lenN ((l.take 64).drop (lenN (l.take 64) + 1)) ≠ 0 := fun e => hc (.inr (.inr e))
   exact .inr ⟨by omega, hc2, by omega, by omega⟩
theorem attrP_iff {l : List UInt8} {a : RawA} {k : Nat} : attrP l = some (a, k) ↔ ∃ q r, 0 < beginN l ∧ l[beginN l + nB (l.drop (beginN l))]? = some 61 ∧ l.drop (markAt l) = q :: r ∧ (q = 34 ∨ q = 39) ∧ q ∈ r ∧
 (60 : UInt8) ∉ r.takeWhile (· != q) ∧ a = ⟨l.take (beginN l), r.takeWhile (· != q), markAt l + 1⟩ ∧ k = markAt l + 1 + (r.takeWhile (· != q)).length + 1 := by
 unfold attrP
 constructor
 · intro h
   split at h
   · cases h
   · rename_i h1
     split at h
     · cases h
     · rename_i q r hd
       split at h
       · rename_i hc
         simp only [Option.some.injEq, Prod.mk.injEq] at h
         refine ⟨q, r, ?_, Classical.byContradiction fun e => h1 (.inr e), hd, hc.1, hc.2.1, hc.2.2, h.1.symm, h.2.symm⟩
         rcases Nat.eq_zero_or_pos (beginN l) with h0 | h0
         · exact absurd (.inl h0) h1
         · exact h0
       · cases h
 · rintro ⟨q, r, h1, h2, h3, h4, h5, h6, rfl, rfl⟩
   rw [if_neg (by rintro (h | h); omega; exact h h2), h3]
   simp only
   rw [if_pos ⟨h4, h5, h6⟩]
theorem attrsP_fuel : ∀ (f f' : Nat) (l : List UInt8) (at_ : Nat) (acc : List RawA), l.length < f → l.length < f' → attrsP f l at_ acc = attrsP f' l at_ acc
 | 0, _, _, _, _, h, _ => by omega
 | _ + 1, 0, _, _, _, _, h => by omega
 | f + 1, f' + 1, l, at_, acc, h, h' => by
   rw [attrsP, attrsP]
   split
   · rfl
   · split
     · rfl
     · split
       · rfl
       · cases ha : attrP (l.drop (nB l)) with
         | none => rfl
         | some x =>
           obtain ⟨a, k⟩ := x
           have := attrP_len ha
           rw [List.length_drop] at this
           exact attrsP_fuel f f' _ _ _ (by rw [List.length_drop]; omega) (by rw [List.length_drop]; omega)
def attrsS (l : List UInt8) (at_ : Nat) (acc : List RawA) : Option (Nat × List RawA × Nat) := attrsP (l.length + 1) l at_ acc
theorem attrsS_step (l : List UInt8) (at_ : Nat) (acc : List RawA) : attrsS l at_ acc =
 if l[nB l]? = some 62 then some (1, acc, at_ + nB l + 1)
 else if l[nB l]? = some 47 ∧ l[nB l + 1]? = some 62 then some (3, acc, at_ + nB l + 2)
 else if nB l = 0 ∨ l.length ≤ nB l then none
 else match attrP (l.drop (nB l)) with
  | none => none
  | some (a, k) => attrsS (l.drop (nB l + k)) (at_ + nB l + k) (acc ++ [⟨a.name, a.value, at_ + nB l + a.off⟩]) := by
 unfold attrsS
 rw [attrsP]
 split
 · rfl
 · split
   · rfl
   · split
     · rfl
     · cases ha : attrP (l.drop (nB l)) with
       | none => rfl
       | some x =>
         obtain ⟨a, k⟩ := x
         have := attrP_len ha
         rw [List.length_drop] at this
         exact attrsP_fuel _ _ _ _ _ (by rw [List.length_drop]; omega) (by rw [List.length_drop]; omega)
theorem tagP_eq (l : List UInt8) : tagP l =
 if l[1]? = some 47 then
  (if beginN (l.drop 2) = 0 ∨ l[2 + beginN (l.drop 2) + nB (l.drop (2 + beginN (l.drop 2)))]? ≠ some 62 then none
   else some (2, (l.drop 2).take (beginN (l.drop 2)), [], 2 + beginN (l.drop 2) + nB (l.drop (2 + beginN (l.drop 2))) + 1))
 else if beginN (l.drop 1) = 0 then none
 else match attrsS (l.drop (1 + beginN (l.drop 1))) (1 + beginN (l.drop 1)) [] with
  | none => none
  | some (kind, ats, k) => some (kind, (l.drop 1).take (beginN (l.drop 1)), ats, k) := by
 unfold tagP
 split
 · rfl
 · split
   · rfl
   · rename_i h1 h2
     unfold attrsS
     have hbl := beginN_le (l.drop 1)
     rw [List.length_drop] at hbl
     rw [attrsP_fuel l.length ((l.drop (1 + beginN (l.drop 1))).length + 1) _ _ _ (by rw [List.length_drop]; omega) (by omega)]
     cases attrsP ((l.drop (1 + beginN (l.drop 1))).length + 1) (l.drop (1 + beginN (l.drop 1))) (1 + beginN (l.drop 1)) [] <;> rfl
theorem attrsS_facts : ∀ (n : Nat) (l : List UInt8) (at_ : Nat) (acc : List RawA) (kind : Nat) (ats : List RawA) (k : Nat), l.length ≤ n → attrsS l at_ acc = some (kind, ats, k) →
 (kind = 1 ∨ kind = 3) ∧ at_ < k ∧ k ≤ at_ + l.length ∧ (∃ c, l[0]? = some c ∧ isL c = false ∧ c ≠ 58) ∧ (∃ more, ats = acc ++ more ∧ (∀ a ∈ more, at_ < a.off ∧ a.off + a.value.length ≤ k)) := by
 intro n
 induction n with
 | zero =>
   intro l at_ acc kind ats k h0 h
   have : l = [] := List.eq_nil_of_length_eq_zero (by omega)
   subst this
   rw [attrsS_step] at h
   simp [nB] at h
 | succ n ih =>
   intro l at_ acc kind ats k hn h
   have hfirst : ∀ c, l[nB l]? = some c → isL c = false ∧ c ≠ 58 → ∃ c, l[0]? = some c ∧ isL c = false ∧ c ≠ 58 := fun c hc hcc => by
    rcases Nat.eq_zero_or_pos (nB l) with h0 | h0
    · rw [h0] at hc; exact ⟨c, hc, hcc⟩
    · obtain ⟨b, hb, hB⟩ := nB_all h0
      exact ⟨b, hb, blank_not hB⟩
   rw [attrsS_step] at h
   split at h
   · rename_i h1
     have := lt_of_get h1
     simp only [Option.some.injEq, Prod.mk.injEq] at h
     obtain ⟨rfl, rfl, rfl⟩ := h
     exact ⟨.inl rfl, by omega, by omega, hfirst _ h1 (by decide), [], by simp, by simp⟩
   · split at h
     · rename_i h1
       have := lt_of_get h1.2
       simp only [Option.some.injEq, Prod.mk.injEq] at h
       obtain ⟨rfl, rfl, rfl⟩ := h
       exact ⟨.inr rfl, by omega, by omega, hfirst _ h1.1 (by decide), [], by simp, by simp⟩
     · split at h
       · cases h
       · rename_i h1
         have hp : 0 < nB l := by
          rcases Nat.eq_zero_or_pos (nB l) with h0 | h0
          · exact absurd (.inl h0) h1
          · exact h0
         have hlt : nB l < l.length := by
          rcases Nat.lt_or_ge (nB l) l.length with h0 | h0
          · exact h0
          · exact absurd (.inr h0) h1
         obtain ⟨b, hb, hB⟩ := nB_all hp
         cases ha : attrP (l.drop (nB l)) with
         | none => rw [ha] at h; cases h
         | some x =>
           obtain ⟨a, j⟩ := x
           rw [ha] at h
           simp only at h
           have hlen := attrP_len ha
           rw [List.length_drop] at hlen
           obtain ⟨q, r, _, _, h3, _, h5, _, ha7, hk8⟩ := attrP_iff.1 ha
           have hr := takeWhile_mem h5
           have h3l := congrArg List.length h3
           rw [List.length_drop, List.length_drop, List.length_cons] at h3l
           obtain ⟨g1, g2, g3, _, more, g5, g6⟩ := ih _ _ _ _ _ _ (by rw [List.length_drop]; omega) h
           rw [List.length_drop] at g3
           refine ⟨g1, by omega, by omega, ⟨b, hb, blank_not hB⟩, _ :: more, by rw [g5, List.append_assoc]; rfl, ?_⟩
           intro x hx
           rcases List.mem_cons.1 hx with rfl | hx
           · simp only
             rw [ha7]
             simp only
             omega
           · have := g6 x hx
             omega
theorem tagP_facts {l : List UInt8} {kind : Nat} {name : List UInt8} {ats : List RawA} {k : Nat} (h : tagP l = some (kind, name, ats, k)) :
 (1 ≤ kind ∧ kind ≤ 3) ∧ name ≠ [] ∧ 2 ≤ k ∧ k ≤ l.length ∧ (0 < ats.length → kind ≠ 2) ∧ (∀ a ∈ ats, a.off + a.value.length ≤ k) ∧ (∃ c, l[1]? = some c ∧ (c = 47 ∨ isF c = true)) := by
 rw [tagP_eq] at h
 split at h
 · rename_i h47
   split at h
   · cases h
   · rename_i hc
     have h62 : l[2 + beginN (l.drop 2) + nB (l.drop (2 + beginN (l.drop 2)))]? = some 62 := Classical.byContradiction fun e => hc (.inr e)
     have h0 : 0 < beginN (l.drop 2) := by
      rcases Nat.eq_zero_or_pos (beginN (l.drop 2)) with h0 | h0
      · exact absurd (.inl h0) hc
      · exact h0
     have := lt_of_get h62
     simp only [Option.some.injEq, Prod.mk.injEq] at h
     obtain ⟨rfl, rfl, rfl, rfl⟩ := h
     refine ⟨by omega, ?_, by omega, by omega, by simp, by simp, 47, h47, .inl rfl⟩
     intro e
     have := congrArg List.length e
     rw [List.length_take, List.length_drop, List.length_nil] at this
     omega
 · split at h
   · cases h
   · rename_i h1 h2
     have hbl := beginN_le (l.drop 1)
     rw [List.length_drop] at hbl
     cases ha : attrsS (l.drop (1 + beginN (l.drop 1))) (1 + beginN (l.drop 1)) [] with
     | none => rw [ha] at h; cases h
     | some x =>
       obtain ⟨kd, as', j⟩ := x
       rw [ha] at h
       simp only [Option.some.injEq, Prod.mk.injEq] at h
       obtain ⟨rfl, rfl, rfl, rfl⟩ := h
       obtain ⟨g1, g2, g3, g4, more, g5, g6⟩ := attrsS_facts _ _ _ _ _ _ _ (Nat.le_refl _) ha
       rw [List.length_drop] at g3
       refine ⟨by omega, ?_, by omega, by omega, fun _ => by omega, ?_, ?_⟩
       · intro e
         have := congrArg List.length e
         rw [List.length_take, List.length_drop, List.length_nil] at this
         omega
       · intro a hx
         rw [g5] at hx
         exact (g6 a (by simpa using hx)).2
       · have h0 : 0 < beginN (l.drop 1) := by omega
         obtain ⟨r, hr⟩ := beginN_ok h0
         cases hd : l.drop 1 with
         | nil => rw [hd] at h0; exact absurd h0 (by decide)
         | cons c t =>
           refine ⟨c, by
            have : (l.drop 1)[0]? = some c := by rw [hd]; rfl
            rwa [List.getElem?_drop] at this, .inr ?_⟩
           have h9 := ((splitN_begin (beginN_le (l.drop 1))).1 ⟨r, hr⟩).2
           have hpos : 0 < lenN ((l.drop 1).take 64) := by
            rcases h9 with h9 | h9 <;> omega
           rw [hd, List.take_succ_cons, lenN_cons] at hpos
           split at hpos
           · assumption
           · omega
theorem prefix_len {t l : List UInt8} (h : t.isPrefixOf l = true) : t.length ≤ l.length := (List.isPrefixOf_iff_prefix.1 h).length_le
theorem findP_len {t : List UInt8} : ∀ {l : List UInt8} {i : Nat}, findP t l = some i → i + t.length ≤ l.length
 | [], i, h => by simp [findP] at h
 | b :: l, i, h => by
   rw [findP] at h
   split at h
   · rename_i hp
     cases h
     have := prefix_len hp
     omega
   · cases hf : findP t l with
     | none => rw [hf] at h; cases h
     | some j =>
       rw [hf] at h
       simp only [Option.map_some, Option.some.injEq] at h
       have := findP_len hf
       simp only [List.length_cons]
       omega
theorem findP_index {t : List UInt8} (ht : t ≠ []) : ∀ l : List UInt8, index l t = match findP t l with | some i => (i : Int) | none => -1
 | [] => by
   cases t with
   | nil => exact absurd rfl ht
   | cons => rfl
 | b :: l => by
   rw [index, findP, findP_index ht l]
   split
   · rfl
   · cases findP t l with
     | none => rfl
     | some i =>
       simp only [Option.map_some]
       rw [if_neg (by simp only [beq_iff_eq]; omega)]
       exact (Int.natCast_add i 1).symm
theorem remarkP_le (l : List UInt8) : remarkP l ≤ l.length := by
 unfold remarkP
 split
 · rename_i h
   have := prefix_len h
   cases hf : findP [45, 45, 62] (l.drop 4) with
   | none => exact Nat.zero_le _
   | some i =>
     have h1 := findP_len hf
     rw [List.length_drop] at h1
     simp only [List.length_cons, List.length_nil] at h1 this ⊢
     omega
 · split
   · rename_i h
     have := prefix_len h
     cases hf : findP [63, 62] (l.drop 2) with
     | none => exact Nat.zero_le _
     | some i =>
       have h1 := findP_len hf
       rw [List.length_drop] at h1
       simp only [List.length_cons, List.length_nil] at h1 this ⊢
       omega
   · exact Nat.zero_le _
theorem remarkP_head {l : List UInt8} (h : 0 < remarkP l) : l.head? = some 60 := by
 unfold remarkP at h
 split at h
 · rename_i h1
   cases l with
   | nil => simp at h1
   | cons b l => simp only [List.isPrefixOf, Bool.and_eq_true, beq_iff_eq] at h1; rw [← h1.1]; rfl
 · split at h
   · rename_i h1
     cases l with
     | nil => simp at h1
     | cons b l => simp only [List.isPrefixOf, Bool.and_eq_true, beq_iff_eq] at h1; rw [← h1.1]; rfl
   · omega
end Go.Proofs.YtncecbgpkoihpaaGreatDoor
