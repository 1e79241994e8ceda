/- Trees in plain Lean: how many tokens there are, and how long their texts are. -/
import Derived.Test.YtncecbgpkoihpaaGreatDoorTreCd
import Derived.Test.YtncecbgpkoihpaaGreatDoorEntBc
namespace Go.Proofs.YtncecbgpkoihpaaGreatDoor
theorem zcf {l t : List UInt8} (h : Dec l t) : t.length ≤ 4 * l.length := by
 induction h with
 | nil => simp
 | @cons l t h0 h1 _ ih =>
   have h2 := zh7 l
   have h3 := (z1j h0 h1 []).2.2.1
   rw [List.length_drop] at ih
   rw [List.length_append]
   omega
def sumT : List Tok → Nat
 | [] => 0
 | x :: l => x.text.length + sumT l
theorem zj6 : ∀ (l : List UInt8) (at_ : Nat) (acc : List Tok), (tokS l at_ acc).2.2 = 0 → ∃ more, (tokS l at_ acc).1 = acc ++ more ∧ sumT more ≤ 4 * l.length ∧ more.length ≤ l.length := by
 refine zg2 (fun at_ acc h => ?_) (fun l h0 h1 ih at_ acc h => ?_) (fun l h ih at_ acc h => ?_) (fun l p e h1 h2 h3 at_ acc h => ?_) (fun l kind name vs k h1 h2 h3 ih at_ acc h => ?_)
 · exact ⟨[], by simp [z92], by simp [sumT], by simp⟩
 · have hp := z4t h0 h1
   have hle := z0v (· != 60) l
   rw [z5m h0 h1] at h ⊢
   by_cases he : (z04 (l.takeWhile (· != 60))).2.2 ≠ 0
   · rw [if_pos he] at h; exact absurd h he
   · rw [if_neg he] at h ⊢
     obtain ⟨more, g1, g2, g3⟩ := ih _ _ h
     have hd := zcf (z9s (Decidable.not_not.1 he))
     refine ⟨_ :: more, by rw [g1, List.append_assoc]; rfl, ?_, ?_⟩
     · rw [sumT]
       rw [List.length_drop] at g2
       simp only
       omega
     · rw [List.length_drop] at g3
       simp only [List.length_cons]
       omega
 · rename_i hr
   have := z35 l
   rw [z4u hr] at h ⊢
   obtain ⟨more, g1, g2, g3⟩ := ih _ _ h
   rw [List.length_drop] at g2 g3
   exact ⟨more, g1, by omega, by omega⟩
 · rw [z2h h1 h2, h3] at h; exact absurd h (z93 h3).1
 · obtain ⟨-, -, f3, f4, -⟩ := z6k h3
   rw [z2h h1 h2, h3] at h ⊢
   obtain ⟨more, g1, g2, g3⟩ := ih _ _ h
   rw [List.length_drop] at g2 g3
   refine ⟨_ :: more, by rw [g1, List.append_assoc]; rfl, ?_, ?_⟩
   · rw [sumT]
     simp only [List.length_nil]
     omega
   · simp only [List.length_cons]
     omega
theorem zbd {s : List UInt8} : ∀ {l : List Tok} {lo : Nat}, ordT s lo l → ∀ x ∈ l, (1 ≤ x.kind ∧ x.kind ≤ 4) ∧ x.attrs.length ≤ 32
 | [], _, _, x, hx => by cases hx
 | t :: r, lo, h, x, hx => by
   rw [ordT] at h
   rcases List.mem_cons.1 hx with rfl | hx
   · exact ⟨h.2.2.1, h.2.2.2.2.2.1⟩
   · exact zbd h.2.2.2.2.2.2.2 x hx
theorem z85 {s : List UInt8} (h : (tokR s).2.2 = 0) : (∀ x ∈ (tokR s).1, (1 ≤ x.kind ∧ x.kind ≤ 4) ∧ x.attrs.length ≤ 32) ∧ sumT (tokR s).1 ≤ 262144 ∧ (tokR s).1.length ≤ 65536 := by
 unfold tokR at h ⊢
 split
 · exact ⟨fun x hx => (by cases hx), by simp [sumT], by simp⟩
 · rename_i hs
   rw [if_neg hs] at h
   split
   · exact ⟨fun x hx => (by cases hx), by simp [sumT], by simp⟩
   · rename_i hv
     rw [if_neg hv] at h
     obtain ⟨m1, g1, g2⟩ := ziz s s 0 [] rfl h
     obtain ⟨m2, g3, g4, g5⟩ := zj6 s 0 [] h
     rw [g1, List.nil_append]
     refine ⟨fun x hx => zbd g2 x hx, ?_, ?_⟩
     · rw [g1, List.nil_append, List.nil_append] at g3
       rw [g3]; omega
     · rw [g1, List.nil_append, List.nil_append] at g3
       rw [g3]; omega
theorem zj7 {b b' : BldM} {x : Tok} {c : Nat} (hs : z0y b x = .inl b') (h : ∀ t ∈ b.texts, t.size ≤ c) : ∀ t ∈ b'.texts, t.size ≤ c + x.text.length := by
 have hop : ∀ b2, z0c b x = .inl b2 → ∀ t ∈ b2.texts, t.size ≤ c + x.text.length := by
  intro b2 ho t ht
  unfold z0c at ho
  split at ho
  · cases ho
  · split at ho
    · cases ho
    · simp only [Sum.inl.injEq] at ho
      subst ho
      rcases List.mem_append.1 ht with ht | ht
      · have := h t ht; omega
      · rw [List.mem_singleton] at ht
        subst ht
        exact Nat.zero_le _
 unfold z0y at hs
 split at hs
 · exact hop _ hs
 · split at hs
   · unfold z14 at hs
     split at hs
     · cases hs
     · cases hs
       intro t ht
       have := h t ht; omega
   · split at hs
     · unfold z3g at hs
       cases ho : z0c b x with
       | inr e => rw [ho] at hs; cases hs
       | inl b2 =>
         rw [ho] at hs
         cases hs
         exact hop b2 ho
     · unfold z5a at hs
       split at hs
       · cases hs
         intro t ht
         rcases List.mem_or_eq_of_mem_set ht with ht | rfl
         · have := h t ht; omega
         · have h1 : (z0m b).size ≤ c := by
            unfold z0m
            cases hg : b.texts[b.inn.toNat]? with
            | none => exact Nat.zero_le _
            | some u => exact h u (List.mem_of_getElem? hg)
           have h2 : (bs x.text).size = x.text.length := by unfold bs; show x.text.toArray.size = _; simp
           rw [ByteArray.size_append]
           omega
       · split at hs
         · cases hs
           intro t ht
           have := h t ht; omega
         · cases hs
theorem zm2 {b : BldM} {c : Nat} (h : ∀ t ∈ b.texts, t.size ≤ c) : (z0m b).size ≤ c := by
 unfold z0m
 cases hg : b.texts[b.inn.toNat]? with
 | none => exact Nat.zero_le _
 | some u => exact h u (List.mem_of_getElem? hg)
theorem z6o : ∀ (a b : List Tok), sumT (a ++ b) = sumT a + sumT b
 | [], b => by simp [sumT]
 | x :: a, b => by rw [List.cons_append, sumT, sumT, z6o a b]; omega
end Go.Proofs.YtncecbgpkoihpaaGreatDoor
