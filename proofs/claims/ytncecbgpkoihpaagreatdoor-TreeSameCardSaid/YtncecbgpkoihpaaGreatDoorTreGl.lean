/- Trees in plain Lean: how many tokens there are, and how long their texts are. -/
import Derived.Test.YtncecbgpkoihpaaGreatDoorTreCd
import Derived.Test.YtncecbgpkoihpaaGreatDoorEntBc
namespace Go.Proofs.YtncecbgpkoihpaaGreatDoor
theorem dec_lenT {l t : List UInt8} (h : Dec l t) : t.length ≤ 4 * l.length := by
 induction h with
 | nil => simp
 | @cons l t h0 h1 _ ih =>
   have h2 := step_len l
   have h3 := (stepD_app h0 h1 []).2.2.1
   rw [List.length_drop] at ih
   rw [List.length_append]
   omega
def sumT : List Tok → Nat
 | [] => 0
 | x :: l => x.text.length + sumT l
theorem tokS_texts : ∀ (l : List UInt8) (at_ : Nat) (acc : List Tok), (tokS l at_ acc).2.2 = 0 → ∃ more, (tokS l at_ acc).1 = acc ++ more ∧ sumT more ≤ 4 * l.length ∧ more.length ≤ l.length := by
 refine tok_ind (fun at_ acc h => ?_) (fun l h0 h1 ih at_ acc h => ?_) (fun l h ih at_ acc h => ?_) (fun l p e h1 h2 h3 at_ acc h => ?_) (fun l kind name vs k h1 h2 h3 ih at_ acc h => ?_)
 · exact ⟨[], by simp [tokS_nil], by simp [sumT], by simp⟩
 · have hp := text_pos h0 h1
   have hle := takeWhile_le (· != 60) l
   rw [tokS_text h0 h1] at h ⊢
   by_cases he : (decodeR (l.takeWhile (· != 60))).2.2 ≠ 0
   · rw [if_pos he] at h; exact absurd h he
   · rw [if_neg he] at h ⊢
     obtain ⟨more, g1, g2, g3⟩ := ih _ _ h
     have hd := dec_lenT (dec_of_ok (Decidable.not_not.1 he))
     refine ⟨_ :: more, by rw [g1, List.append_assoc]; rfl, ?_, ?_⟩
     · rw [sumT]
       rw [List.length_drop] at g2
       simp only
       omega
     · rw [List.length_drop] at g3
       simp only [List.length_cons]
       omega
 · rename_i hr
   have := remarkP_le l
   rw [tokS_remark hr] at h ⊢
   obtain ⟨more, g1, g2, g3⟩ := ih _ _ h
   rw [List.length_drop] at g2 g3
   exact ⟨more, g1, by omega, by omega⟩
 · rw [tokS_tag h1 h2, h3] at h; exact absurd h (tagR_err h3).1
 · obtain ⟨-, -, f3, f4, -⟩ := tagR_ok h3
   rw [tokS_tag h1 h2, h3] at h ⊢
   obtain ⟨more, g1, g2, g3⟩ := ih _ _ h
   rw [List.length_drop] at g2 g3
   refine ⟨_ :: more, by rw [g1, List.append_assoc]; rfl, ?_, ?_⟩
   · rw [sumT]
     simp only [List.length_nil]
     omega
   · simp only [List.length_cons]
     omega
theorem ordT_facts {s : List UInt8} : ∀ {l : List Tok} {lo : Nat}, ordT s lo l → ∀ x ∈ l, (1 ≤ x.kind ∧ x.kind ≤ 4) ∧ x.attrs.length ≤ 32
 | [], _, _, x, hx => by cases hx
 | t :: r, lo, h, x, hx => by
   rw [ordT] at h
   rcases List.mem_cons.1 hx with rfl | hx
   · exact ⟨h.2.2.1, h.2.2.2.2.2.1⟩
   · exact ordT_facts h.2.2.2.2.2.2.2 x hx
theorem tokR_facts {s : List UInt8} (h : (tokR s).2.2 = 0) : (∀ x ∈ (tokR s).1, (1 ≤ x.kind ∧ x.kind ≤ 4) ∧ x.attrs.length ≤ 32) ∧ sumT (tokR s).1 ≤ 262144 ∧ (tokR s).1.length ≤ 65536 := by
 unfold tokR at h ⊢
 split
 · exact ⟨fun x hx => (by cases hx), by simp [sumT], by simp⟩
 · rename_i hs
   rw [if_neg hs] at h
   split
   · exact ⟨fun x hx => (by cases hx), by simp [sumT], by simp⟩
   · rename_i hv
     rw [if_neg hv] at h
     obtain ⟨m1, g1, g2⟩ := tokS_order s s 0 [] rfl h
     obtain ⟨m2, g3, g4, g5⟩ := tokS_texts s 0 [] h
     rw [g1, List.nil_append]
     refine ⟨fun x hx => ordT_facts g2 x hx, ?_, ?_⟩
     · rw [g1, List.nil_append, List.nil_append] at g3
       rw [g3]; omega
     · rw [g1, List.nil_append, List.nil_append] at g3
       rw [g3]; omega
theorem step_texts {b b' : BldM} {x : Tok} {c : Nat} (hs : stepM b x = .inl b') (h : ∀ t ∈ b.texts, t.size ≤ c) : ∀ t ∈ b'.texts, t.size ≤ c + x.text.length := by
 have hop : ∀ b2, opensM b x = .inl b2 → ∀ t ∈ b2.texts, t.size ≤ c + x.text.length := by
  intro b2 ho t ht
  unfold opensM at ho
  split at ho
  · cases ho
  · split at ho
    · cases ho
    · simp only [Sum.inl.injEq] at ho
      subst ho
      rcases List.mem_append.1 ht with ht | ht
      · have := h t ht; omega
      · rw [List.mem_singleton] at ht
        subst ht
        exact Nat.zero_le _
 unfold stepM at hs
 split at hs
 · exact hop _ hs
 · split at hs
   · unfold closesM at hs
     split at hs
     · cases hs
     · cases hs
       intro t ht
       have := h t ht; omega
   · split at hs
     · unfold emptyM at hs
       cases ho : opensM b x with
       | inr e => rw [ho] at hs; cases hs
       | inl b2 =>
         rw [ho] at hs
         cases hs
         exact hop b2 ho
     · unfold textM at hs
       split at hs
       · cases hs
         intro t ht
         rcases List.mem_or_eq_of_mem_set ht with ht | rfl
         · have := h t ht; omega
         · have h1 : (textOf b).size ≤ c := by
            unfold textOf
            cases hg : b.texts[b.inn.toNat]? with
            | none => exact Nat.zero_le _
            | some u => exact h u (List.mem_of_getElem? hg)
           have h2 : (bs x.text).size = x.text.length := by unfold bs; show x.text.toArray.size = _; simp
           rw [ByteArray.size_append]
           omega
       · split at hs
         · cases hs
           intro t ht
           have := h t ht; omega
         · cases hs
theorem textOf_le {b : BldM} {c : Nat} (h : ∀ t ∈ b.texts, t.size ≤ c) : (textOf b).size ≤ c := by
 unfold textOf
 cases hg : b.texts[b.inn.toNat]? with
 | none => exact Nat.zero_le _
 | some u => exact h u (List.mem_of_getElem? hg)
theorem sumT_append : ∀ (a b : List Tok), sumT (a ++ b) = sumT a + sumT b
 | [], b => by simp [sumT]
 | x :: a, b => by rw [List.cons_append, sumT, sumT, sumT_append a b]; omega
end Go.Proofs.YtncecbgpkoihpaaGreatDoor
