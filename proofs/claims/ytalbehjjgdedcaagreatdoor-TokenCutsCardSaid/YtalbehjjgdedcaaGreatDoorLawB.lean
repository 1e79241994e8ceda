/- token: any text is cut as the reference says; what is answered may be written over. -/
import Derived.Test.YtalbehjjgdedcaaGreatDoorLawA
import Derived.Test.YtalbehjjgdedcaaGreatDoorTokW
namespace Go.Proofs.YtalbehjjgdedcaaGreatDoor
open Go.RowKit Go.Lib
attribute [local go_sem ↓] Go.wp_at_zero Go.wp_at_succ

theorem is_tok (W : World) (x y : TokX) (hx : TokOk W x) (hy : RTokOk W y) (hm : x.m = y.m) :
    Calls Tryz.prog 14 #[.agg #[.int .u8 x.t.kind, .string x.t.name, .slice x.t.A x.t.m x.t.c, .string x.t.text, .int .i64 x.t.at_], .agg #[.int .u8 y.t.kind, .string y.t.name, .slice y.t.A y.t.m y.t.c, .string y.t.text, .int .i64 y.t.at_]] W
      fun e w' => e = .returned (.bool true) ∧ Fr (fun _ => False) W w' := by
  obtain ⟨a1, a2, a3, a4, a5, a6⟩ := hx
  obtain ⟨b1, b2, b3, b4, b5, L, b6, b7⟩ := hy
  have hk : y.t.kind = x.t.kind := by rw [b1, a1, hm]
  have hn : y.t.name = x.t.name := by rw [b2, a2, hm]
  have ht : y.t.text = x.t.text := by rw [b3, a3, hm]
  have ha : y.t.at_ = x.t.at_ := by rw [b4, a4, hm]
  have hl : y.t.m = x.t.m := by rw [b5, a5, hm]
  rw [hk, hn, ht, ha]
  rw [hl] at b6 ⊢
  exact is_true W _ _ _ _ _ _ _ _ _ _ L _ _ a6.rd b6.rd (fun k hk => a6.lt k hk) (fun k hk => b6.lt k hk) (by rw [b7, hm])

section
variable {w : World} {E : TypeId} {g off n cap : Nat}
/-- a token, stored over -/
theorem Own.zero5 {T : List TokV} (h : Own tokC w E (.slice (some ⟨g, off, none⟩) n cap) (some g) T) {i : Nat} (hi : i < T.length) :
    Own tokC (((((w.setCell ⟨g, off + i * 5, none⟩ (.int .u8 0)).setCell ⟨g, off + i * 5 + 1, none⟩ (.string ⟨#[]⟩)).setCell ⟨g, off + i * 5 + 2, none⟩ (.slice none 0 0)).setCell ⟨g, off + i * 5 + 3, none⟩ (.string ⟨#[]⟩)).setCell ⟨g, off + i * 5 + 4, none⟩ (.int .i64 0)) E
      (.slice (some ⟨g, off, none⟩) n cap) (some g) (T.set i ⟨0, ⟨#[]⟩, none, 0, 0, ⟨#[]⟩, 0⟩) := by
  have h0 := h.set1 (j := 0) hi (by decide) (u := .int .u8 0) (x' := { T[i] with kind := 0 }) (by rfl)
  have h1 := h0.set1 (i := i) (j := 1) (by simpa using hi) (by decide) (u := .string ⟨#[]⟩) (x' := { T[i] with kind := 0, name := ⟨#[]⟩ }) (by rw [List.getElem_set_self]; rfl)
  rw [List.set_set] at h1
  have h2 := h1.set1 (i := i) (j := 2) (by simpa using hi) (by decide) (u := .slice none 0 0) (x' := { T[i] with kind := 0, name := ⟨#[]⟩, A := none, m := 0, c := 0 }) (by rw [List.getElem_set_self]; rfl)
  rw [List.set_set] at h2
  have h3 := h2.set1 (i := i) (j := 3) (by simpa using hi) (by decide) (u := .string ⟨#[]⟩) (x' := { T[i] with kind := 0, name := ⟨#[]⟩, A := none, m := 0, c := 0, text := ⟨#[]⟩ }) (by rw [List.getElem_set_self]; rfl)
  rw [List.set_set] at h3
  have h4 := h3.set1 (i := i) (j := 4) (by simpa using hi) (by decide) (u := .int .i64 0) (x' := ⟨0, ⟨#[]⟩, none, 0, 0, ⟨#[]⟩, 0⟩) (by rw [List.getElem_set_self]; rfl)
  rw [List.set_set] at h4
  exact h4
/-- an attribute, stored over -/
theorem Own.zero2 {T : List (ByteArray × ByteArray)} (h : Own pairC w E (.slice (some ⟨g, off, none⟩) n cap) (some g) T) {i : Nat} (hi : i < T.length) :
    Own pairC ((w.setCell ⟨g, off + i * 2, none⟩ (.string ⟨#[]⟩)).setCell ⟨g, off + i * 2 + 1, none⟩ (.string ⟨#[]⟩)) E
      (.slice (some ⟨g, off, none⟩) n cap) (some g) (T.set i (⟨#[]⟩, ⟨#[]⟩)) := by
  have h0 := h.set1 (j := 0) hi (by decide) (u := .string ⟨#[]⟩) (x' := (⟨#[]⟩, T[i].2)) (by rfl)
  have h1 := h0.set1 (i := i) (j := 1) (by simpa using hi) (by decide) (u := .string ⟨#[]⟩) (x' := (⟨#[]⟩, ⟨#[]⟩)) (by rw [List.getElem_set_self]; rfl)
  rw [List.set_set] at h1
  exact h1
end
theorem fr5 (w : World) (g a b c d e : Nat) (u v x y z : Value) : Fr (fun k => k = g) w (((((w.setCell ⟨g, a, none⟩ u).setCell ⟨g, b, none⟩ v).setCell ⟨g, c, none⟩ x).setCell ⟨g, d, none⟩ y).setCell ⟨g, e, none⟩ z) :=
  ((((Fr.set_b w g a u).trans (Fr.set_b _ g b v)).trans (Fr.set_b _ g c x)).trans (Fr.set_b _ g d y)).trans (Fr.set_b _ g e z)
theorem fr2 (w : World) (g a b : Nat) (u v : Value) : Fr (fun k => k = g) w ((w.setCell ⟨g, a, none⟩ u).setCell ⟨g, b, none⟩ v) := (Fr.set_b w g a u).trans (Fr.set_b _ g b v)

/-- where the writing over stands: so many tokens are written over -/
structure CutI (w2 : World) (base : Nat) (v : Value) (o : Option Nat) (X : List TokX) (i : Nat) (wr : World) (T : List TokV) : Prop where
  own : Own tokC wr 33 v o T
  todo : T.drop i = (X.drop i).map (·.t)
  ok : ∀ x ∈ X.drop i, TokOk wr x
  fr : Fr (fun k => base ≤ k) w2 wr
/-- .. and so many attributes of the one at hand -/
structure CutA (w3 : World) (g : Nat) (wr : World) (v : Value) (P : List (ByteArray × ByteArray)) : Prop where
  own : Own pairC wr 38 v (some g) P
  fr : Fr (fun k => k = g) w3 wr

theorem TokX_attr {w : World} {x : TokX} (h : TokOk w x) : Own pairC w 38 (.slice x.t.A x.t.m x.t.c) x.oa (x.m.attrs.map toPair) := h.2.2.2.2.2
end Go.Proofs.YtalbehjjgdedcaaGreatDoor
