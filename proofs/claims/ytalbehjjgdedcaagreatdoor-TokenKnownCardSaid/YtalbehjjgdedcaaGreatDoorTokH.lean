/- token: what stands next. -/
import Derived.Test.YtalbehjjgdedcaaGreatDoorTokF
import Derived.Test.YtalbehjjgdedcaaGreatDoorTokG
namespace Go.Proofs.YtalbehjjgdedcaaGreatDoor
open Go.RowKit Go.Lib
attribute [local go_sem ↓] Go.wp_at_zero Go.wp_at_succ

/-- one token: kind, name, attributes, text, how many bytes; else the place, and the error -/
def stepK (l : List UInt8) : (Nat × List UInt8 × List (List UInt8 × List UInt8) × List UInt8 × Nat) ⊕ (Nat × Int) :=
  if l.head? = some 60 then match tagR l with
    | .inr x => .inr x
    | .inl (kind, name, vs, k) => .inl (kind, name, vs, [], k)
  else if (decodeR (l.takeWhile (· != 60))).2.2 ≠ 0 then .inr ((decodeR (l.takeWhile (· != 60))).2.1, (decodeR (l.takeWhile (· != 60))).2.2)
  else .inl (4, [], [], (decodeR (l.takeWhile (· != 60))).1, (l.takeWhile (· != 60)).length)
theorem tokS_step {l : List UInt8} (h0 : l ≠ []) (hr : remarkP l = 0) (at_ : Nat) (acc : List Tok) : tokS l at_ acc = match stepK l with
    | .inr (p, e) => ([], at_ + p, e)
    | .inl (kd, nm, vs, tx, k) => tokS (l.drop k) (at_ + k) (acc ++ [⟨kd, nm, vs, tx, at_⟩]) := by
  unfold stepK
  by_cases hh : l.head? = some 60
  · rw [if_pos hh, tokS_tag hh hr]
    cases tagR l with
    | inr x => rfl
    | inl x => rfl
  · rw [if_neg hh, tokS_text h0 hh]
    split
    · rfl
    · rfl
theorem stepK_ok {l : List UInt8} (h0 : l ≠ []) {kd : Nat} {nm : List UInt8} {vs : List (List UInt8 × List UInt8)} {tx : List UInt8} {k : Nat} (h : stepK l = .inl (kd, nm, vs, tx, k)) : 0 < k ∧ k ≤ l.length ∧ vs.length ≤ 32 := by
  unfold stepK at h
  split at h
  · cases ht : tagR l with
    | inr x => rw [ht] at h; cases h
    | inl x =>
      obtain ⟨a, b, c, d⟩ := x
      rw [ht] at h
      simp only [Sum.inl.injEq, Prod.mk.injEq] at h
      obtain ⟨rfl, rfl, rfl, -, rfl⟩ := h
      obtain ⟨-, -, g1, g2, -, g3, -⟩ := tagR_ok ht
      exact ⟨by omega, g2, g3⟩
  · rename_i hh
    split at h
    · cases h
    · simp only [Sum.inl.injEq, Prod.mk.injEq] at h
      obtain ⟨-, -, rfl, -, rfl⟩ := h
      exact ⟨text_pos h0 hh, takeWhile_le _ _, by simp⟩
theorem stepK_err {l : List UInt8} {p : Nat} {e : Int} (h : stepK l = .inr (p, e)) : e ≠ 0 ∧ p ≤ l.length := by
  unfold stepK at h
  split at h
  · cases ht : tagR l with
    | inr x =>
      rw [ht] at h
      cases h
      exact tagR_err ht
    | inl x => rw [ht] at h; cases h
  · split at h
    · rename_i he
      simp only [Sum.inr.injEq, Prod.mk.injEq] at h
      obtain ⟨rfl, rfl⟩ := h
      have := decodeR_place (l.takeWhile (· != 60))
      have := takeWhile_le (· != 60) l
      exact ⟨he, by omega⟩
    · cases h

theorem tag_no (b n tb : Nat) (kd : Int) (r nm tx : ByteArray) (av : Value) (ta : Int) (w : World) (h : CutAt w b n r) (ht : TokAt w tb kd nm av tx ta) (hne : ¬ b = tb) (hst : St w) (hfree : Free b) (hfreet : Free tb)
    (h0 : r.data.toList[0]? = some 60) (hg : tagP r.data.toList = none) :
    Calls Tryz.prog 74 #[.pointer (some ⟨b, 0, none⟩), .pointer (some ⟨tb, 0, none⟩)] w fun e w' => ∃ v r' k nm', e = .returned (.tuple #[v, .bool false]) ∧ CutAt w' b n r' ∧ TokAt w' tb k nm' av tx ta ∧ Fr (fun k => k = b ∨ k = tb) w w' :=
  (tag_any b n tb kd r nm tx av ta w h ht hne hst hfree hfreet h0).mono fun e w' ⟨hf, hm⟩ => by
    rw [hg] at hm
    obtain ⟨v, r', k, nm', h1, h2, h3⟩ := hm
    exact ⟨v, r', k, nm', h1, h2, h3, hf⟩
theorem tag_yes (b n tb : Nat) (kd : Int) (r nm tx : ByteArray) (av : Value) (ta : Int) (w : World) (h : CutAt w b n r) (ht : TokAt w tb kd nm av tx ta) (hne : ¬ b = tb) (hst : St w) (hfree : Free b) (hfreet : Free tb)
    (h0 : r.data.toList[0]? = some 60) {kind : Nat} {name : List UInt8} {ats : List RawA} {k : Nat} (hg : tagP r.data.toList = some (kind, name, ats, k)) :
    Calls Tryz.prog 74 #[.pointer (some ⟨b, 0, none⟩), .pointer (some ⟨tb, 0, none⟩)] w fun e w' => ∃ v o, e = .returned (.tuple #[v, .bool true]) ∧ CutAt w' b n ⟨(r.data.toList.drop k).toArray⟩ ∧ TokAt w' tb kind ⟨name.toArray⟩ av tx ta ∧
      Own rawC w' 171 v o (ats.map (rawV (n - r.data.toList.length))) ∧ (∀ k, o = some k → w.heap.size ≤ k ∧ k < w'.heap.size) ∧ Fr (fun k => k = b ∨ k = tb) w w' :=
  (tag_any b n tb kd r nm tx av ta w h ht hne hst hfree hfreet h0).mono fun e w' ⟨hf, hm⟩ => by
    rw [hg] at hm
    obtain ⟨v, o, h1, h2, h3, h4, h5⟩ := hm
    exact ⟨v, o, h1, h2, h3, h4, h5, hf⟩

/-- the whole token, stored over -/
theorem TokAt.store5 {w : World} {tb : Nat} {kind : Int} {name text : ByteArray} {av : Value} {ta : Int} (h : TokAt w tb kind name av text ta) (k : Int) (n : ByteArray) (v : Value) (x : ByteArray) (i : Int) :
    ∃ W, ((((w.setCell ⟨tb, 0, none⟩ (.int .u8 k)).setCell ⟨tb, 1, none⟩ (.string n)).setCell ⟨tb, 2, none⟩ v).setCell ⟨tb, 3, none⟩ (.string x)).setCell ⟨tb, 4, none⟩ (.int .i64 i) = W ∧ TokAt W tb k n v x i ∧ Fr (fun k => k = tb) w W :=
  ⟨_, rfl, ((((h.kind_ k).name_ n).attrs_ v).text_ x).at__ i, ((((Fr.set_b w tb 0 _).trans (Fr.set_b _ tb 1 _)).trans (Fr.set_b _ tb 2 _)).trans (Fr.set_b _ tb 3 _)).trans (Fr.set_b _ tb 4 _)⟩

theorem own_after {w w1 W2 : World} {b : Nat} {o : Obj} {v : Value} {oa : Option Nat} (f1 : Fr (fun _ => False) (w.alloc o) w1) (h : ∀ k, oa = some k → (w1.setCell ⟨b, 4, none⟩ v).heap.size ≤ k ∧ k < W2.heap.size) : ∀ k, oa = some k → w.heap.size < k ∧ k < W2.heap.size := fun k hk => by
  have h1 := h k hk
  have h2 := (Fr.set_b w1 b 4 v).size
  have h3 := f1.size
  simp at h3
  exact ⟨by omega, h1.2⟩
theorem attrsS_count : ∀ (n : Nat) (l : List UInt8) (at_ : Nat) (acc : List RawA) (kind : Nat) (ats : List RawA) (k : Nat), l.length ≤ n → attrsS l at_ acc = some (kind, ats, k) → ats.length ≤ acc.length + l.length := by
  intro n
  induction n with
  | zero =>
    intro l at_ acc kind ats k h0 h
    have : l = [] := List.eq_nil_of_length_eq_zero (by omega)
    subst this
    rw [attrsS_step] at h
    simp [nB] at h
  | succ n ih =>
    intro l at_ acc kind ats k hn h
    rw [attrsS_step] at h
    split at h
    · simp only [Option.some.injEq, Prod.mk.injEq] at h
      obtain ⟨rfl, rfl, rfl⟩ := h
      omega
    · split at h
      · simp only [Option.some.injEq, Prod.mk.injEq] at h
        obtain ⟨rfl, rfl, rfl⟩ := h
        omega
      · split at h
        · cases h
        · rename_i h1
          cases ha : attrP (l.drop (nB l)) with
          | none => rw [ha] at h; cases h
          | some x =>
            obtain ⟨a, j⟩ := x
            rw [ha] at h
            simp only at h
            have hlen := attrP_len ha
            rw [List.length_drop] at hlen
            have := ih _ _ _ _ _ _ (by rw [List.length_drop]; omega) h
            rw [List.length_drop, List.length_append] at this
            simp only [List.length_cons, List.length_nil] at this
            omega
theorem tagP_count {l : List UInt8} {kind : Nat} {name : List UInt8} {ats : List RawA} {k : Nat} (h : tagP l = some (kind, name, ats, k)) : ats.length ≤ l.length := by
  rw [tagP_eq] at h
  split at h
  · split at h
    · cases h
    · simp only [Option.some.injEq, Prod.mk.injEq] at h
      obtain ⟨-, -, rfl, -⟩ := h
      exact Nat.zero_le _
  · split at h
    · cases h
    · cases ha : attrsS (l.drop (1 + beginN (l.drop 1))) (1 + beginN (l.drop 1)) [] with
      | none => rw [ha] at h; cases h
      | some x =>
        obtain ⟨a, b, c⟩ := x
        rw [ha] at h
        simp only [Option.some.injEq, Prod.mk.injEq] at h
        obtain ⟨-, -, rfl, -⟩ := h
        have := attrsS_count _ _ _ _ _ _ _ (Nat.le_refl _) ha
        rw [List.length_drop] at this
        simp only [List.length_nil] at this
        omega
theorem indexByte_tw (l : List UInt8) (c : UInt8) : Lib.indexByte l c = if c ∈ l then ((l.takeWhile (· != c)).length : Int) else -1 := by
  have h0 := Lib.indexByte_ge l c
  have hm := indexByte_mem l c
  by_cases h : c ∈ l
  · rw [if_pos h]
    rw [decide_eq_true h] at hm
    have h1 : 0 ≤ Lib.indexByte l c := of_decide_eq_true hm
    obtain ⟨o, ho⟩ : ∃ o : Nat, Lib.indexByte l c = o := ⟨(Lib.indexByte l c).toNat, by omega⟩
    obtain ⟨g1, g2⟩ := Lib.indexByte_some ho
    rw [ho]
    have : l.takeWhile (· != c) = l.take o := by
      have hs := split_at g1
      have hno : c ∉ l.take o := fun hc => by
        obtain ⟨i, hi, he⟩ := List.getElem_of_mem hc
        rw [List.length_take] at hi
        refine g2 i (by omega) ?_
        rw [← he, List.getElem_take]
        exact List.getElem?_eq_getElem (by omega)
      rw [hs]
      conv => rhs; rw [← hs]
      exact takeWhile_first hno
    rw [this, List.length_take]
    have := (List.getElem?_eq_some_iff.1 g1).1
    omega
  · rw [if_neg h]
    rw [decide_eq_false h] at hm
    have h1 : ¬ 0 ≤ Lib.indexByte l c := of_decide_eq_false hm
    omega
/-- what token answers -/
def TokenPost (b n : Nat) (l : List UInt8) (w : World) (e : Ending) (w' : World) : Prop :=
  Fr (fun k => k = b) w w' ∧ match stepK l with
  | .inr (off, er) => ∃ (k : Int) (nm tx : ByteArray) (A : Option Addr) (m c : Nat) (i : Int) (r' : ByteArray), e = .returned (.tuple #[.agg #[.int .u8 k, .string nm, .slice A m c, .string tx, .int .i64 i], .int .i64 ((n - l.length + off : Nat) : Int), .int .i64 er]) ∧ CutAt w' b n r'
  | .inl (kd, nm, vs, tx, k) => ∃ (A : Option Addr) (c : Nat) (oa : Option Nat) (i2 : Int), e = .returned (.tuple #[.agg #[.int .u8 kd, .string ⟨nm.toArray⟩, .slice A vs.length c, .string ⟨tx.toArray⟩, .int .i64 ((n - l.length : Nat) : Int)], .int .i64 i2, .int .i64 0]) ∧
      CutAt w' b n ⟨(l.drop k).toArray⟩ ∧ Own pairC w' 38 (.slice A vs.length c) oa (vs.map toPair) ∧ (∀ k, oa = some k → w.heap.size ≤ k ∧ k < w'.heap.size)

set_option maxRecDepth 100000 in
set_option maxHeartbeats 8000000 in
theorem token_any (b n : Nat) (r : ByteArray) (w : World) (h : CutAt w b n r) (hst : St w) (hfree : Free b) (hn : n ≤ 70000) (h0 : 0 < r.size) :
    Calls Tryz.prog 40 #[.pointer (some ⟨b, 0, none⟩)] w fun e w' => TokenPost b n r.data.toList w e w' := by
  have hl : r.data.toList.length = r.size := rfl
  have hle := h.le
  have HB := hide h.lt
  have hi0 : (0 : Int) < r.size := by omega
  have hget := data_getElem_ r 0 h0
  have hfreet : Free w.heap.size := hst.free (Nat.le_refl _)
  have hbn : ¬ b = w.heap.size := by have := h.lt; omega
  have hbn' : ¬ w.heap.size = b := fun e => hbn e.symm
  obtain ⟨p, hp⟩ : ∃ p : Nat, n - r.size = p := ⟨_, rfl⟩
  have HA := hide (fun W hW => at_any b n r W hW)
  rw [hp] at HA
  have C0 := hide (h.same (Fr.alloc (Fr.refl (fun _ => False) w) (.cells #[.int .u8 0, .string ⟨#[]⟩, .slice none 0 0, .string ⟨#[]⟩, .int .i64 0] 33)))
  have T0 := hide (show TokAt (w.alloc (.cells #[.int .u8 0, .string ⟨#[]⟩, .slice none 0 0, .string ⟨#[]⟩, .int .i64 0] 33)) w.heap.size 0 ⟨#[]⟩ (.slice none 0 0) ⟨#[]⟩ 0 from ⟨heap_alloc_new w _⟩)
  have HST := hide (fun (W : World) (f : Fr (fun k => k = b ∨ k = w.heap.size) w W) => hst.fr f (fun k hk => by rcases hk with rfl | rfl; exact hfree; exact hfreet))
  clear h
  by_cases h60 : r[0]'h0 = 60
  · have hh : r.data.toList[0]? = some 60 := by rw [hget, h60]
    have hhd : r.data.toList.head? = some 60 := by rw [← hh, List.head?_eq_getElem?]
    have b60 : ((r[0]'h0).toNat : Int) = 60 := by rw [h60]; rfl
    have hsk : stepK r.data.toList = match tagR r.data.toList with
      | .inr x => .inr x
      | .inl (kind, name, vs, k) => .inl (kind, name, vs, [], k) := by unfold stepK; rw [if_pos hhd]
    cases hg : tagP r.data.toList with
    | none =>
      have hsk2 : stepK r.data.toList = .inr (0, 40) := by
        have : tagR r.data.toList = .inr (0, 40) := by unfold tagR; rw [hg]
        rw [hsk, this]
      have HSK := hide hsk2
      have HTG := hide (fun W kd (nm tx : ByteArray) av (ta : Int) hW ht hs => tag_no b n w.heap.size kd r nm tx av ta W hW ht hbn hs hfree hfreet hh hg)
      have HP := hide hp
      clear hsk hsk2 hg hh hhd hget h60 hl hp
      go_enter Tryz.func40, Tryz.ntmps40
      go_wp2_with (first
        | (go_at_call 73; refine (HA.out _ C0.out).mono ?_; rintro e w1 ⟨rfl, f1⟩; have t0 := T0.out.fr f1 (fun h => h); obtain ⟨y0, y1, y2, y3, y4, y5⟩ := t0.facts; have t1 := t0.at__ (p : Int); have c1 := (C0.out.same f1).fr (Fr.set_b w1 w.heap.size 4 (.int .i64 (p : Int))) hbn; have k1 := c1.c1; have g1 := hide ((((Fr.refl (fun k => k = b) w).alloc (.cells #[.int .u8 0, .string ⟨#[]⟩, .slice none 0 0, .string ⟨#[]⟩, .int .i64 0] 33)).trans f1.into).then_ (Fr.set_b w1 w.heap.size 4 (.int .i64 (p : Int))) (fun k h1 h2 => by omega)))
        | (go_at_call 74; refine (HTG.out _ _ _ _ _ _ c1 t1 (HST.out _ (g1.out.l))).mono ?_; rintro e w2 ⟨v, r', kk, nm', rfl, c2, t2, f2⟩; obtain ⟨z0, z1, z2, z3, z4, z5⟩ := t2.facts))
      obtain ⟨W, hW, t9, g9⟩ := t2.store5 kk nm' (.slice none 0 0) ⟨#[]⟩ (p : Int)
      rw [hW]
      obtain ⟨a0, a1, a2, a3, a4, -⟩ := t9.facts
      refine bodyPost_ret (v := .tuple #[.agg #[.int .u8 kk, .string nm', .slice none 0 0, .string ⟨#[]⟩, .int .i64 p], .int .i64 p, .int .i64 40]) (by simp [results, Tryz.results40, go_sem, a0, a1, a2, a3, a4]) rfl ?_
      refine ⟨((g1.out.l.trans f2).then_ g9 (fun k h1 h2 => .inr h2)).monoLt (fun k h1 h2 => by rcases h2 with h2 | h2; exact h2; omega), ?_⟩
      rw [HSK.out]
      exact ⟨kk, nm', ⟨#[]⟩, none, 0, 0, p, r', by rw [show n - r.data.toList.length + 0 = p from HP.out], c2.fr g9 hbn⟩
    | some x =>
      obtain ⟨kind, name, ats, k⟩ := x
      obtain ⟨tf1, tf2, tf3, tf4, tf5, tf6, -⟩ := tagP_facts hg
      have hty := fun W kd (nm tx : ByteArray) av (ta : Int) hW ht hs => tag_yes b n w.heap.size kd r nm tx av ta W hW ht hbn hs hfree hfreet hh hg
      rw [hl, hp] at hty
      obtain ⟨nn, hnn⟩ : ∃ nn : ByteArray, (⟨name.toArray⟩ : ByteArray) = nn := ⟨_, rfl⟩
      obtain ⟨r4, hr4⟩ : ∃ r4 : ByteArray, (⟨(r.data.toList.drop k).toArray⟩ : ByteArray) = r4 := ⟨_, rfl⟩
      rw [hnn, hr4] at hty
      have HTG := hide hty
      have hkn : k ≤ n := by omega
      have hats : ats.length ≤ 1000000 := by
        exact Nat.le_trans (tagP_count hg) (by omega)
      have HRD := hide (fun (W : World) (v : Value) (o : Option Nat) (ht : TokAt W w.heap.size kind nn (.slice none 0 0) ⟨#[]⟩ p) (hm : Own rawC W 171 v o (ats.map (rawV p))) (ho : ∀ k, o = some k → w.heap.size < k ∧ k < W.heap.size) (hs : St W) =>
        read_any w.heap.size p kind nn ⟨#[]⟩ p v ats (fun k => o = some k) W ht hm.rd (fun k hk => ⟨(ho k hk).2, by have := (ho k hk).1; omega⟩) hs hfreet hats (fun a ha => by have := tf6 a ha; omega))
      have htr : tagR r.data.toList = match readP ats with
        | .inr x => .inr x
        | .inl vs => if 32 < vs.length then .inr (0, 3) else .inl (kind, name, vs, k) := by unfold tagR; simp only [hg]; cases readP ats <;> rfl
      have HP := hide hp
      have HN := hide (And.intro hnn hr4)
      have HL := hide hl
      cases hrp : readP ats with
      | inr y =>
        obtain ⟨off, er⟩ := y
        rw [hrp] at htr
        have hsk2 : stepK r.data.toList = .inr (off, er) := by rw [hsk, htr]
        have HSK := hide hsk2
        rw [hrp] at HRD
        clear hsk hsk2 hg hh hhd hget h60 hl hp hty hnn hr4 hats htr tf1 tf2 tf3 tf4 tf5 tf6 hkn hrp
        go_enter Tryz.func40, Tryz.ntmps40
        go_wp2_with (first
          | (go_at_call 73; refine (HA.out _ C0.out).mono ?_; rintro e w1 ⟨rfl, f1⟩; have t0 := T0.out.fr f1 (fun h => h); obtain ⟨y0, y1, y2, y3, y4, y5⟩ := t0.facts; have t1 := t0.at__ (p : Int); have c1 := (C0.out.same f1).fr (Fr.set_b w1 w.heap.size 4 (.int .i64 (p : Int))) hbn; have k1 := c1.c1; have g1 := hide ((((Fr.refl (fun k => k = b) w).alloc (.cells #[.int .u8 0, .string ⟨#[]⟩, .slice none 0 0, .string ⟨#[]⟩, .int .i64 0] 33)).trans f1.into).then_ (Fr.set_b w1 w.heap.size 4 (.int .i64 (p : Int))) (fun k h1 h2 => by omega)))
          | (go_at_call 74; refine (HTG.out _ _ _ _ _ _ c1 t1 (HST.out _ (g1.out.l))).mono ?_; rintro e w2 ⟨v, o, rfl, c2, t2, m2, o2, f2⟩; have F2 := hide (g1.out.l.trans f2); have o2' := hide (own_after f1 o2))
          | (go_at_call 75; refine (HRD.out _ _ _ t2 m2 (fun k hk => ⟨(o2'.out k hk).1, (o2'.out k hk).2⟩) (HST.out _ F2.out)).mono ?_; rintro e w3 ⟨f3, rfl, A3, m3, c3, t3⟩; obtain ⟨z0, z1, z2, z3, z4, z5⟩ := t3.facts))
        obtain ⟨W, hW, t9, g9⟩ := t3.store5 kind nn (.slice A3 m3 c3) ⟨#[]⟩ (p : Int)
        rw [hW]
        obtain ⟨a0, a1, a2, a3, a4, -⟩ := t9.facts
        refine bodyPost_ret (v := .tuple #[.agg #[.int .u8 kind, .string nn, .slice A3 m3 c3, .string ⟨#[]⟩, .int .i64 p], .int .i64 ((p + off : Nat) : Int), .int .i64 er]) (by simp [results, Tryz.results40, go_sem, a0, a1, a2, a3, a4]) rfl ?_
        refine ⟨((F2.out.trans f3.r).then_ g9 (fun k h1 h2 => .inr h2)).monoLt (fun k h1 h2 => by rcases h2 with h2 | h2; exact h2; omega), ?_⟩
        rw [HSK.out]
        exact ⟨kind, nn, ⟨#[]⟩, A3, m3, c3, p, r4, by rw [show n - r.data.toList.length = p from HP.out], (c2.fr f3 hbn).fr g9 hbn⟩
      | inl vs =>
        rw [hrp] at htr
        simp only at htr
        rw [hrp] at HRD
        by_cases h32 : 32 < vs.length
        · rw [if_pos h32] at htr
          have hsk2 : stepK r.data.toList = .inr (0, 3) := by rw [hsk, htr]
          have HSK := hide hsk2
          have H32 := hide h32
          clear hsk hsk2 hg hh hhd hget h60 hl hp hty hnn hr4 hats htr tf1 tf2 tf3 tf4 tf5 tf6 hkn hrp h32
          go_enter Tryz.func40, Tryz.ntmps40
          go_wp2_with (first
            | (go_at_call 73; refine (HA.out _ C0.out).mono ?_; rintro e w1 ⟨rfl, f1⟩; have t0 := T0.out.fr f1 (fun h => h); obtain ⟨y0, y1, y2, y3, y4, y5⟩ := t0.facts; have t1 := t0.at__ (p : Int); have c1 := (C0.out.same f1).fr (Fr.set_b w1 w.heap.size 4 (.int .i64 (p : Int))) hbn; have k1 := c1.c1; have g1 := hide ((((Fr.refl (fun k => k = b) w).alloc (.cells #[.int .u8 0, .string ⟨#[]⟩, .slice none 0 0, .string ⟨#[]⟩, .int .i64 0] 33)).trans f1.into).then_ (Fr.set_b w1 w.heap.size 4 (.int .i64 (p : Int))) (fun k h1 h2 => by omega)))
            | (go_at_call 74; refine (HTG.out _ _ _ _ _ _ c1 t1 (HST.out _ (g1.out.l))).mono ?_; rintro e w2 ⟨v, o, rfl, c2, t2, m2, o2, f2⟩; have F2 := hide (g1.out.l.trans f2); have o2' := hide (own_after f1 o2))
            | (go_at_call 75; refine (HRD.out _ _ _ t2 m2 (fun k hk => ⟨(o2'.out k hk).1, (o2'.out k hk).2⟩) (HST.out _ F2.out)).mono ?_; rintro e w3 ⟨f3, rfl, A3, c3, oa, t3, own3, new3⟩; rw [if_pos H32.out]; obtain ⟨z0, z1, z2, z3, z4, z5⟩ := t3.facts))
          obtain ⟨W, hW, t9, g9⟩ := t3.store5 kind nn (.slice A3 vs.length c3) ⟨#[]⟩ (p : Int)
          rw [hW]
          obtain ⟨a0, a1, a2, a3, a4, -⟩ := t9.facts
          refine bodyPost_ret (v := .tuple #[.agg #[.int .u8 kind, .string nn, .slice A3 vs.length c3, .string ⟨#[]⟩, .int .i64 p], .int .i64 p, .int .i64 3]) (by simp [results, Tryz.results40, go_sem, a0, a1, a2, a3, a4]) rfl ?_
          refine ⟨((F2.out.trans f3.r).then_ g9 (fun k h1 h2 => .inr h2)).monoLt (fun k h1 h2 => by rcases h2 with h2 | h2; exact h2; omega), ?_⟩
          rw [HSK.out]
          exact ⟨kind, nn, ⟨#[]⟩, A3, vs.length, c3, p, r4, by rw [show n - r.data.toList.length + 0 = p from HP.out], (c2.fr f3 hbn).fr g9 hbn⟩
        · rw [if_neg h32] at htr
          have hsk2 : stepK r.data.toList = .inl (kind, name, vs, [], k) := by rw [hsk, htr]
          have HSK := hide hsk2
          have H32 := hide h32
          clear hsk hsk2 hg hh hhd hget h60 hl hp hty hnn hr4 hats htr tf1 tf2 tf3 tf4 tf5 tf6 hkn hrp h32
          go_enter Tryz.func40, Tryz.ntmps40
          go_wp2_with (first
            | (go_at_call 73; refine (HA.out _ C0.out).mono ?_; rintro e w1 ⟨rfl, f1⟩; have t0 := T0.out.fr f1 (fun h => h); obtain ⟨y0, y1, y2, y3, y4, y5⟩ := t0.facts; have t1 := t0.at__ (p : Int); have c1 := (C0.out.same f1).fr (Fr.set_b w1 w.heap.size 4 (.int .i64 (p : Int))) hbn; have k1 := c1.c1; have g1 := hide ((((Fr.refl (fun k => k = b) w).alloc (.cells #[.int .u8 0, .string ⟨#[]⟩, .slice none 0 0, .string ⟨#[]⟩, .int .i64 0] 33)).trans f1.into).then_ (Fr.set_b w1 w.heap.size 4 (.int .i64 (p : Int))) (fun k h1 h2 => by omega)))
            | (go_at_call 74; refine (HTG.out _ _ _ _ _ _ c1 t1 (HST.out _ (g1.out.l))).mono ?_; rintro e w2 ⟨v, o, rfl, c2, t2, m2, o2, f2⟩; have F2 := hide (g1.out.l.trans f2); have o2' := hide (own_after f1 o2))
            | (go_at_call 75; refine (HRD.out _ _ _ t2 m2 (fun k hk => ⟨(o2'.out k hk).1, (o2'.out k hk).2⟩) (HST.out _ F2.out)).mono ?_; rintro e w3 ⟨f3, rfl, A3, c3, oa, t3, own3, new3⟩; rw [if_neg H32.out]; obtain ⟨z0, z1, z2, z3, z4, z5⟩ := t3.facts))
          obtain ⟨W, hW, t9, g9⟩ := t3.store5 kind nn (.slice A3 vs.length c3) ⟨#[]⟩ (p : Int)
          rw [hW]
          obtain ⟨a0, a1, a2, a3, a4, -⟩ := t9.facts
          refine bodyPost_ret (v := .tuple #[.agg #[.int .u8 kind, .string nn, .slice A3 vs.length c3, .string ⟨#[]⟩, .int .i64 p], .int .i64 0, .int .i64 0]) (by simp [results, Tryz.results40, go_sem, a0, a1, a2, a3, a4]) rfl ?_
          refine ⟨((F2.out.trans f3.r).then_ g9 (fun k h1 h2 => .inr h2)).monoLt (fun k h1 h2 => by rcases h2 with h2 | h2; exact h2; omega), ?_⟩
          rw [HSK.out]
          have hs2 := F2.out.size
          have hlt2 : w.heap.size < w2.heap.size := by have := t2.lt; exact this
          refine ⟨A3, c3, oa, 0, by rw [show n - r.data.toList.length = p from HP.out, HN.out.1], by rw [HN.out.2]; exact (c2.fr f3 hbn).fr g9 hbn, own3.fr g9 (fun k hk e => by have := (new3 k hk).1; omega), fun k hk => ?_⟩
          have := new3 k hk
          have := g9.size
          exact ⟨by omega, by omega⟩
  · have hh : r.data.toList.head? ≠ some 60 := by
      rw [List.head?_eq_getElem?, hget]; intro e; exact h60 (Option.some.inj e)
    have hle2 := takeWhile_le (· != 60) r.data.toList
    obtain ⟨tv, htv⟩ : ∃ tv : ByteArray, tv = r.extract 0 (r.data.toList.takeWhile (· != 60)).length := ⟨_, rfl⟩
    have htl : tv.data.toList = r.data.toList.takeWhile (· != 60) := by
      rw [htv, extract_data, List.drop_zero, Nat.sub_zero]
      exact (List.prefix_iff_eq_take.1 (List.takeWhile_prefix _)).symm
    obtain ⟨rr, hrr⟩ : ∃ rr : ByteArray, rr = r.extract (r.data.toList.takeWhile (· != 60)).length r.size := ⟨_, rfl⟩
    have hrl : rr.data.toList = r.data.toList.drop (r.data.toList.takeWhile (· != 60)).length := by
      rw [hrr, extract_data, List.take_of_length_le (by rw [List.length_drop]; omega)]
    have hix : Lib.indexByte r.data.toList 60 = if (60 : UInt8) ∈ r.data.toList then ((r.data.toList.takeWhile (· != 60)).length : Int) else -1 := indexByte_tw _ _
    have htz : tv.data.toList.length = tv.size := rfl
    have hd := fun W hW => decode_any tv W hW (by rw [← htz, htl]; omega)
    rw [htl] at hd
    unfold wp3 at hd
    have hplace := decodeR_place (r.data.toList.takeWhile (· != 60))
    have hib := fun W => Tryz.strings_IndexByte r 60 W
    rw [show ((60 : Int).toNat.toUInt8) = (60 : UInt8) from rfl, hix] at hib
    obtain ⟨N, hN⟩ : ∃ N, (r.data.toList.takeWhile (· != 60)).length = N := ⟨_, rfl⟩
    have hmem : ((60 : UInt8) ∈ r.data.toList) ∨ ((60 : UInt8) ∉ r.data.toList ∧ N = r.size) := by
      by_cases hm : (60 : UInt8) ∈ r.data.toList
      · exact .inl hm
      · refine .inr ⟨hm, ?_⟩
        rw [← hN, takeWhile_all_ hm]
        exact hl
    have hsk : stepK r.data.toList = if (decodeR (r.data.toList.takeWhile (· != 60))).2.2 ≠ 0 then .inr ((decodeR (r.data.toList.takeWhile (· != 60))).2.1, (decodeR (r.data.toList.takeWhile (· != 60))).2.2) else .inl (4, [], [], (decodeR (r.data.toList.takeWhile (· != 60))).1, (r.data.toList.takeWhile (· != 60)).length) := by
      unfold stepK; rw [if_neg hh]
    rw [hN] at hle2 htv hrr hib hrl hsk hplace
    have hrz : rr.size ≤ n := by
      have : rr.data.toList.length = rr.size := rfl
      rw [hrl, List.length_drop] at this
      omega
    have HRR := hide (And.intro hrz (show rr = ⟨(r.data.toList.drop N).toArray⟩ from by rw [← hrl, mk_self]))
    have hsl1 : ∀ W : World, (Instr.slice 9 (.string r) none (some (.int .i64 (N : Int))) none).run Tryz.prog W = .ok (.string tv) W := fun W => by
      rw [run_slice_string_h (P := Tryz.prog) W 9 r Tryz.underlying9 .i64 _ (by omega) (by omega), Int.toNat_natCast, htv]
    have hsl2 : ∀ W : World, (Instr.slice 9 (.string r) (some (.int .i64 (N : Int))) none none).run Tryz.prog W = .ok (.string rr) W := fun W => by
      rw [run_slice_string_l (P := Tryz.prog) W 9 r Tryz.underlying9 .i64 _ (by omega) (by omega), Int.toNat_natCast, hrr]
    have HP := hide hp
    have b60 : (((r[0]'h0).toNat : Int) == 60) = false := by
      rw [beq_eq_false_iff_ne]
      intro e
      exact h60 (UInt8.toNat_inj.1 (by show _ = 60; omega))
    obtain ⟨dt, hdt⟩ : ∃ dt : ByteArray, (⟨(decodeR (r.data.toList.takeWhile (· != 60))).1.toArray⟩ : ByteArray) = dt := ⟨_, rfl⟩
    rw [hdt] at hd
    obtain ⟨dk, hdk⟩ : ∃ dk, (decodeR (r.data.toList.takeWhile (· != 60))).2.1 = dk := ⟨_, rfl⟩
    obtain ⟨de, hde⟩ : ∃ de, (decodeR (r.data.toList.takeWhile (· != 60))).2.2 = de := ⟨_, rfl⟩
    rw [hdk, hde] at hd
    rw [hdk, hde] at hsk
    rw [hdk] at hplace
    have HSK := hide hsk
    have HDT := hide hdt
    have HD := hide hd
    have HSL := hide (And.intro hsl1 hsl2)
    have hN0 : 0 ≤ (N : Int) := by omega
    have hdk2 : dk ≤ 70000 := by omega
    have hpn : p ≤ 70000 := by omega
    rcases hmem with hm | ⟨hm, hNr⟩
    · rw [if_pos hm] at hib
      have HIB := hide hib
      clear hib hd hsk hdt hdk hde hplace hrz hrl htl htz htv hrr hix hle2 hget hh h60 hl hp hsl1 hsl2 hN hm
      have hsl1 := HSL.out.1
      have hsl2 := HSL.out.2
      go_enter Tryz.func40, Tryz.ntmps40
      go_wp2_with (first
        | (go_at_call 73; refine (HA.out _ C0.out).mono ?_; rintro e w1 ⟨rfl, f1⟩; have t0 := T0.out.fr f1 (fun h => h); obtain ⟨y0, y1, y2, y3, y4, y5⟩ := t0.facts; have t1 := t0.at__ (p : Int); have c1 := (C0.out.same f1).fr (Fr.set_b w1 w.heap.size 4 (.int .i64 (p : Int))) hbn; have k1 := c1.c1; have g1 := hide ((((Fr.refl (fun k => k = b) w).alloc (.cells #[.int .u8 0, .string ⟨#[]⟩, .slice none 0 0, .string ⟨#[]⟩, .int .i64 0] 33)).trans f1.into).then_ (Fr.set_b w1 w.heap.size 4 (.int .i64 (p : Int))) (fun k h1 h2 => by omega)))
        | (go_at_call 76; refine (HIB.out _).mono ?_; rintro e w2 ⟨rfl, hw2⟩; subst hw2)
        | (go_at_call 77; refine (HD.out _ (HST.out _ (g1.out.l.trans (Fr.set_b _ w.heap.size 0 (.int .u8 4)).r))).mono ?_; rintro e w3 ⟨rfl, f3⟩; have c3 := (c1.fr (Fr.set_b _ w.heap.size 0 (.int .u8 4)) hbn).same f3; have t3 := (t1.kind_ 4).fr f3 (fun h => h); obtain ⟨z0, z1, z2, z3, z4, z5⟩ := t3.facts; have t4 := t3.text_ dt; have c4 := c3.fr (Fr.set_b w3 w.heap.size 3 (.string dt)) hbn; have k4 := c4.c1; have y4 := c4.fz; have g4 := hide ((((g1.out.l (tb := w.heap.size)).trans (Fr.set_b _ w.heap.size 0 (.int .u8 4)).r).trans (f3.mono (fun _ h => h.elim))).trans (Fr.set_b w3 w.heap.size 3 (.string dt)).r); have t5 := t4.fr (Fr.set_b _ b 1 (.string rr)) hbn'; obtain ⟨x0, x1, x2, x3, x4, x5⟩ := t5.facts; have c5 := c4.set (r' := rr) HRR.out.1; have g5 := hide (g4.out.trans (Fr.set_b _ b 1 (.string rr)).l)))
      obtain ⟨W, hW, t9, g9⟩ := t5.store5 4 ⟨#[]⟩ (.slice none 0 0) dt (p : Int)
      rw [hW]
      obtain ⟨a0, a1, a2, a3, a4, -⟩ := t9.facts
      refine bodyPost_ret (v := .tuple #[.agg #[.int .u8 4, .string ⟨#[]⟩, .slice none 0 0, .string dt, .int .i64 p], .int .i64 ((p : Int) + dk), .int .i64 de]) (by simp [results, Tryz.results40, go_sem, a0, a1, a2, a3, a4]) rfl ?_
      refine ⟨((g5.out).then_ g9 (fun k h1 h2 => .inr h2)).monoLt (fun k h1 h2 => by rcases h2 with h2 | h2; exact h2; omega), ?_⟩
      by_cases hz : de = 0
      · rw [HSK.out, if_neg (by simpa using hz)]
        refine ⟨none, 0, none, (p : Int) + dk, by rw [show n - r.data.toList.length = p from HP.out, HDT.out, hz]; rfl, by rw [← HRR.out.2]; exact c5.fr g9 hbn, Own.nil_ _ _ _ _, fun k hk => by cases hk⟩
      · rw [HSK.out, if_pos (by simpa using hz)]
        exact ⟨4, ⟨#[]⟩, dt, none, 0, 0, p, rr, by rw [show n - r.data.toList.length = p from HP.out, Int.natCast_add], c5.fr g9 hbn⟩
    · rw [if_neg hm] at hib
      have HIB := hide hib
      clear hib hd hsk hdt hdk hde hplace hrz hrl htl htz htv hrr hix hle2 hget hh h60 hl hp hsl1 hsl2 hN hm
      subst hNr
      have hsl1 := HSL.out.1
      have hsl2 := HSL.out.2
      go_enter Tryz.func40, Tryz.ntmps40
      go_wp2_with (first
        | (go_at_call 73; refine (HA.out _ C0.out).mono ?_; rintro e w1 ⟨rfl, f1⟩; have t0 := T0.out.fr f1 (fun h => h); obtain ⟨y0, y1, y2, y3, y4, y5⟩ := t0.facts; have t1 := t0.at__ (p : Int); have c1 := (C0.out.same f1).fr (Fr.set_b w1 w.heap.size 4 (.int .i64 (p : Int))) hbn; have k1 := c1.c1; have g1 := hide ((((Fr.refl (fun k => k = b) w).alloc (.cells #[.int .u8 0, .string ⟨#[]⟩, .slice none 0 0, .string ⟨#[]⟩, .int .i64 0] 33)).trans f1.into).then_ (Fr.set_b w1 w.heap.size 4 (.int .i64 (p : Int))) (fun k h1 h2 => by omega)))
        | (go_at_call 76; refine (HIB.out _).mono ?_; rintro e w2 ⟨rfl, hw2⟩; subst hw2)
        | (go_at_call 77; refine (HD.out _ (HST.out _ (g1.out.l.trans (Fr.set_b _ w.heap.size 0 (.int .u8 4)).r))).mono ?_; rintro e w3 ⟨rfl, f3⟩; have c3 := (c1.fr (Fr.set_b _ w.heap.size 0 (.int .u8 4)) hbn).same f3; have t3 := (t1.kind_ 4).fr f3 (fun h => h); obtain ⟨z0, z1, z2, z3, z4, z5⟩ := t3.facts; have t4 := t3.text_ dt; have c4 := c3.fr (Fr.set_b w3 w.heap.size 3 (.string dt)) hbn; have k4 := c4.c1; have y4 := c4.fz; have g4 := hide ((((g1.out.l (tb := w.heap.size)).trans (Fr.set_b _ w.heap.size 0 (.int .u8 4)).r).trans (f3.mono (fun _ h => h.elim))).trans (Fr.set_b w3 w.heap.size 3 (.string dt)).r); have t5 := t4.fr (Fr.set_b _ b 1 (.string rr)) hbn'; obtain ⟨x0, x1, x2, x3, x4, x5⟩ := t5.facts; have c5 := c4.set (r' := rr) HRR.out.1; have g5 := hide (g4.out.trans (Fr.set_b _ b 1 (.string rr)).l)))
      obtain ⟨W, hW, t9, g9⟩ := t5.store5 4 ⟨#[]⟩ (.slice none 0 0) dt (p : Int)
      rw [hW]
      obtain ⟨a0, a1, a2, a3, a4, -⟩ := t9.facts
      refine bodyPost_ret (v := .tuple #[.agg #[.int .u8 4, .string ⟨#[]⟩, .slice none 0 0, .string dt, .int .i64 p], .int .i64 ((p : Int) + dk), .int .i64 de]) (by simp [results, Tryz.results40, go_sem, a0, a1, a2, a3, a4]) rfl ?_
      refine ⟨((g5.out).then_ g9 (fun k h1 h2 => .inr h2)).monoLt (fun k h1 h2 => by rcases h2 with h2 | h2; exact h2; omega), ?_⟩
      by_cases hz : de = 0
      · rw [HSK.out, if_neg (by simpa using hz)]
        refine ⟨none, 0, none, (p : Int) + dk, by rw [show n - r.data.toList.length = p from HP.out, HDT.out, hz]; rfl, by rw [← HRR.out.2]; exact c5.fr g9 hbn, Own.nil_ _ _ _ _, fun k hk => by cases hk⟩
      · rw [HSK.out, if_pos (by simpa using hz)]
        exact ⟨4, ⟨#[]⟩, dt, none, 0, 0, p, rr, by rw [show n - r.data.toList.length = p from HP.out, Int.natCast_add], c5.fr g9 hbn⟩
end Go.Proofs.YtalbehjjgdedcaaGreatDoor
