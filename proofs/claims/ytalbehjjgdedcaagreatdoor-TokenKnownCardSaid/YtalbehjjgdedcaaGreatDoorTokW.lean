/- token: Blank; the chapter's examples. -/
import Derived.Test.YtalbehjjgdedcaaGreatDoorTokI
namespace Go.Proofs.YtalbehjjgdedcaaGreatDoor
open Go.RowKit Go.Lib
attribute [local go_sem ↓] Go.wp_at_zero Go.wp_at_succ

theorem tr1 : tokR [60, 97, 32, 120, 61, 34, 49, 34, 32, 121, 61, 39, 38, 108, 116, 59, 39, 47, 62, 98] = ([⟨3, [97], [([120], [49]), ([121], [60])], [], 0⟩, ⟨4, [], [], [98], 19⟩], 0, 0) := by kernel_rfl
theorem tr2 : tokR [60, 63, 120, 109, 108, 63, 62, 60, 97, 62, 116, 60, 33, 45, 45, 32, 110, 32, 45, 45, 62, 60, 47, 97, 32, 62] = ([⟨1, [97], [], [], 7⟩, ⟨4, [], [], [116], 10⟩, ⟨2, [97], [], [], 21⟩], 0, 0) := by kernel_rfl
theorem tr3 : tokR [97, 60, 98, 32, 99, 61, 100, 62] = ([], 1, 40) := by kernel_rfl
theorem tr4 : tokR [97, 38, 98, 59] = ([], 1, 30) := by kernel_rfl

theorem dw_nil {p : UInt8 → Bool} : ∀ {l : List UInt8}, l.dropWhile p = [] ↔ ∀ a ∈ l, p a = true
  | [] => by simp
  | b :: t => by
    rw [List.dropWhile_cons]
    by_cases h : p b = true
    · rw [if_pos h, dw_nil]; simp [h]
    · rw [if_neg h]; simp [h]
def blankAll (l : List UInt8) : Bool := l.all blankB
theorem trimS_nil (l : List UInt8) : Lib.trimS l [32, 9, 10, 13] = [] ↔ blankAll l = true := by
  unfold Lib.trimS Lib.trimLeftS Lib.trimRightS blankAll
  rw [blanks_eq, List.all_eq_true]
  constructor
  · intro h
    have h1 : ∀ a ∈ (l.reverse.dropWhile blankB).reverse, blankB a = true := by
      intro a ha
      exact (dw_nil.1 h) a ha
    have h2 : l.reverse.dropWhile blankB = [] := by
      cases hd : l.reverse.dropWhile blankB with
      | nil => rfl
      | cons c t =>
        have hc := List.head_dropWhile_not blankB (l := l.reverse) (by rw [hd]; simp)
        have hm : c ∈ (l.reverse.dropWhile blankB).reverse := by rw [hd]; simp
        have := h1 c hm
        simp only [hd, List.head_cons] at hc
        rw [this] at hc
        cases hc
    intro a ha
    exact (dw_nil.1 h2) a (by simpa using ha)
  · intro h
    have h2 : l.reverse.dropWhile blankB = [] := dw_nil.2 (fun a ha => h a (by simpa using ha))
    rw [h2]
    rfl
set_option maxHeartbeats 1000000 in
theorem blank_any (s : ByteArray) (w : World) (hs : s.size ≤ 9223372036854775807) : Calls Tryz.prog 15 #[.string s] w fun e w' => e = .returned (.bool (blankAll s.data.toList)) ∧ Fr (fun _ => False) w w' := by
  have h := Any.strings_Trim_laid Tryz.lays160 (by kernel_rfl) s ⟨#[32, 9, 10, 13]⟩ w hs (by decide) (ascii_of_all (by decide))
  rw [show (⟨#[32, 9, 10, 13]⟩ : ByteArray).data.toList = [32, 9, 10, 13] from rfl] at h
  have hiff := trimS_nil s.data.toList
  generalize hT : Lib.trimS s.data.toList [32, 9, 10, 13] = T at *
  cases hb : blankAll s.data.toList with
  | true =>
    obtain rfl : T = [] := hiff.2 hb
    have H := hide h
    clear hiff hb h hT hs
    go_enter Tryz.func15, Tryz.ntmps15
    go_wp2_with (go_at_call 41; refine H.out.mono ?_; rintro e w1 ⟨rfl, f1⟩)
    go_ret
    exact ⟨rfl, Fr.of_below f1 (fun k h1 h2 => absurd h1 (by omega))⟩
  | false =>
    have hT0 : T ≠ [] := fun e => by rw [hiff.1 e] at hb; cases hb
    obtain ⟨r, hr⟩ : ∃ r : ByteArray, (⟨T.toArray⟩ : ByteArray) = r := ⟨_, rfl⟩
    have hrz : 0 < r.size := by rw [← hr, mk_size]; exact List.length_pos_iff.2 hT0
    obtain ⟨iE, iE2⟩ := ne_nil_ hrz
    rw [hr] at h
    have H := hide h
    clear hiff hb h hT hs hT0 hr hrz
    go_enter Tryz.func15, Tryz.ntmps15
    go_wp2_with (go_at_call 41; refine H.out.mono ?_; rintro e w1 ⟨rfl, f1⟩)
    go_ret
    exact ⟨rfl, Fr.of_below f1 (fun k h1 h2 => absurd h1 (by omega))⟩

/-! what is read of tokens in memory -/
theorem TokL.addr {w : World} {base c : Nat} {A : Option Addr} {o : Option Nat} {X : List TokX} (h : TokL w base (.slice A X.length c) o X) (hX : 0 < X.length) : ∃ g off, A = some ⟨g, off, none⟩ ∧ o = some g := by
  rcases h.own with ⟨A', h1, h2, h3⟩ | ⟨g, off, cap, cur, h1, h2, _⟩
  · rw [List.map_eq_nil_iff] at h3
    subst h3
    simp at hX
  · simp only [List.length_map, Value.slice.injEq] at h1
    exact ⟨g, off, h1.1, h2⟩
theorem TokL.cells {w : World} {base c g off : Nat} {o : Option Nat} {X : List TokX} (h : TokL w base (.slice (some ⟨g, off, none⟩) X.length c) o X) {i : Nat} (hi : i < X.length) :
    w.cell? ⟨g, off + (i * 5 + 0), none⟩ = some (.int .u8 X[i].m.kind) ∧ w.cell? ⟨g, off + (i * 5 + 1), none⟩ = some (.string ⟨X[i].m.name.toArray⟩) ∧ w.cell? ⟨g, off + (i * 5 + 2), none⟩ = some (.slice X[i].t.A X[i].m.attrs.length X[i].t.c) ∧
    w.cell? ⟨g, off + (i * 5 + 3), none⟩ = some (.string ⟨X[i].m.text.toArray⟩) ∧ w.cell? ⟨g, off + (i * 5 + 4), none⟩ = some (.int .i64 X[i].m.at_) ∧ Own pairC w 38 (.slice X[i].t.A X[i].m.attrs.length X[i].t.c) X[i].oa (X[i].m.attrs.map toPair) := by
  have hi' : i < (X.map (·.t)).length := by rw [List.length_map]; exact hi
  obtain ⟨g', off', cap', hv, -, -, hg, hc⟩ := h.own.rd.at_ hi'
  simp only [List.length_map, Value.slice.injEq, Option.some.injEq, Addr.mk.injEq, and_true] at hv
  obtain ⟨⟨rfl, rfl⟩, -⟩ := hv
  obtain ⟨o1, o2, o3, o4, o5, o6⟩ := h.ok X[i] (List.getElem_mem hi)
  have q0 := hc 0 (by decide)
  have q1 := hc 1 (by decide)
  have q2 := hc 2 (by decide)
  have q3 := hc 3 (by decide)
  have q4 := hc 4 (by decide)
  rw [List.getElem_map] at q0 q1 q2 q3 q4
  simp only [tokC, List.getElem?_cons_zero, List.getElem?_cons_succ] at q0 q1 q2 q3 q4
  rw [o1] at q0
  rw [o2] at q1
  rw [o5] at q2 o6
  rw [o3] at q3
  rw [o4] at q4
  exact ⟨q0, q1, q2, q3, q4, o6⟩
theorem own_pair {w : World} {E : TypeId} {A : Option Addr} {m c : Nat} {oa : Option Nat} {l : List (List UInt8 × List UInt8)} (h : Own pairC w E (.slice A m c) oa (l.map toPair)) {i : Nat} (hi : i < l.length) :
    ∃ g off, A = some ⟨g, off, none⟩ ∧ m = l.length ∧ oa = some g ∧ w.cell? ⟨g, off + (i * 2 + 0), none⟩ = some (.string ⟨l[i].1.toArray⟩) ∧ w.cell? ⟨g, off + (i * 2 + 1), none⟩ = some (.string ⟨l[i].2.toArray⟩) := by
  have hi' : i < (l.map toPair).length := by rw [List.length_map]; exact hi
  obtain ⟨g', off', cap', hv, -, -, hg, hc⟩ := h.rd.at_ hi'
  simp only [List.length_map, Value.slice.injEq] at hv
  obtain ⟨rfl, rfl, rfl⟩ := hv
  have q0 := hc 0 (by decide)
  have q1 := hc 1 (by decide)
  rw [List.getElem_map] at q0 q1
  simp only [pairC, List.getElem?_cons_zero, List.getElem?_cons_succ, toPair] at q0 q1
  exact ⟨g', off', rfl, rfl, hg, q0, q1⟩

theorem map_two {α β : Type} {f : α → β} {X : List α} {a b : β} (h : X.map f = [a, b]) : ∃ x y, X = [x, y] ∧ f x = a ∧ f y = b := by
  rcases X with _ | ⟨x, _ | ⟨y, _ | ⟨z, X⟩⟩⟩ <;> simp at h
  exact ⟨x, y, rfl, h.1, h.2⟩
theorem map_three {α β : Type} {f : α → β} {X : List α} {a b c : β} (h : X.map f = [a, b, c]) : ∃ x y z, X = [x, y, z] ∧ f x = a ∧ f y = b ∧ f z = c := by
  rcases X with _ | ⟨x, _ | ⟨y, _ | ⟨z, _ | ⟨u, X⟩⟩⟩⟩ <;> simp at h
  exact ⟨x, y, z, rfl, h.1, h.2.1, h.2.2⟩
theorem tk1 (w : World) (hst : St w) : Calls Tryz.prog 13 #[.string ⟨#[60, 97, 32, 120, 61, 34, 49, 34, 32, 121, 61, 39, 38, 108, 116, 59, 39, 47, 62, 98]⟩] w fun e w' =>
    ∃ g off c ga offa ca, e = .returned (.tuple #[.slice (some ⟨g, off, none⟩) 2 c, .int .i64 0, .int .i64 0]) ∧ Fr (fun _ => False) w w' ∧ Hid (∀ W, Fr (fun _ => False) w' W →
      W.cell? ⟨g, off, none⟩ = some (.int .u8 3) ∧ W.cell? ⟨g, off + 1, none⟩ = some (.string ⟨#[97]⟩) ∧ W.cell? ⟨g, off + 2, none⟩ = some (.slice (some ⟨ga, offa, none⟩) 2 ca) ∧ W.cell? ⟨ga, offa + 2, none⟩ = some (.string ⟨#[121]⟩) ∧ W.cell? ⟨ga, offa + 3, none⟩ = some (.string ⟨#[60]⟩) ∧
      W.cell? ⟨g, off + 8, none⟩ = some (.string ⟨#[98]⟩) ∧ W.cell? ⟨g, off + 9, none⟩ = some (.int .i64 19)) :=
  (tokens_any _ w hst).mono fun e w' ⟨A, c, o, X, h1, h2, h3, h4⟩ => by
    rw [tr1] at h1 h3
    obtain ⟨x1, x2, rfl, e1, e2⟩ := map_two h3
    · skip
      obtain ⟨g, off, rfl, -⟩ := h2.addr (by simp)
      obtain ⟨-, -, -, -, -, q5⟩ := h2.cells (i := 0) (by simp)
      simp only [List.getElem_cons_zero, e1] at q5
      obtain ⟨ga, offa, ha, -, -, -, -⟩ := own_pair q5 (i := 1) (by simp)
      refine ⟨g, off, c, ga, offa, x1.t.c, h1, h4, hide fun W f => ?_⟩
      have h2' := h2.fr f (fun _ _ _ _ h => h)
      obtain ⟨p0, p1, p2, p3, p4, p5⟩ := h2'.cells (i := 0) (by simp)
      obtain ⟨r0, r1, r2, r3, r4, r5⟩ := h2'.cells (i := 1) (by simp)
      simp only [List.getElem_cons_zero, List.getElem_cons_succ, e1, e2, Nat.zero_mul, Nat.zero_add, Nat.one_mul, Nat.reduceAdd, Nat.add_zero, ha] at p0 p1 p2 p5 r3 r4
      obtain ⟨ga', offa', ha', -, -, s0, s1⟩ := own_pair p5 (i := 1) (by simp)
      simp only [Option.some.injEq, Addr.mk.injEq, and_true] at ha'
      obtain ⟨rfl, rfl⟩ := ha'
      exact ⟨p0, p1, p2, s0, s1, r3, r4⟩
theorem tk2 (w : World) (hst : St w) : Calls Tryz.prog 13 #[.string ⟨#[60, 63, 120, 109, 108, 63, 62, 60, 97, 62, 116, 60, 33, 45, 45, 32, 110, 32, 45, 45, 62, 60, 47, 97, 32, 62]⟩] w fun e w' =>
    ∃ g off c, e = .returned (.tuple #[.slice (some ⟨g, off, none⟩) 3 c, .int .i64 0, .int .i64 0]) ∧ Fr (fun _ => False) w w' ∧ Hid (∀ W, Fr (fun _ => False) w' W →
      W.cell? ⟨g, off + 4, none⟩ = some (.int .i64 7) ∧ W.cell? ⟨g, off + 8, none⟩ = some (.string ⟨#[116]⟩) ∧ W.cell? ⟨g, off + 10, none⟩ = some (.int .u8 2) ∧ W.cell? ⟨g, off + 14, none⟩ = some (.int .i64 21)) :=
  (tokens_any _ w hst).mono fun e w' ⟨A, c, o, X, h1, h2, h3, h4⟩ => by
    rw [tr2] at h1 h3
    obtain ⟨x1, x2, x3, rfl, e1, e2, e3⟩ := map_three h3
    · skip
      obtain ⟨g, off, rfl, -⟩ := h2.addr (by simp)
      refine ⟨g, off, c, h1, h4, hide fun W f => ?_⟩
      have h2' := h2.fr f (fun _ _ _ _ h => h)
      obtain ⟨p0, p1, p2, p3, p4, p5⟩ := h2'.cells (i := 0) (by simp)
      obtain ⟨r0, r1, r2, r3, r4, r5⟩ := h2'.cells (i := 1) (by simp)
      obtain ⟨s0, s1, s2, s3, s4, s5⟩ := h2'.cells (i := 2) (by simp)
      simp only [List.getElem_cons_zero, List.getElem_cons_succ, e1, e2, e3, Nat.zero_mul, Nat.zero_add, Nat.one_mul, Nat.reduceAdd, Nat.reduceMul, Nat.add_zero] at p4 r3 s0 s4
      exact ⟨p4, r3, s0, s4⟩
theorem tk3 (w : World) (hst : St w) : Calls Tryz.prog 13 #[.string ⟨#[97, 60, 98, 32, 99, 61, 100, 62]⟩] w fun e w' => ∃ A c, e = .returned (.tuple #[.slice A 0 c, .int .i64 1, .int .i64 40]) ∧ Fr (fun _ => False) w w' :=
  (tokens_any _ w hst).mono fun e w' ⟨A, c, o, X, h1, h2, h3, h4⟩ => by
    rw [tr3] at h1 h3
    have hl := congrArg List.length h3
    rw [List.length_map] at hl
    rw [show X.length = 0 from hl] at h1
    exact ⟨A, c, h1, h4⟩
theorem tk4 (w : World) (hst : St w) : Calls Tryz.prog 13 #[.string ⟨#[97, 38, 98, 59]⟩] w fun e w' => ∃ A c, e = .returned (.tuple #[.slice A 0 c, .int .i64 1, .int .i64 30]) ∧ Fr (fun _ => False) w w' :=
  (tokens_any _ w hst).mono fun e w' ⟨A, c, o, X, h1, h2, h3, h4⟩ => by
    rw [tr4] at h1 h3
    have hl := congrArg List.length h3
    rw [List.length_map] at hl
    rw [show X.length = 0 from hl] at h1
    exact ⟨A, c, h1, h4⟩

set_option maxRecDepth 100000 in
set_option maxHeartbeats 8000000 in
theorem works_any (w : World) (hst : St w) : Calls Tryz.prog 11 #[] w fun e w' => e = .returned (.bool true) ∧ Fr (fun _ => False) w w' := by
  have HST := hide (fun (W : World) (f : Fr (fun _ => False) w W) => hst.same f)
  clear hst
  go_enter Tryz.func11, Tryz.ntmps11
  go_wp2_with (first
    | (go_at_call 13; go_fit (tk1 w (HST.out _ (Fr.refl _ _))); rintro e w1 ⟨g1, off1, c1, ga, offa, ca, rfl, f1, L1⟩)
    | (go_at_call 13; go_fit (tk2 w1 (HST.out _ f1)); rintro e w2 ⟨g2, off2, c2, rfl, f2, L2⟩)
    | (go_at_call 13; go_fit (tk3 w2 (HST.out _ (f1.trans f2))); rintro e w3 ⟨A3, c3, rfl, f3⟩)
    | (go_at_call 13; go_fit (tk4 w3 (HST.out _ ((f1.trans f2).trans f3))); rintro e w4 ⟨A4, c4, rfl, f4⟩; have F4 := hide (((f1.trans f2).trans f3).trans f4); obtain ⟨a0, a1, a2, a3, a4, a5, a6⟩ := L1.out w4 ((f2.trans f3).trans f4); obtain ⟨b0, b1, b2, b3⟩ := L2.out w4 (f3.trans f4))
    | (go_at_call 15; go_fit (blank_any ⟨#[32, 10]⟩ w4 (by decide)); rw [show blankAll (⟨#[32, 10]⟩ : ByteArray).data.toList = true by decide]; rintro e w5 ⟨rfl, f5⟩)
    | (go_at_call 15; go_fit (blank_any ⟨#[97]⟩ w5 (by decide)); rw [show blankAll (⟨#[97]⟩ : ByteArray).data.toList = false by decide]; rintro e w6 ⟨rfl, f6⟩))
  go_ret
  exact ⟨rfl, (F4.out.trans f5).trans f6⟩
end Go.Proofs.YtalbehjjgdedcaaGreatDoor
