/- Of any two trees it is told whether they are the same but for places in the text; and the chapter's examples hold. No condition on the input: every text, every value; the world as the row's form has it (the listed variables tied to the program's text). -/
import Derived.Test.YtncecbgpkoihpaaGreatDoorTreMz
import Derived.Test.YtncecbgpkoihpaaGreatDoorLfAll
import Derived.Test.YtncecbgpkoihpaaGreatDoorTrsNs
import Derived.Test.YtncecbgpkoihpaaGreatDoorTie
import Derived.Test.YtncecbgpkoihpaaGreatDoorCards
import Derived.SevenTiedAt
namespace Go.Proofs.YtncecbgpkoihpaaGreatDoor
open Go.ChangeShapes Go.WideShapes Go.ChangeAt Go.RowKit Go.WideMaps Go.WideElems
open Go.ChangeMaps (setBlock shut_map_nil open_string shut_string keptBut_setBlock frozen?_setBlock heap_setBlock_same)
set_option linter.unusedVariables false
theorem few_of_weights {N : List NodeM} (h : ∀ x ∈ N, x.name.size ≤ reachBytes ∧ x.text.size ≤ reachBytes ∧ x.attrs.length ≤ reachBytes ∧ ∀ a ∈ x.attrs, a.1.size ≤ reachBytes ∧ a.2.size ≤ reachBytes) (hN : N.length ≤ 60) : fewSum N ≤ 4611686018427387904 := by
 unfold reachBytes at h
 have hat : ∀ L : List AttrB, (∀ a ∈ L, a.1.size ≤ 0x7ffffffff000 ∧ a.2.size ≤ 0x7ffffffff000) → atSum L ≤ L.length * 281474976710656 := by
  intro L
  induction L with
  | nil => intro _; simp [atSum]
  | cons a L ih =>
    intro hL
    have := ih (fun x hx => hL x (by simp [hx]))
    have h2 := hL a (by simp)
    rw [atSum, List.length_cons]
    omega
 have key : ∀ N : List NodeM, (∀ x ∈ N, x.name.size ≤ 0x7ffffffff000 ∧ x.text.size ≤ 0x7ffffffff000 ∧ x.attrs.length ≤ 0x7ffffffff000 ∧ ∀ a ∈ x.attrs, a.1.size ≤ 0x7ffffffff000 ∧ a.2.size ≤ 0x7ffffffff000) → fewSum N ≤ N.length * 14073748835532800 := by
  intro N
  induction N with
  | nil => intro _; simp [fewSum]
  | cons x N ih =>
    intro h
    have := ih (fun y hy => h y (by simp [hy]))
    obtain ⟨a1, a2, a3, a4⟩ := h x (by simp)
    have h5 := hat (x.attrs.take 40) (fun a ha => a4 a (List.mem_of_mem_take ha))
    have h6 : (x.attrs.take 40).length ≤ 40 := by rw [List.length_take]; omega
    rw [fewSum, List.length_cons]
    unfold fewW
    omega
 have := key N h
 omega
set_option maxRecDepth 100000 in
theorem treeSame_lifted (os : Os) (started : os.Started) (H : Type) (enc : TypeId × Value → H) :
 ReturnsInHanded {} Tryz.checked os 10 .any (fun w args => (Rows.treeSameSpec.pre enc Tryz.prog Tryz.f10 [] false w args ∧ laidMetH Tryz.prog laidL w) ∧ sizedMet enc Tryz.prog Tryz.f10 (OpenSpec.ofChange Rows.treeSameSpec) false w args)
  (Rows.treeSameSpec.post enc Tryz.prog Tryz.f10 false true false false) := by
 refine returns_sized (C := Tryz.checked) (X := fun w _ => laidMetH Tryz.prog laidL w) (fun _ _ _ hh h => h.of_heap hh) law_own started (by kernel_rfl) Tryz.func10
  (ChangeSpec.witness_shaped (enc := enc) (C := Tryz.checked) (os := os) (X := fun w _ => laidMetH Tryz.prog laidL w) false (World.laidAll Tryz.prog os laidL) #[.agg #[.slice none 0 0], .agg #[.slice none 0 0]] 8 (World.laidAll_os _ _ _) (World.shaped_of_ZipB (by kernel_rfl) (by kernel_rfl)) (by kernel_rfl) (by kernel_rfl) (by kernel_rfl) (door_met os _)) ?_
 intro W base args ds gs before hval0 hW hL hsh hsz
 have hst := of_laid hL hsh
 have hval : ∀ (j : Nat) t v, Tryz.f10.params[j]? = some t → args[j]? = some v → Value.okWide Tryz.prog W .any base t v := hval0
 have hW' := hW
 have hltall : ∀ p ∈ before, p.block < W.heap.size := fun p hp => hW.lt p hp
 obtain ⟨p, q, hA0, hV, rfl, hfz, hnd⟩ := hW
 have hA : DataW.TrodAll enc Tryz.prog W 0 (fun _ => true) true Tryz.f10.params.toList args.toList ds p := hA0
 rw [Tryz.params10] at hA hval
 obtain ⟨v0, vs0, d0, ds0, p0, q0, hargs, rfl, rfl, h0, r0⟩ := trodAll_cons hA
 obtain ⟨v1, vs1, d1, ds1, p1, q1, rfl, rfl, rfl, h1, r1⟩ := trodAll_cons r0
 obtain ⟨rfl, rfl, rfl⟩ := trodAll_nil r1
 obtain rfl : args = #[v0, v1] := by cases args; simp_all
 obtain ⟨rfl, rfl⟩ := trodVars_none hV
 have hkeep := hA
 have k0 := h0
 have k1 := h1
 obtain ⟨ds2, gs2, before2, ⟨p2, q2, hA2, hV2, -, -, -⟩, hwt⟩ := hsz
 have hA2 : DataW.TrodAll enc Tryz.prog W 0 (fun _ => true) true Tryz.f10.params.toList [v0, v1] ds2 p2 := hA2
 rw [Tryz.params10] at hA2 hwt
 obtain ⟨u0, us0, e0, es0, pp0, qq0, hu0, rfl, hp0, j0, s0⟩ := trodAll_cons hA2
 obtain ⟨u1, us1, e1, es1, pp1, qq1, hu1, rfl, hp1, j1, s1⟩ := trodAll_cons s0
 obtain ⟨hn1, rfl, hn2⟩ := trodAll_nil s1
 simp only [List.cons.injEq] at hu0
 obtain ⟨rfl, rfl⟩ := hu0
 simp only [List.cons.injEq] at hu1
 obtain ⟨rfl, -⟩ := hu1
 simp only [List.cons_append, DataW.weightsEach, List.all_append, Bool.and_eq_true] at hwt
 obtain ⟨wt0, wt1, -⟩ := hwt
 obtain ⟨A, n, c, N, rfl, tN, bN⟩ := open_tree (hval 0 75 _ rfl rfl) j0
 obtain ⟨B, m, d, M, rfl, tM, bM⟩ := open_tree (hval 1 75 _ rfl rfl) j1
 clear hA0 hval0
 refine (treeSame_any W hst tN tM (few_of_weights (bN _ wt0)) (few_of_weights (bM _ wt1))).mono fun e W' ⟨he, hb0⟩ => ?_
 subst he
 have hb := hb0.below (Nat.le_refl _) (fun _ _ h => h)
 exact ⟨_, rfl, post_of_below (pv := []) hW' (fun _ _ _ => trodAll_cons_mk (shut_bool Tryz.underlying4 _) trodAll_mk0) (fun sp hsp => (trodAll_cons_mk (arg_stays law_laid (by kernel_rfl) (of_decide_eq_true (by kernel_rfl)) k0 hb (fun x hx => hltall x (by simp [hx])) (fun x hx => hsp x (by simp [hx]))) (trodAll_cons_mk (arg_stays law_laid (by kernel_rfl) (of_decide_eq_true (by kernel_rfl)) k1 hb (fun x hx => hltall x (by simp [hx])) (fun x hx => hsp x (by simp [hx]))) trodAll_mk0))) (fun _ _ => rfl) rfl hb (ok_one (by kernel_rfl) rfl (okWide_bool_mk Tryz.underlying4 _))⟩
end Go.Proofs.YtncecbgpkoihpaaGreatDoor
