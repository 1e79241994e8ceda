/- Of any two trees it is told whether they are the same but for places in the text; and the chapter's examples hold. No condition on the input: every text, every value; the world as the row's form has it (the listed variables tied to the program's text). -/
import Derived.Test.YtncecbgpkoihpaaGreatDoorTreMz
import Derived.Test.YtncecbgpkoihpaaGreatDoorLfAll
import Derived.Test.YtncecbgpkoihpaaGreatDoorTrsNs
import Derived.Test.YtncecbgpkoihpaaGreatDoorTie
import Derived.Test.YtncecbgpkoihpaaGreatDoorCards
import Derived.SevenTiedAt
import Derived.Test.YtncecbgpkoihpaaGreatDoorTrbAll
namespace Go.Proofs.YtncecbgpkoihpaaGreatDoor
open Go.ChangeShapes Go.WideShapes Go.ChangeAt Go.RowKit Go.WideMaps Go.WideElems
open Go.ChangeMaps (setBlock shut_map_nil open_string shut_string keptBut_setBlock frozen?_setBlock heap_setBlock_same)
set_option linter.unusedVariables false
theorem zap {N : List NodeM} (h : ∀ x ∈ N, x.name.size ≤ reachBytes ∧ x.text.size ≤ reachBytes ∧ x.attrs.length ≤ reachBytes ∧ ∀ a ∈ x.attrs, a.1.size ≤ reachBytes ∧ a.2.size ≤ reachBytes) (hN : N.length ≤ 60) : z0n N ≤ 4611686018427387904 := by
 unfold reachBytes at h
 have hat : ∀ L : List z07, (∀ a ∈ L, a.1.size ≤ 0x7ffffffff000 ∧ a.2.size ≤ 0x7ffffffff000) → z7q L ≤ L.length * 281474976710656 := by
  intro L
  induction L with
  | nil => intro _; simp [z7q]
  | cons a L ih =>
    intro hL
    have := ih (fun x hx => hL x (by simp [hx]))
    have h2 := hL a (by simp)
    rw [z7q, List.length_cons]
    omega
 have key : ∀ N : List NodeM, (∀ x ∈ N, x.name.size ≤ 0x7ffffffff000 ∧ x.text.size ≤ 0x7ffffffff000 ∧ x.attrs.length ≤ 0x7ffffffff000 ∧ ∀ a ∈ x.attrs, a.1.size ≤ 0x7ffffffff000 ∧ a.2.size ≤ 0x7ffffffff000) → z0n N ≤ N.length * 14073748835532800 := by
  intro N
  induction N with
  | nil => intro _; simp [z0n]
  | cons x N ih =>
    intro h
    have := ih (fun y hy => h y (by simp [hy]))
    obtain ⟨a1, a2, a3, a4⟩ := h x (by simp)
    have h5 := hat (x.attrs.take 40) (fun a ha => a4 a (List.mem_of_mem_take ha))
    have h6 : (x.attrs.take 40).length ≤ 40 := by rw [List.length_take]; omega
    rw [z0n, List.length_cons]
    unfold fewW
    omega
 have := key N h
 omega
end Go.Proofs.YtncecbgpkoihpaaGreatDoor
namespace Go.Proofs.YtncecbgpkoihpaaGreatDoor
open Go.ChangeShapes Go.WideShapes Go.ChangeAt Go.RowKit Go.WideMaps Go.WideElems
open Go.ChangeMaps (setBlock shut_map_nil open_string shut_string keptBut_setBlock frozen?_setBlock heap_setBlock_same)
set_option linter.unusedVariables false
set_option maxRecDepth 100000 in
theorem z9v (os : Os) (started : os.Started) (H : Type) (enc : TypeId × Value → H) :
 ReturnsInHanded {} Tryz.checked os 9 .any (fun w args => (Rows.treeBackSpec.pre enc Tryz.prog Tryz.f9 [] false w args ∧ laidMetH Tryz.prog zgd w) ∧ sizedMet enc Tryz.prog Tryz.f9 (OpenSpec.ofChange Rows.treeBackSpec) false w args)
  (Rows.treeBackSpec.post enc Tryz.prog Tryz.f9 false true false false) := by
 refine zcg (C := Tryz.checked) (X := fun w _ => laidMetH Tryz.prog zgd w) (fun _ _ _ hh h => h.of_heap hh) zs3 started (by kernel_rfl) Tryz.func9
  (ChangeSpec.witness_shaped (enc := enc) (C := Tryz.checked) (os := os) (X := fun w _ => laidMetH Tryz.prog zgd w) false (World.laidAll Tryz.prog os zgd) #[.string ⟨#[]⟩, .agg #[.slice none 0 0]] 8 (World.laidAll_os _ _ _) (World.shaped_of_ZipB (by kernel_rfl) (by kernel_rfl)) (by kernel_rfl) (by kernel_rfl) (by kernel_rfl) (zpe os _)) ?_
 intro W base args ds gs before hval0 hW hL hsh hsz
 have hst := zs4 hL hsh
 have hval : ∀ (j : Nat) t v, Tryz.f9.params[j]? = some t → args[j]? = some v → Value.okWide Tryz.prog W .any base t v := hval0
 have hW' := hW
 have hltall : ∀ p ∈ before, p.block < W.heap.size := fun p hp => hW.lt p hp
 obtain ⟨p, q, hA0, hV, rfl, hfz, hnd⟩ := hW
 have hA : DataW.TrodAll enc Tryz.prog W 0 (fun _ => true) true Tryz.f9.params.toList args.toList ds p := hA0
 rw [Tryz.params9] at hA hval
 obtain ⟨v0, vs0, d0, ds0, p0, q0, hargs, rfl, rfl, h0, r0⟩ := trodAll_cons hA
 obtain ⟨v1, vs1, d1, ds1, p1, q1, rfl, rfl, rfl, h1, r1⟩ := trodAll_cons r0
 obtain ⟨rfl, rfl, rfl⟩ := trodAll_nil r1
 obtain rfl : args = #[v0, v1] := by cases args; simp_all
 obtain ⟨rfl, rfl⟩ := trodVars_none hV
 have hkeep := hA
 have k0 := h0
 have k1 := h1
 obtain ⟨ds2, gs2, before2, ⟨p2, q2, hA2, hV2, -, -, -⟩, hwt⟩ := hsz
 have hA2 : DataW.TrodAll enc Tryz.prog W 0 (fun _ => true) true Tryz.f9.params.toList [v0, v1] ds2 p2 := hA2
 rw [Tryz.params9] at hA2 hwt
 obtain ⟨u0, us0, e0, es0, pp0, qq0, hu0, rfl, hp0, j0, s0⟩ := trodAll_cons hA2
 obtain ⟨u1, us1, e1, es1, pp1, qq1, hu1, rfl, hp1, j1, s1⟩ := trodAll_cons s0
 obtain ⟨hn1, rfl, hn2⟩ := trodAll_nil s1
 simp only [List.cons.injEq] at hu0
 obtain ⟨rfl, rfl⟩ := hu0
 simp only [List.cons.injEq] at hu1
 obtain ⟨rfl, -⟩ := hu1
 simp only [List.cons_append, DataW.weightsEach, List.all_append, Bool.and_eq_true] at hwt
 obtain ⟨wt0, wt1, -⟩ := hwt
 obtain ⟨a0, rfl, -, -, w0⟩ := open_string Tryz.underlying9 (hval 0 9 _ rfl rfl) h0
 obtain ⟨B, m, d, M, rfl, tM, bM⟩ := zl4 (hval 1 75 _ rfl rfl) j1
 clear hA0 hval0
 refine (zec a0 W hst w0 tM (zap (bM _ wt1))).mono fun e W' ⟨he, hb0⟩ => ?_
 subst he
 have hb := hb0.below (Nat.le_refl _) (fun _ _ h => h)
 exact ⟨_, rfl, zby (pv := []) hW' (fun _ _ _ => trodAll_cons_mk (shut_bool Tryz.underlying4 _) trodAll_mk0) (fun sp hsp => (trodAll_cons_mk (zd9 zhk (by kernel_rfl) (of_decide_eq_true (by kernel_rfl)) k0 hb (fun x hx => hltall x (by simp [hx])) (fun x hx => hsp x (by simp [hx]))) (trodAll_cons_mk (zd9 zhk (by kernel_rfl) (of_decide_eq_true (by kernel_rfl)) k1 hb (fun x hx => hltall x (by simp [hx])) (fun x hx => hsp x (by simp [hx]))) trodAll_mk0))) (fun _ _ => rfl) rfl hb (ok_one (by kernel_rfl) rfl (okWide_bool_mk Tryz.underlying4 _))⟩
end Go.Proofs.YtncecbgpkoihpaaGreatDoor
