/- PoolPlays: whatever is called, a pool answers as the reference, and has its rows. For every input. -/
import Derived.Test.YthfihlojpmhagaaPool18
import Derived.ProofKit
namespace Go.Proofs.Ythfihlojpmhagaa
open Go.ChangeShapes Go.WideShapes Go.ChangeAt Go.RowKit Go.WideMaps Go.WideElems
open Go.ChangeMaps (setBlock shut_map_nil open_string shut_string keptBut_setBlock frozen?_setBlock heap_setBlock_same)
set_option linter.unusedVariables false

theorem law_own : ownKnob Try.prog.godebug = none := by kernel_rfl
theorem law_laid : laidOutB Try.prog = true := by kernel_rfl

section
variable {H : Type} {enc : TypeId × Value → H} {W : World}
theorem ev_read {n : Nat} {cs : List Value} {x : DataW H × List MemPlace} (h : DataW.trod enc Try.prog W 0 (fun _ => true) true n 31 cs = some x) : ∃ a : Ev, cs = evC.cells a := by
  obtain ⟨xs, n', -, -, hlen, hxl, hf⟩ := DataW.trod_struct Try.underlying31 h
  replace hlen : cs.length = 4 := hlen
  replace hxl : xs.length = 4 := hxl
  match cs, hlen, xs, hxl with
  | [c0, c1, c2, c3], _, [x0, x1, x2, x3], _ =>
    have f0 : DataW.trod enc Try.prog W 0 (fun _ => true) true n' 5 [c0] = some x0 := hf 0 _ rfl
    have f1 : DataW.trod enc Try.prog W 0 (fun _ => true) true n' 9 [c1] = some x1 := hf 1 _ rfl
    have f2 : DataW.trod enc Try.prog W 0 (fun _ => true) true n' 2 [c2] = some x2 := hf 2 _ rfl
    have f3 : DataW.trod enc Try.prog W 0 (fun _ => true) true n' 3 [c3] = some x3 := hf 3 _ rfl
    obtain ⟨a0, e0, -, -⟩ := DataW.trod_int Try.underlying5 f0
    obtain ⟨a1, e1, -, -⟩ := DataW.trod_string Try.underlying9 f1
    obtain ⟨a2, e2, -, -⟩ := DataW.trod_int Try.underlying2 f2
    obtain ⟨a3, e3, -, -⟩ := DataW.trod_int Try.underlying3 f3
    simp only [List.cons.injEq, and_true] at e0 e1 e2 e3
    subst e0 e1 e2 e3
    exact ⟨⟨a0, a1, a2, a3⟩, rfl⟩
theorem act_read {n : Nat} {cs : List Value} {x : DataW H × List MemPlace} (h : DataW.trod enc Try.prog W 0 (fun _ => true) true n 33 cs = some x) : ∃ a : AEv, cs = actC.cells a := by
  obtain ⟨xs, n', -, -, hlen, hxl, hf⟩ := DataW.trod_struct Try.underlying33 h
  replace hlen : cs.length = 5 := hlen
  replace hxl : xs.length = 2 := hxl
  match cs, hlen, xs, hxl with
  | [c0, c1, c2, c3, c4], _, [x0, x1], _ =>
    have f0 : DataW.trod enc Try.prog W 0 (fun _ => true) true n' 3 [c0] = some x0 := hf 0 _ rfl
    have f1 : DataW.trod enc Try.prog W 0 (fun _ => true) true n' 31 [c1, c2, c3, c4] = some x1 := hf 1 _ rfl
    obtain ⟨a0, e0, -, -⟩ := DataW.trod_int Try.underlying3 f0
    obtain ⟨a, ha⟩ := ev_read f1
    simp only [List.cons.injEq, and_true] at e0
    subst e0
    exact ⟨⟨a0, a⟩, by rw [ha]; rfl⟩
end

set_option maxRecDepth 100000 in
theorem poolPlays_lifted (os : Os) (started : os.Started) (H : Type) (enc : TypeId × Value → H) :
    ReturnsInHanded {} Try.checked os 3 .any (Rows.poolPlaysSpec.pre6 enc Try.prog Try.f3 Rows.poolPlaysRow.domain false) (Rows.poolPlaysSpec.post enc Try.prog Try.f3 false true false false) := by
  refine returnsInHanded_of_change (C := Try.checked) law_own started (by kernel_rfl) Try.func3
    (ChangeSpec.witness6 (enc := enc) (C := Try.checked) false ⟨#[], #[.int .i64 0, .slice none 0 0], []⟩ 8 (by kernel_rfl) (by kernel_rfl) (by kernel_rfl) (by kernel_rfl)) ?_
  intro W base args ds gs before hval0 hW hcnd _
  have hval : ∀ (j : Nat) t v, Try.f3.params[j]? = some t → args[j]? = some v → Value.okWide Try.prog W .any base t v := hval0
  have hW' := hW
  have hltall : ∀ p ∈ before, p.block < W.heap.size := fun p hp => hW.lt p hp
  obtain ⟨p, q, hA0, hV, rfl, hfz, hnd⟩ := hW
  have hA : DataW.TrodAll enc Try.prog W 0 (fun _ => true) true Try.f3.params.toList args.toList ds p := hA0
  rw [Try.params3] at hA hval
  obtain ⟨v0, vs0, d0, ds0, p0, q0, hargs, rfl, rfl, h0, r0⟩ := trodAll_cons hA
  obtain ⟨v1, vs1, d1, ds1, p1, q1, rfl, rfl, rfl, h1, r1⟩ := trodAll_cons r0
  obtain ⟨rfl, rfl, rfl⟩ := trodAll_nil r1
  obtain rfl : args = #[v0, v1] := by cases args; simp_all
  obtain ⟨rfl, rfl⟩ := trodVars_none hV
  have hkeep := hA
  have k0 := h0
  obtain ⟨a0, rfl, -, -, w0⟩ := open_int Try.underlying3 (hval 0 3 v0 rfl rfl) h0
  have k1 := h1
  obtain ⟨a1, w1⟩ := rd_of_trod actC Try.underlying22 (by kernel_rfl) (fun n cs x hx => act_read hx) (hval 1 22 v1 rfl rfl) h1
  clear hA0 hval0
  refine (plays_any a0 v1 a1 W w1).mono fun e W' ⟨he, hb⟩ => ?_
  subst he
  exact ⟨_, rfl, post_of_below (pv := []) hW' (fun _ _ _ => trodAll_cons_mk (shut_bool Try.underlying4 _) trodAll_mk0) (fun sp hsp => (trodAll_cons_mk (arg_stays law_laid (by kernel_rfl) (of_decide_eq_true (by kernel_rfl)) k0 hb (fun x hx => hltall x (by simp [hx])) (fun x hx => hsp x (by simp [hx]))) (trodAll_cons_mk (arg_stays law_laid (by kernel_rfl) (of_decide_eq_true (by kernel_rfl)) k1 hb (fun x hx => hltall x (by simp [hx])) (fun x hx => hsp x (by simp [hx]))) trodAll_mk0))) (fun _ _ => rfl) rfl hb (ok_one (by kernel_rfl) rfl (okWide_bool_mk Try.underlying4 _))⟩

theorem poolPlays_holds : Rows.PoolPlaysSaid :=
  OpenClaim.holds_of_wide 3 Try.f3 rfl rfl rfl rfl rfl rfl rfl ⟨rfl, rfl, rfl, rfl, rfl⟩ rfl rfl rfl rfl rfl (by kernel_rfl) Try.func3 (by kernel_rfl)
    (of_decide_eq_true (by kernel_rfl)) (by unfold Func.isWrapper; rw [if_neg (of_decide_eq_false (by kernel_rfl))]; exact ⟨rfl, rfl⟩)
    (fun os started H enc _ => poolPlays_lifted os started H enc)
end Go.Proofs.Ythfihlojpmhagaa
