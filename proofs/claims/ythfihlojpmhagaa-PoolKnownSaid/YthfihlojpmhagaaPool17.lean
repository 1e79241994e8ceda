/- The pool's laws: few, works. -/
import Derived.Test.YthfihlojpmhagaaPool16
namespace Go.Proofs.Ythfihlojpmhagaa
open Go.RowKit
attribute [local go_sem ↓] Go.wp_at_zero Go.wp_at_succ

def fewB (l : List AEv) (top : Int) : Bool := decide ((l.length : Int) ≤ top) && l.all fun a => decide (a.ev.name.size ≤ 70)

set_option maxHeartbeats 1000000 in
theorem few_any (top : Int) (S : Nat → Prop) (v : Value) (l : List AEv) (w : World) (h : Rd actC w S v l) :
    Calls Try.prog 9 #[v, .int .i64 top] w fun e w' => e = .returned (.bool (fewB l top)) ∧ w = w' := by
  have H := hide h
  obtain ⟨A, cap, rfl, hlc, hcm, -⟩ := h
  unfold maxLen at hcm
  by_cases htop : (l.length : Int) ≤ top
  · have hfb : fewB l top = l.all fun a => decide (a.ev.name.size ≤ 70) := by simp [fewB, htop]
    rw [hfb]
    clear hfb
    go_enter Try.func9, Try.ntmps9
    go_wp2_with fail
    go_loop [5] (fun i => ∃ k : Nat, k ≤ l.length ∧ i = .int .i64 k ∧ Hid (∀ x ∈ l.take k, x.ev.name.size ≤ 70)) (fun i => l.length - (intOf i).toNat)
    case atStart => exact ⟨0, Nat.zero_le _, rfl, by simp [Hid]⟩
    case round =>
      obtain ⟨k, hk, rfl, hno⟩ := hrel
      by_cases hlt : k < l.length
      · obtain ⟨g, off, cap', hv, -, -, hg, hc⟩ := H.out.at_ hlt
        simp only [Value.slice.injEq, true_and] at hv
        obtain ⟨rfl, rfl⟩ := hv
        have q2 := hc 2 (by decide)
        have HM := hide (show l[k] ∈ l ∧ ∀ x ∈ l.take (k + 1), x = l[k] ∨ x ∈ l.take k from ⟨List.getElem_mem hlt, fun x hx => by
          rw [List.take_add_one, List.getElem?_eq_getElem hlt, Option.toList_some, List.mem_append, List.mem_singleton] at hx
          exact hx.symm⟩)
        generalize l[k] = x at *
        simp only [actC, evC, List.getElem?_cons_zero, List.getElem?_cons_succ, ← Nat.add_assoc] at q2
        clear hc
        by_cases hs : x.ev.name.size ≤ 70
        · go_wp2_with fail
          go_round
          case rel => exact ⟨k + 1, by omega, by go_num, fun y hy => by
            rcases HM.out.2 y hy with rfl | h1
            · exact hs
            · exact hno y h1⟩
          case measure => simp [intOf]; omega
        · go_wp2_with fail
          go_ret
          refine ⟨?_, rfl⟩
          have : (l.all fun a => decide (a.ev.name.size ≤ 70)) = false := by
            rw [List.all_eq_false]
            exact ⟨x, HM.out.1, by simpa using hs⟩
          rw [this]
          rfl
      · obtain rfl : k = l.length := by omega
        go_wp2_with fail
        go_ret
        refine ⟨?_, rfl⟩
        have : (l.all fun a => decide (a.ev.name.size ≤ 70)) = true := by
          rw [List.all_eq_true]
          intro x hx
          have := hno.out x (by simpa using hx)
          simpa using this
        rw [this]
        rfl
  · have hfb : fewB l top = false := by simp [fewB, htop]
    rw [hfb]
    clear hfb
    go_enter Try.func9, Try.ntmps9
    go_wp2_with fail
    go_ret
    exact ⟨rfl, rfl⟩

/-- a pool that is the call's own, and blocks that it does not touch -/
def PAt (w0 w : World) (b : Nat) (s : PSt) (K : List (Nat × Obj)) : Prop := ∃ F, PoolAt 59 31 w b s F ∧ (∀ k, F k → w0.heap.size ≤ k) ∧ Fr (fun _ => False) w0 w ∧ ∀ x ∈ K, w.heap[x.1]? = some x.2 ∧ ¬ F x.1
theorem PAt.step {w0 w : World} {b : Nat} {s s1 s' : PSt} {K : List (Nat × Obj)} {f : FuncId} {args : Array Value} {v : Value} (h : PAt w0 w b s K)
    (hc : ∀ F, PoolAt 59 31 w b s F → Calls Try.prog f args w fun e w' => e = .returned v ∧ PoolPost 59 31 b s1 F w w')
    (hr : s1.room = s'.room) (hL : ∀ i, i < 3 → s1.L i = s'.L i) : Calls Try.prog f args w fun e w' => e = .returned v ∧ PAt w0 w' b s' K := by
  obtain ⟨F, h1, h2, h3, h4⟩ := h
  refine (hc F h1).mono fun e w' ⟨he, hp⟩ => ⟨he, ?_⟩
  obtain ⟨F', p1, p2, p3⟩ := hp.congr hr hL
  exact ⟨F', p1, fun k hk => by
    rcases p3 k hk with h4 | h4
    · exact h2 k h4
    · exact Nat.le_trans h3.size h4, h3.then_ p2 (fun k hk hF => by have := h2 k hF; omega), fun x hx => ⟨(p2.block x.1 (Array.getElem?_eq_some_iff.1 (h4 x hx).1).1 (h4 x hx).2).trans (h4 x hx).1, fun hF => by
      have := (Array.getElem?_eq_some_iff.1 (h4 x hx).1).1
      rcases p3 x.1 hF with h5 | h5
      · exact (h4 x hx).2 h5
      · omega⟩⟩
theorem PAt.same {w0 w w' : World} {b : Nat} {s : PSt} {K : List (Nat × Obj)} (h : PAt w0 w b s K) (hf : Fr (fun _ => False) w w') : PAt w0 w' b s K := by
  obtain ⟨F, h1, h2, h3, h4⟩ := h
  exact ⟨F, h1.same hf, h2, h3.trans hf, fun x hx => ⟨(hf.block x.1 (Array.getElem?_eq_some_iff.1 (h4 x hx).1).1 (fun h => h)).trans (h4 x hx).1, (h4 x hx).2⟩⟩
theorem PAt.alloc {w0 w : World} {b : Nat} {s : PSt} {K : List (Nat × Obj)} (h : PAt w0 w b s K) (o : Obj) : PAt w0 (w.alloc o) b s ((w.heap.size, o) :: K) := by
  obtain ⟨F, h1, h2, h3, h4⟩ := h.same (Fr.alloc (Fr.refl _ _) o)
  obtain ⟨F0, g1, g2, g3, g4⟩ := h
  refine ⟨F0, g1.same (Fr.alloc (Fr.refl _ _) o), g2, h3, fun x hx => ?_⟩
  rcases List.mem_cons.1 hx with rfl | hx
  · exact ⟨heap_alloc_new w o, fun hF => by have := g1.lt _ hF; simp at this⟩
  · exact ⟨(h4 x hx).1, (g4 x hx).2⟩
theorem PAt.blk {w0 w : World} {b : Nat} {s : PSt} {K : List (Nat × Obj)} (h : PAt w0 w b s K) {g : Nat} {o : Obj} (hx : (g, o) ∈ K) : w.heap[g]? = some o := by
  obtain ⟨F, h1, h2, h3, h4⟩ := h
  exact (h4 _ hx).1
theorem PAt.fr {w0 w : World} {b : Nat} {s : PSt} {K : List (Nat × Obj)} (h : PAt w0 w b s K) : Fr (fun _ => False) w0 w := by
  obtain ⟨F, h1, h2, h3, h4⟩ := h
  exact h3

def eA : Ev := ⟨2, ⟨#[97]⟩, 0, 0⟩
def eD : Ev := ⟨1, ⟨#[]⟩, 0, 5⟩
def eB : Ev := ⟨2, ⟨#[98]⟩, 0, 0⟩
def eT : Ev := ⟨3, ⟨#[]⟩, 0, 3⟩
def lit3 (a b c : List Ev) : PSt := ⟨3, rows3 a b c⟩

set_option maxHeartbeats 2000000 in
theorem works_any (w : World) : Calls Try.prog 10 #[] w fun e w' => e = .returned (.bool true) ∧ Fr (fun _ => False) w w' := by
  go_enter Try.func10, Try.ntmps10
  go_wp2_with fail
  refine (new_any 3 w).mono ?_
  rintro e w1 ⟨rfl, hp, f1, -⟩
  have P1 : Hid (PAt w w1 w.heap.size (lit3 [] [] []) []) := ⟨_, hp.congr (by decide) (by intro i hi; rcases i with _ | _ | _ | i <;> first | rfl | omega), fun k hk => by omega, f1, by simp⟩
  clear hp f1
  generalize w.heap.size = b at *
  go_wp2_with fail
  refine (P1.out.step (v := .int .i64 0) (s' := lit3 [] [eA] []) (fun F h => put_any b _ F 2 ⟨#[97]⟩ 0 0 _ h (by decide)) rfl (by intro i hi; rcases i with _ | _ | _ | i <;> first | rfl | omega)).mono ?_
  rintro e w2 ⟨rfl, p2⟩
  have P2 := hide p2
  clear p2
  go_wp2_with fail
  refine (P2.out.step (v := .int .i64 0) (s' := lit3 [eD] [eA] []) (fun F h => put_any b _ F 1 ⟨#[]⟩ 0 5 _ h (by decide)) rfl (by intro i hi; rcases i with _ | _ | _ | i <;> first | rfl | omega)).mono ?_
  rintro e w3 ⟨rfl, p3⟩
  have P3 := hide p3
  clear p3
  go_wp2_with fail
  refine (P3.out.step (v := .int .i64 0) (s' := lit3 [eD] [eA] [eB]) (fun F h => defer_any b _ F 2 ⟨#[98]⟩ 0 0 _ h (by decide)) rfl (by intro i hi; rcases i with _ | _ | _ | i <;> first | rfl | omega)).mono ?_
  rintro e w4 ⟨rfl, p4⟩
  have P4 := hide p4
  clear p4
  go_wp2_with fail
  refine (P4.out.step (v := .int .i64 240) (s' := lit3 [eD] [eA] [eB]) (fun F h => put_any b _ F 2 ⟨#[99]⟩ 0 0 _ h (by decide)) rfl (by intro i hi; rcases i with _ | _ | _ | i <;> first | rfl | omega)).mono ?_
  rintro e w5 ⟨rfl, p5⟩
  have P5 := hide p5
  clear p5
  go_wp2_with fail
  refine (P5.out.step (v := .tuple #[.agg #[.int .u8 1, .string ⟨#[]⟩, .int .i64 0, .int .i64 5], .bool true]) (s' := lit3 [] [eA] [eB]) (fun F h => next_any b _ F _ h (by decide)) rfl (by intro i hi; rcases i with _ | _ | _ | i <;> first | rfl | omega)).mono ?_
  rintro e w6 ⟨rfl, p6⟩
  have P6 := hide (p6.alloc (.cells #[.int .u8 1, .string ⟨#[]⟩, .int .i64 0, .int .i64 5] 31))
  have g6 := p6.fr.size
  clear p6
  go_wp2_with fail
  refine (P6.out.step (v := .int .i64 1) (s' := lit3 [] [eB, eA] []) (fun F h => recall_any b _ F _ h (by decide)) rfl (by intro i hi; rcases i with _ | _ | _ | i <;> first | rfl | omega)).mono ?_
  rintro e w7 ⟨rfl, p7⟩
  have P7 := hide p7
  clear p7
  go_wp2_with fail
  refine (P7.out.step (v := .tuple #[.agg #[.int .u8 2, .string ⟨#[98]⟩, .int .i64 0, .int .i64 0], .bool true]) (s' := lit3 [] [eA] []) (fun F h => next_any b _ F _ h (by decide)) rfl (by intro i hi; rcases i with _ | _ | _ | i <;> first | rfl | omega)).mono ?_
  rintro e w8 ⟨rfl, p8⟩
  have P8 := hide (p8.alloc (.cells #[.int .u8 2, .string ⟨#[98]⟩, .int .i64 0, .int .i64 0] 31))
  have g8 := p8.fr.size
  clear p8
  go_wp2_with fail
  refine (P8.out.step (v := .tuple #[.agg #[.int .u8 2, .string ⟨#[97]⟩, .int .i64 0, .int .i64 0], .bool true]) (s' := lit3 [] [] []) (fun F h => next_any b _ F _ h (by decide)) rfl (by intro i hi; rcases i with _ | _ | _ | i <;> first | rfl | omega)).mono ?_
  rintro e w9 ⟨rfl, p9⟩
  have P9 := hide (p9.alloc (.cells #[.int .u8 2, .string ⟨#[97]⟩, .int .i64 0, .int .i64 0] 31))
  have g9 := p9.fr.size
  clear p9
  go_wp2_with fail
  refine (P9.out.step (v := .tuple #[.agg #[.int .u8 0, .string ⟨#[]⟩, .int .i64 0, .int .i64 0], .bool false]) (s' := lit3 [] [] []) (fun F h => next_any b _ F _ h (by decide)) rfl (by intro i hi; rcases i with _ | _ | _ | i <;> first | rfl | omega)).mono ?_
  rintro e w10 ⟨rfl, p10⟩
  have P10 := hide (p10.alloc (.cells #[.int .u8 0, .string ⟨#[]⟩, .int .i64 0, .int .i64 0] 31))
  have g10 := p10.fr.size
  clear p10
  go_wp2_with fail
  refine (P10.out.step (v := .int .i64 0) (s' := lit3 [] [⟨3, ⟨#[]⟩, 0, 2⟩] []) (fun F h => put_any b _ F 3 ⟨#[]⟩ 0 2 _ h (by decide)) rfl (by intro i hi; rcases i with _ | _ | _ | i <;> first | rfl | omega)).mono ?_
  rintro e w11 ⟨rfl, p11⟩
  have P11 := hide p11
  clear p11
  go_wp2_with fail
  refine (P11.out.step (v := .int .i64 0) (s' := lit3 [] [⟨3, ⟨#[]⟩, 0, 2⟩, eT] []) (fun F h => put_any b _ F 3 ⟨#[]⟩ 0 3 _ h (by decide)) rfl (by intro i hi; rcases i with _ | _ | _ | i <;> first | rfl | omega)).mono ?_
  rintro e w12 ⟨rfl, p12⟩
  have P12 := hide p12
  clear p12
  go_wp2_with fail
  refine (P12.out.step (v := .int .i64 1) (s' := lit3 [] [eT] []) (fun F h => gone_any b _ F 3 2 _ h (by decide)) rfl (by intro i hi; rcases i with _ | _ | _ | i <;> first | rfl | omega)).mono ?_
  rintro e w13 ⟨rfl, p13⟩
  have P13 := hide p13
  clear p13
  go_wp2_with fail
  have h14 : PAt w w13 b (lit3 [] [eT] []) _ := P13.out
  obtain ⟨F14, q1, -⟩ := h14
  refine (len_any b _ F14 w13 q1 (by decide)).mono ?_
  rintro e w14 ⟨rfl, rfl⟩
  have Q1 := hide q1
  clear q1
  have y6 := cell_of_row w13 w6.heap.size 3 _ _ _ (P13.out.blk (g := w6.heap.size) (.tail _ (.tail _ (.tail _ (.head _)))))
  have y8 := cell_of_row w13 w8.heap.size 1 _ _ _ (P13.out.blk (g := w8.heap.size) (.tail _ (.tail _ (.head _))))
  have y9 := cell_of_row w13 w9.heap.size 1 _ _ _ (P13.out.blk (g := w9.heap.size) (.tail _ (.head _)))
  simp at y6 y8 y9
  go_wp2_with fail
  go_ret
  exact ⟨rfl, P13.out.fr⟩
end Go.Proofs.Ythfihlojpmhagaa
