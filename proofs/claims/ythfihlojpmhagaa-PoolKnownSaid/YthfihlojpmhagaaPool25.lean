/- PoolKnown: the examples, by the other laws' contracts. -/
import Derived.Test.YthfihlojpmhagaaPool22
import Derived.Test.YthfihlojpmhagaaPool24
import Derived.Test.YthfihlojpmhagaaCut
import Derived.StillTailTactics
import Derived.IntWalk
namespace Go.Proofs.Ythfihlojpmhagaa
open Go.RowKit
attribute [local go_sem ↓] Go.wp_at_zero Go.wp_at_succ

namespace Rd
variable {α : Type} {C : Cod α} {w : World}
/-- a block that is wholly known -/
theorem block {g : Nat} {E : TypeId} {l : List α} (h : w.heap[g]? = some (.cells (C.flat l).toArray E (0, 0))) (hm : l.length ≤ maxLen) : Rd C w (fun k => k = g) (.slice (some ⟨g, 0, none⟩) l.length l.length) l :=
  ⟨_, _, rfl, Nat.le_refl _, hm, (fun h => by cases h), fun _ => ⟨g, 0, rfl, rfl, fun j u hu => by
    rw [Nat.zero_add]
    simp [World.cell?, h, hu]⟩⟩
/-- a part of a slice -/
theorem sub {S : Nat → Prop} {g off n cap : Nat} {l : List α} (h : Rd C w S (.slice (some ⟨g, off, none⟩) n cap) l) {a b : Nat} (hab : a ≤ b) (hb : b ≤ l.length) {off' n' cap' : Nat} (ho : off' = off + a * C.size) (hn : n' = b - a) (hc : b - a ≤ cap') (hm : cap' ≤ maxLen) :
    Rd C w S (.slice (some ⟨g, off', none⟩) n' cap') ((l.drop a).take (b - a)) := by
  obtain ⟨A, c, h1, h2, h3, h4, h5⟩ := h
  have hl : ((l.drop a).take (b - a)).length = b - a := by rw [List.length_take, List.length_drop]; omega
  refine ⟨_, _, by rw [hl, hn], by rw [hl]; exact hc, hm, (fun h => by cases h), fun hp => ?_⟩
  rw [hl] at hp
  obtain ⟨g', off1, hA, hg, hcell⟩ := h5 (by omega)
  simp only [Value.slice.injEq] at h1
  rw [← h1.1] at hA
  simp only [Option.some.injEq, Addr.mk.injEq] at hA
  obtain ⟨rfl, rfl, -⟩ := hA
  refine ⟨_, _, rfl, hg, fun j u hu => ?_⟩
  rw [← C.flat_take, ← C.flat_drop, List.getElem?_take] at hu
  split at hu
  · rw [List.getElem?_drop] at hu
    rw [ho, Nat.add_assoc]
    exact hcell _ _ hu
  · cases hu
end Rd

theorem sz_ev : ∀ W : World, (sizeOf (Try.prog.elem 41)).run Try.prog W = .ok 4 W := fun _ => by kernel_rfl
theorem un_ev : Try.prog.underlying 41 = some (.slice (Try.prog.elem 41)) := by kernel_rfl
def kL : List Ev := [⟨1, ⟨#[]⟩, 0, 5⟩, ⟨2, ⟨#[97]⟩, -3, 0⟩, ⟨3, ⟨#[]⟩, 0, 2⟩, ⟨0, ⟨#[]⟩, 0, 0⟩, ⟨4, ⟨#[]⟩, 0, 1⟩, ⟨1, ⟨#[]⟩, 0, -1⟩, ⟨1, ⟨#[]⟩, 1, 0⟩, ⟨1, ⟨#[97]⟩, 0, 0⟩, ⟨2, ⟨#[]⟩, 0, 0⟩, ⟨2, ⟨#[98]⟩, 0, 1⟩, ⟨3, ⟨#[]⟩, 0, 5⟩, ⟨3, ⟨#[]⟩, 1, 0⟩, ⟨2, ⟨#[99]⟩, 0, 0⟩]
theorem kL_len : kL.length = 13 := rfl
def kX (x y z0 z12 : Ev) : List AEv := [⟨0, x⟩, ⟨2, y⟩, ⟨1, y⟩, ⟨3, z0⟩, ⟨6, x⟩, ⟨2, z12⟩, ⟨0, z0⟩, ⟨6, y⟩, ⟨4, z0⟩, ⟨2, x⟩, ⟨3, x⟩, ⟨4, z0⟩, ⟨4, z0⟩]
def kO (z : Ev) : List AEv := [⟨0, z⟩, ⟨1, z⟩, ⟨2, z⟩, ⟨1, z⟩, ⟨4, z⟩, ⟨3, z⟩, ⟨4, z⟩, ⟨4, z⟩]
def kR : List Int := [-9223372036854775808, 0, 1, 255, 256, 257, 9223372036854775807]
theorem rd_ev_at {w : World} {S : Nat → Prop} {g n cap : Nat} {l : List Ev} (h : Rd evC w S (.slice (some ⟨g, 0, none⟩) n cap) l) {i : Nat} (hi : i < l.length) :
    w.cell? ⟨g, i * 4, none⟩ = some (.int .u8 l[i].kind) ∧ w.cell? ⟨g, i * 4 + 1, none⟩ = some (.string l[i].name) ∧ w.cell? ⟨g, i * 4 + 2, none⟩ = some (.int .i64 l[i].arg) ∧ w.cell? ⟨g, i * 4 + 3, none⟩ = some (.int .i64 l[i].at_) := by
  obtain ⟨g', off, cap', hv, -, -, -, hc⟩ := h.at_ hi
  simp only [Value.slice.injEq, Option.some.injEq, Addr.mk.injEq] at hv
  obtain ⟨⟨rfl, rfl, -⟩, -, -⟩ := hv
  have c0 := hc 0 (by decide)
  have c1 := hc 1 (by decide)
  have c2 := hc 2 (by decide)
  have c3 := hc 3 (by decide)
  simp only [evC, Nat.zero_add, Nat.add_zero, List.getElem?_cons_zero, List.getElem?_cons_succ] at c0 c1 c2 c3
  exact ⟨c0, c1, c2, c3⟩

theorem rd_lt {α : Type} {C : Cod α} {w : World} {g : Nat} {v : Value} {l : List α} (h : Rd C w (fun k => k = g) v l) (hg : g < w.heap.size) : Rd C w (· < w.heap.size) v l := by
  obtain ⟨A, cap, h1, h2, h3, h4, h5⟩ := h
  refine ⟨A, cap, h1, h2, h3, h4, fun hp => ?_⟩
  obtain ⟨g', off, e1, e2, e3⟩ := h5 hp
  exact ⟨g', off, e1, by show g' < _; omega, e3⟩
theorem kX_len (x y z0 z12 : Ev) : (kX x y z0 z12).length = 13 := rfl

set_option maxRecDepth 100000 in
set_option maxHeartbeats 8000000 in
theorem known_any (w : World) : Calls Try.prog 8 #[] w fun e w' => e = .returned (.bool true) ∧ Below w.heap.size w w' := by
  have HL := hide (show Rd evC (w.alloc (.cells (evC.flat kL).toArray 31)) (fun k => k = w.heap.size) (.slice (some ⟨w.heap.size, 0, none⟩) 13 13) kL from Rd.block (heap_alloc_new w _) (by decide))
  go_enter Try.func8, Try.ntmps8
  go_wp2_with fail
  have HL' : ∀ W, W = w.alloc (.cells (evC.flat kL).toArray 31) → Hid (Rd evC W (fun k => k = w.heap.size) (.slice (some ⟨w.heap.size, 0, none⟩) 13 13) kL ∧ Fr (fun _ => False) w W) := fun W hW => by
    subst hW
    exact ⟨HL.out, Fr.alloc (Fr.refl _ _) _⟩
  go_loopw [2] (fun i wr => ∃ n : Nat, n ≤ 13 ∧ i = .int .i64 n ∧ Hid (Rd evC wr (fun k => k = w.heap.size) (.slice (some ⟨w.heap.size, 0, none⟩) 13 13) kL ∧ Fr (fun _ => False) w wr)) (fun i _ => 13 - (intOf i).toNat)
  case atStart => exact ⟨0, Nat.zero_le _, rfl, HL' _ rfl⟩
  case round =>
  obtain ⟨i, hi, rfl, hR⟩ := hrel
  clear HL HL'
  by_cases hlt : i < 13
  · have hlti : (i : Int) < 13 := by omega
    go_wp2_with fail
    go_loopw [3] (fun i wr => ∃ n : Nat, n ≤ 13 ∧ i = .int .i64 n ∧ Hid (Rd evC wr (fun k => k = w.heap.size) (.slice (some ⟨w.heap.size, 0, none⟩) 13 13) kL ∧ Fr (fun _ => False) w wr)) (fun i _ => 13 - (intOf i).toNat)
    case atStart => exact ⟨0, Nat.zero_le _, rfl, hR.out⟩
    case round =>
    obtain ⟨k, hk, rfl, hQ⟩ := hrel
    by_cases hlk : k < 13
    · have hik : i < kL.length := by rw [kL_len]; exact hlt
      have hkk : k < kL.length := by rw [kL_len]; exact hlk
      obtain ⟨a0, a1, a2, a3⟩ := rd_ev_at hQ.out.1 hik
      obtain ⟨b0, b1, b2, b3⟩ := rd_ev_at hQ.out.1 hkk
      obtain ⟨c0, c1, c2, c3⟩ := rd_ev_at hQ.out.1 (i := 0) (by rw [kL_len]; omega)
      obtain ⟨d0, d1, d2, d3⟩ := rd_ev_at hQ.out.1 (i := 12) (by rw [kL_len]; omega)
      simp only [Nat.zero_mul, Nat.zero_add, Nat.reduceMul, Nat.reduceAdd] at c0 c1 c2 c3 d0 d1 d2 d3
      generalize kL[i] = x at *
      generalize kL[k] = y at *
      generalize kL[0] = z0 at *
      generalize kL[12] = z12 at *
      clear hik hkk
      go_wp2_with fail
      go_still_tail 59, (by kernel_rfl)
      change wpList _ _ _ _ _ wr.drew
      have hQ2 := hide (show Rd evC wr.drew (fun k => k = w.heap.size) (.slice (some ⟨w.heap.size, 0, none⟩) 13 13) kL ∧ Fr (fun _ => False) w wr.drew from ⟨hQ.out.1, hQ.out.2.drew⟩)
      generalize wr.drew = W2 at *
      have hX0 := heap_alloc_new W2 (.cells #[.int .i64 0, .int .u8 x.kind, .string x.name, .int .i64 x.arg, .int .i64 x.at_, .int .i64 2, .int .u8 y.kind, .string y.name, .int .i64 y.arg, .int .i64 y.at_, .int .i64 1, .int .u8 y.kind, .string y.name, .int .i64 y.arg, .int .i64 y.at_, .int .i64 3, .int .u8 z0.kind, .string z0.name, .int .i64 z0.arg, .int .i64 z0.at_, .int .i64 6, .int .u8 x.kind, .string x.name, .int .i64 x.arg, .int .i64 x.at_, .int .i64 2, .int .u8 z12.kind, .string z12.name, .int .i64 z12.arg, .int .i64 z12.at_, .int .i64 0, .int .u8 z0.kind, .string z0.name, .int .i64 z0.arg, .int .i64 z0.at_, .int .i64 6, .int .u8 y.kind, .string y.name, .int .i64 y.arg, .int .i64 y.at_, .int .i64 4, .int .u8 z0.kind, .string z0.name, .int .i64 z0.arg, .int .i64 z0.at_, .int .i64 2, .int .u8 x.kind, .string x.name, .int .i64 x.arg, .int .i64 x.at_, .int .i64 3, .int .u8 x.kind, .string x.name, .int .i64 x.arg, .int .i64 x.at_, .int .i64 4, .int .u8 z0.kind, .string z0.name, .int .i64 z0.arg, .int .i64 z0.at_, .int .i64 4, .int .u8 z0.kind, .string z0.name, .int .i64 z0.arg, .int .i64 z0.at_] 33)
      have HX0 := hide (Rd.block (C := actC) (l := kX x y z0 z12) (E := 33) hX0 (by rw [kX_len]; unfold maxLen; omega))
      have hL2 : w.heap.size < W2.heap.size := by
        have := hQ2.out.1
        obtain ⟨A, cap, h1, -, -, -, h5⟩ := this
        obtain ⟨g, off, h6, h7, h8⟩ := h5 (by decide)
        have := World.block_lt_of_cell? W2 _ (h8 0 _ rfl)
        subst h7
        exact this
      clear hX0 a0 a1 a2 a3 b0 b1 b2 b3 c0 c1 c2 c3 d0 d1 d2 d3
      go_wp2_with fail
      have hF3 : Fr (fun _ => False) W2 (W2.alloc (.cells #[.int .i64 0, .int .u8 x.kind, .string x.name, .int .i64 x.arg, .int .i64 x.at_, .int .i64 2, .int .u8 y.kind, .string y.name, .int .i64 y.arg, .int .i64 y.at_, .int .i64 1, .int .u8 y.kind, .string y.name, .int .i64 y.arg, .int .i64 y.at_, .int .i64 3, .int .u8 z0.kind, .string z0.name, .int .i64 z0.arg, .int .i64 z0.at_, .int .i64 6, .int .u8 x.kind, .string x.name, .int .i64 x.arg, .int .i64 x.at_, .int .i64 2, .int .u8 z12.kind, .string z12.name, .int .i64 z12.arg, .int .i64 z12.at_, .int .i64 0, .int .u8 z0.kind, .string z0.name, .int .i64 z0.arg, .int .i64 z0.at_, .int .i64 6, .int .u8 y.kind, .string y.name, .int .i64 y.arg, .int .i64 y.at_, .int .i64 4, .int .u8 z0.kind, .string z0.name, .int .i64 z0.arg, .int .i64 z0.at_, .int .i64 2, .int .u8 x.kind, .string x.name, .int .i64 x.arg, .int .i64 x.at_, .int .i64 3, .int .u8 x.kind, .string x.name, .int .i64 x.arg, .int .i64 x.at_, .int .i64 4, .int .u8 z0.kind, .string z0.name, .int .i64 z0.arg, .int .i64 z0.at_, .int .i64 4, .int .u8 z0.kind, .string z0.name, .int .i64 z0.arg, .int .i64 z0.at_] 33)) := Fr.alloc (Fr.refl _ _) _
      have hs3 : W2.heap.size < (W2.alloc (.cells #[.int .i64 0, .int .u8 x.kind, .string x.name, .int .i64 x.arg, .int .i64 x.at_, .int .i64 2, .int .u8 y.kind, .string y.name, .int .i64 y.arg, .int .i64 y.at_, .int .i64 1, .int .u8 y.kind, .string y.name, .int .i64 y.arg, .int .i64 y.at_, .int .i64 3, .int .u8 z0.kind, .string z0.name, .int .i64 z0.arg, .int .i64 z0.at_, .int .i64 6, .int .u8 x.kind, .string x.name, .int .i64 x.arg, .int .i64 x.at_, .int .i64 2, .int .u8 z12.kind, .string z12.name, .int .i64 z12.arg, .int .i64 z12.at_, .int .i64 0, .int .u8 z0.kind, .string z0.name, .int .i64 z0.arg, .int .i64 z0.at_, .int .i64 6, .int .u8 y.kind, .string y.name, .int .i64 y.arg, .int .i64 y.at_, .int .i64 4, .int .u8 z0.kind, .string z0.name, .int .i64 z0.arg, .int .i64 z0.at_, .int .i64 2, .int .u8 x.kind, .string x.name, .int .i64 x.arg, .int .i64 x.at_, .int .i64 3, .int .u8 x.kind, .string x.name, .int .i64 x.arg, .int .i64 x.at_, .int .i64 4, .int .u8 z0.kind, .string z0.name, .int .i64 z0.arg, .int .i64 z0.at_, .int .i64 4, .int .u8 z0.kind, .string z0.name, .int .i64 z0.arg, .int .i64 z0.at_] 33)).heap.size := by simp
      rw [kX_len] at HX0
      generalize W2.alloc (.cells #[.int .i64 0, .int .u8 x.kind, .string x.name, .int .i64 x.arg, .int .i64 x.at_, .int .i64 2, .int .u8 y.kind, .string y.name, .int .i64 y.arg, .int .i64 y.at_, .int .i64 1, .int .u8 y.kind, .string y.name, .int .i64 y.arg, .int .i64 y.at_, .int .i64 3, .int .u8 z0.kind, .string z0.name, .int .i64 z0.arg, .int .i64 z0.at_, .int .i64 6, .int .u8 x.kind, .string x.name, .int .i64 x.arg, .int .i64 x.at_, .int .i64 2, .int .u8 z12.kind, .string z12.name, .int .i64 z12.arg, .int .i64 z12.at_, .int .i64 0, .int .u8 z0.kind, .string z0.name, .int .i64 z0.arg, .int .i64 z0.at_, .int .i64 6, .int .u8 y.kind, .string y.name, .int .i64 y.arg, .int .i64 y.at_, .int .i64 4, .int .u8 z0.kind, .string z0.name, .int .i64 z0.arg, .int .i64 z0.at_, .int .i64 2, .int .u8 x.kind, .string x.name, .int .i64 x.arg, .int .i64 x.at_, .int .i64 3, .int .u8 x.kind, .string x.name, .int .i64 x.arg, .int .i64 x.at_, .int .i64 4, .int .u8 z0.kind, .string z0.name, .int .i64 z0.arg, .int .i64 z0.at_, .int .i64 4, .int .u8 z0.kind, .string z0.name, .int .i64 z0.arg, .int .i64 z0.at_] 33) = W3 at *
      have HX : Hid (∀ W, Fr (fun _ => False) W3 W → Rd actC W (· < W.heap.size) (.slice (some ⟨W2.heap.size, 0, none⟩) 13 13) (kX x y z0 z12)) := fun W f => rd_lt (HX0.out.fr f (fun k hk => ⟨by omega, fun h => h⟩)) (Nat.lt_of_lt_of_le hs3 f.size)
      have HLL : Hid (∀ W, Fr (fun _ => False) W3 W → Rd evC W (· < W.heap.size) (.slice (some ⟨w.heap.size, 0, none⟩) 13 13) kL) := fun W f => rd_lt (hQ2.out.1.fr (hF3.trans f) (fun k hk => ⟨by omega, fun h => h⟩)) (by have := f.size; omega)
      have f0 : Fr (fun _ => False) W3 W3.drew := Fr.drew (Fr.refl _ _)
      clear HX0
      have hAk : Hid (∀ W, Fr (fun _ => False) W3 W → Rd actC W (· < W.heap.size) (.slice (some ⟨W2.heap.size, 0, none⟩) k 13) (((kX x y z0 z12).drop 0).take (k - 0))) := fun W f => (HX.out W f).sub (a := 0) (b := k) (by omega) (by rw [kX_len]; omega) (by simp) (by omega) (by omega) (by unfold maxLen; omega)
      have hLk : Hid (∀ W, Fr (fun _ => False) W3 W → Rd evC W (· < W.heap.size) (.slice (some ⟨w.heap.size, k * 4, none⟩) 1 (13 - k)) ((kL.drop k).take (k + 1 - k))) := fun W f => (HLL.out W f).sub (a := k) (b := k + 1) (by omega) (by rw [kL_len]; omega) (by simp [evC]) (by omega) (by omega) (by unfold maxLen; omega)
      have hLr : Hid (∀ W, Fr (fun _ => False) W3 W → Rd evC W (· < W.heap.size) (.slice (some ⟨w.heap.size, 4, none⟩) (i % 3) 12) ((kL.drop 1).take (1 + i % 3 - 1))) := fun W f => (HLL.out W f).sub (a := 1) (b := 1 + i % 3) (by omega) (by rw [kL_len]; omega) (by simp [evC]) (by omega) (by omega) (by unfold maxLen; omega)
      have hk13 : (k : Int) ≤ 13 := by omega
      have hi13 : (i : Int) ≤ 13 := by omega
      have hne2 : ¬ (13 = k) := by omega
      have hr0 : (0 : Int) ≤ (i : Int) % 3 := by omega
      have ek : IntKind.i64.wrap ((k : Int) + 1) = (k : Int) + 1 := IntWalk.i64_in _ (by omega)
      have ei : IntKind.i64.wrap ((i : Int) + 2) = (i : Int) + 2 := IntWalk.i64_in _ (by omega)
      have er : (i : Int).tmod 3 = (i : Int) % 3 := Int.tmod_eq_emod_of_nonneg (by omega)
      have ew : IntKind.i64.wrap (1 + (i : Int) % 3) = 1 + (i : Int) % 3 := IntWalk.i64_in _ (by omega)
      have s3 : ∀ W : World, (Instr.slice 41 (.slice (some ⟨w.heap.size, 0, none⟩) 13 13) (some (.int .i64 (k : Int))) (some (.int .i64 ((k : Int) + 1))) none).run Try.prog W = .ok (.slice (some ⟨w.heap.size, k * 4, none⟩) 1 (13 - k)) W := fun W => by
        rw [run_cut un_ev sz_ev w.heap.size 0 13 13 k (k + 1) (by omega) (by omega) (by omega) rfl (by omega) W, Nat.zero_add, show k + 1 - k = 1 by omega]
      have s4 : ∀ W : World, (Instr.slice 41 (.slice (some ⟨w.heap.size, 0, none⟩) 13 13) (some (.int .i64 1)) (some (.int .i64 (1 + (i : Int) % 3))) none).run Try.prog W = .ok (.slice (some ⟨w.heap.size, 4, none⟩) (i % 3) 12) W := fun W => by
        rw [run_cut un_ev sz_ev w.heap.size 0 13 13 1 (1 + i % 3) (by omega) (by omega) (by omega) (x := 1) rfl (by omega) W, show 1 + i % 3 - 1 = i % 3 by omega]
      have s2 : ∀ W : World, (i : Int) + 2 < 13 → (Instr.slice 41 (.slice (some ⟨w.heap.size, 0, none⟩) 13 13) (some (.int .i64 (i : Int))) (some (.int .i64 ((i : Int) + 2))) none).run Try.prog W = .ok (.slice (some ⟨w.heap.size, i * 4, none⟩) 2 (13 - i)) W := fun W h => by
        rw [run_cut un_ev sz_ev w.heap.size 0 13 13 i (i + 2) (by omega) (by omega) (by omega) rfl (by omega) W, Nat.zero_add, show i + 2 - i = 2 by omega]
      by_cases hm : (i : Int) + 2 < 13
      · have hLi : Hid (∀ W, Fr (fun _ => False) W3 W → Rd evC W (· < W.heap.size) (.slice (some ⟨w.heap.size, i * 4, none⟩) 2 (13 - i)) ((kL.drop i).take (i + 2 - i))) := fun W f => (HLL.out W f).sub (a := i) (b := i + 2) (by omega) (by rw [kL_len]; omega) (by simp [evC]) (by omega) (by omega) (by unfold maxLen; omega)
        have s2 := fun W => s2 W hm
        go_region_held3 (fun _ => True) (first | trivial)
          (first
            | (go_at_call 6; refine (rowsL_any _ _ _ _ (rows3 _ _ _) _ (hLi.out _ f3) (hLk.out _ f3) (hLr.out _ f3)).mono ?_; rintro e v4 ⟨rfl, g4⟩; have f4 := f3.trans (Fr.of_below' g4))
            | (go_at_call 7; refine (again_any _ _ _ _ _ _ (hAk.out _ f2) (HX.out _ f2)).mono ?_; rintro e v3 ⟨rfl, g3⟩; have f3 := f2.trans (Fr.of_below' g3))
            | (go_at_call 3; refine (plays_any _ _ _ _ (HX.out _ f1)).mono ?_; rintro e v2 ⟨rfl, g2⟩; have f2 := f1.trans (Fr.of_below' g2))
            | (go_at_call 3; refine (plays_any _ _ _ _ (HX.out _ f0)).mono ?_; rintro e v1 ⟨rfl, g1⟩; have f1 := f0.trans (Fr.of_below' g1)))
        go_wp2_with fail
        go_roundw
        case rel => first | exact ⟨k + 1, by omega, by go_num, hQ2.out.1.fr (hF3.trans f4) (fun k hk => ⟨by omega, fun h => h⟩), hQ2.out.2.trans (hF3.trans f4)⟩ | ((repeat apply Exists.intro); exact ⟨⟨k + 1, by omega, by go_num, hQ2.out.1.fr (hF3.trans f4) (fun k hk => ⟨by omega, fun h => h⟩), hQ2.out.2.trans (hF3.trans f4)⟩, rfl⟩)
        case measure => simp [intOf]; omega
      · have hLi : Hid (∀ W, Fr (fun _ => False) W3 W → Rd evC W (· < W.heap.size) (.slice (some ⟨w.heap.size, i * 4, none⟩) (13 - i) (13 - i)) ((kL.drop i).take (13 - i))) := fun W f => (HLL.out W f).sub (a := i) (b := 13) (by omega) (by rw [kL_len]; omega) (by simp [evC]) (by omega) (by omega) (by unfold maxLen; omega)
        have s2 : ∀ W : World, (Instr.slice 41 (.slice (some ⟨w.heap.size, 0, none⟩) 13 13) (some (.int .i64 (i : Int))) (some (.int .i64 13)) none).run Try.prog W = .ok (.slice (some ⟨w.heap.size, i * 4, none⟩) (13 - i) (13 - i)) W := fun W => by
          rw [run_cut un_ev sz_ev w.heap.size 0 13 13 i 13 (by omega) (by omega) (by omega) rfl (y := 13) rfl W, Nat.zero_add]
        have hm2 : (13 : Int) ≤ (i : Int) + 2 := by omega
        have hm3 : ¬ (i : Int) < 11 := by omega
        have hm4 : (if (i : Int) + 2 < 13 then (i : Int) + 2 else 13) = 13 := if_neg hm
        have hmin : ∀ (a : Array TypeId) (t : TypeId) (W : World), (Builtin.min_ a t #[.int .i64 13, .int .i64 ((i : Int) + 2)]).run Try.prog W = .ok (.int .i64 13) W := fun a t W => by rw [run_min_int2, hm4]
        go_region_held3 (fun _ => True) (first | trivial)
          (first
            | (go_at_call 6; refine (rowsL_any _ _ _ _ (rows3 _ _ _) _ (hLi.out _ f3) (hLk.out _ f3) (hLr.out _ f3)).mono ?_; rintro e v4 ⟨rfl, g4⟩; have f4 := f3.trans (Fr.of_below' g4))
            | (go_at_call 7; refine (again_any _ _ _ _ _ _ (hAk.out _ f2) (HX.out _ f2)).mono ?_; rintro e v3 ⟨rfl, g3⟩; have f3 := f2.trans (Fr.of_below' g3))
            | (go_at_call 3; refine (plays_any _ _ _ _ (HX.out _ f1)).mono ?_; rintro e v2 ⟨rfl, g2⟩; have f2 := f1.trans (Fr.of_below' g2))
            | (go_at_call 3; refine (plays_any _ _ _ _ (HX.out _ f0)).mono ?_; rintro e v1 ⟨rfl, g1⟩; have f1 := f0.trans (Fr.of_below' g1)))
        go_wp2_with fail
        go_roundw
        case rel => first | exact ⟨k + 1, by omega, by go_num, hQ2.out.1.fr (hF3.trans f4) (fun k hk => ⟨by omega, fun h => h⟩), hQ2.out.2.trans (hF3.trans f4)⟩ | ((repeat apply Exists.intro); exact ⟨⟨k + 1, by omega, by go_num, hQ2.out.1.fr (hF3.trans f4) (fun k hk => ⟨by omega, fun h => h⟩), hQ2.out.2.trans (hF3.trans f4)⟩, rfl⟩)
        case measure => simp [intOf]; omega
    · obtain rfl : k = 13 := by omega
      have hik : i < kL.length := by rw [kL_len]; exact hlt
      obtain ⟨a0, a1, a2, a3⟩ := rd_ev_at hQ.out.1 hik
      have hL2 : w.heap.size < wr.heap.size := World.block_lt_of_cell? wr _ a0
      generalize kL[i] = x at *
      clear hik
      have hHL : Hid (∀ W, Fr (fun _ => False) wr W → Rd evC W (· < W.heap.size) (.slice (some ⟨w.heap.size, i * 4, none⟩) 1 (13 - i)) ((kL.drop i).take (i + 1 - i))) := fun W f => (rd_lt (hQ.out.1.fr f (fun k hk => ⟨by omega, fun h => h⟩)) (Nat.lt_of_lt_of_le hL2 f.size)).sub (a := i) (b := i + 1) (by omega) (by rw [kL_len]; omega) (by simp [evC]) (by omega) (by omega) (by unfold maxLen; omega)
      have s5 : ∀ W : World, (Instr.slice 41 (.slice (some ⟨w.heap.size, 0, none⟩) 13 13) (some (.int .i64 (i : Int))) (some (.int .i64 ((i : Int) + 1))) none).run Try.prog W = .ok (.slice (some ⟨w.heap.size, i * 4, none⟩) 1 (13 - i)) W := fun W => by
        rw [run_cut un_ev sz_ev w.heap.size 0 13 13 i (i + 1) (by omega) (by omega) (by omega) rfl (by omega) W, Nat.zero_add, show i + 1 - i = 1 by omega]
      have ei : IntKind.i64.wrap ((i : Int) + 1) = (i : Int) + 1 := IntWalk.i64_in _ (by omega)
      go_wp2_with (first
        | (go_at_call 5; refine (none_any _ _ _ _ _ _).mono ?_; rintro e v1 ⟨rfl, g1⟩; have f1 := Fr.of_below' g1)
        | (go_at_call 6; refine (rowsL_any _ _ _ _ (rows3 _ _ _) _ (Rd.nil_ _ _ _) (hHL.out _ f1) (Rd.nil_ _ _ _)).mono ?_; rintro e v2 ⟨rfl, g2⟩; have f2 := f1.trans (Fr.of_below' g2)))
      go_roundw
      case rel => exact ⟨i + 1, by omega, by go_num, hQ.out.1.fr f2 (fun k hk => ⟨by omega, fun h => h⟩), hQ.out.2.trans f2⟩
      case measure => simp [intOf]; omega
  obtain rfl : i = 13 := by omega
  clear hlt hi
  generalize wr = W0 at *
  go_wp2_with fail
  have hr0 : w.heap.size < W0.heap.size := by
    obtain ⟨a0, -⟩ := rd_ev_at hR.out.1 (i := 0) (by rw [kL_len]; omega)
    exact World.block_lt_of_cell? W0 _ a0
  have hR3 : ∀ W, W = W0.alloc (.cells (kR.map (Value.int .i64)).toArray 3) → Hid (Rd evC W (fun k => k = w.heap.size) (.slice (some ⟨w.heap.size, 0, none⟩) 13 13) kL ∧ Fr (fun _ => False) w W ∧ W.heap[W0.heap.size]? = some (.cells (kR.map (Value.int .i64)).toArray 3 (0, 0))) := fun W hW => by
    subst hW
    exact ⟨hR.out.1.fr (Fr.alloc (Fr.refl (fun _ => False) _) _) (fun k hk => ⟨by omega, fun h => h⟩), hR.out.2.alloc _, heap_alloc_new _ _⟩
  go_loopw [154] (fun i wq => ∃ n : Nat, n ≤ 7 ∧ i = .int .i64 n ∧ Hid (Rd evC wq (fun k => k = w.heap.size) (.slice (some ⟨w.heap.size, 0, none⟩) 13 13) kL ∧ Fr (fun _ => False) w wq ∧ wq.heap[W0.heap.size]? = some (.cells (kR.map (Value.int .i64)).toArray 3 (0, 0)))) (fun i _ => 7 - (intOf i).toNat)
  case atStart => exact ⟨0, Nat.zero_le _, rfl, hR3 _ rfl⟩
  case round =>
  obtain ⟨n, hn, rfl, hS⟩ := hrel
  generalize wr = W1 at *
  clear hR3
  have hqz : w.heap.size < W1.heap.size := by
    obtain ⟨a0, -⟩ := rd_ev_at hS.out.1 (i := 0) (by rw [kL_len]; omega)
    exact World.block_lt_of_cell? _ _ a0
  have hrz : W0.heap.size < W1.heap.size := lt_of_block hS.out.2.2
  by_cases hn7 : n < 7
  · obtain ⟨r, hcell⟩ : ∃ r : Int, W1.cell? ⟨W0.heap.size, n, none⟩ = some (.int .i64 r) := by
      refine ⟨(kR[n]?).getD 0, ?_⟩
      rw [cell_of_row _ W0.heap.size n _ _ _ hS.out.2.2]
      have : n < kR.length := hn7
      simp [this]
    have hni : (n : Int) < 7 := by omega
    go_wp2_with (first
      | (go_at_call 11; refine (new_any r _).mono ?_; rintro e w1 ⟨rfl, hp, f1, -⟩; have P1 := hide (And.intro hp f1); clear hp f1)
      | (go_at_call 12; refine (rnew_any r _).mono ?_; rintro e w2 ⟨rfl, hr, f2, -⟩; have P2 := hide (BAt.made r P1.out.2 P1.out.1 (Nat.le_refl _) hr f2); clear hr f2))
    go_loopw [9] (fun i wq => ∃ (m : Nat) (s : PSt), m ≤ 258 ∧ i = .int .i64 m ∧ Hid (BAt W1 wq W1.heap.size w1.heap.size s)) (fun i _ => 258 - (intOf i).toNat)
    case atStart => exact ⟨0, _, Nat.zero_le _, rfl, P2.out⟩
    case round =>
    obtain ⟨m, s, hm, rfl, hB⟩ := hrel
    by_cases hm2 : m < 258
    · obtain ⟨d0, d1, d2, d3⟩ := rd_ev_at (hS.out.1.fr hB.out.fr (fun k hk => ⟨by omega, fun h => h⟩)) (i := 1) (by rw [kL_len]; omega)
      simp only [Nat.one_mul, Nat.reduceAdd] at d0 d1 d2 d3
      have hDo := fun s' (hb : BAt W1 wr W1.heap.size w1.heap.size s') => hb.does ⟨(m : Int) % 3, kL[1]⟩
      have er : (m : Int).tmod 3 = (m : Int) % 3 := Int.tmod_eq_emod_of_nonneg (by omega)
      have hmi : (m : Int) < 258 := by omega
      generalize kL[1] = y at *
      go_wp2_with (go_at_call 13; refine (hDo _ hB.out).mono ?_; rintro e v1 ⟨rfl, hb1⟩; have HB1 := hide hb1; clear hb1)
      go_roundw
      case rel => exact ⟨m + 1, _, by omega, by go_num, HB1.out⟩
      case measure => simp [intOf]; omega
    · obtain rfl : m = 258 := by omega
      go_wp2_with (go_at_call 14; refine (hB.out.is).mono ?_; rintro e v2 ⟨rfl, hb2⟩; have HB2 := hide hb2; clear hb2)
      go_roundw
      case rel => first | exact ⟨n + 1, by omega, by go_num, hS.out.1.fr HB2.out.fr (fun k hk => ⟨by omega, fun h => h⟩), hS.out.2.1.trans HB2.out.fr, (HB2.out.fr.block _ hrz (fun h => h)).trans hS.out.2.2⟩ | ((repeat apply Exists.intro); exact ⟨⟨n + 1, by omega, by go_num, hS.out.1.fr HB2.out.fr (fun k hk => ⟨by omega, fun h => h⟩), hS.out.2.1.trans HB2.out.fr, (HB2.out.fr.block _ hrz (fun h => h)).trans hS.out.2.2⟩, rfl⟩)
      case measure => simp [intOf]; omega
  · obtain rfl : n = 7 := by omega
    obtain ⟨c0, c1, c2, c3⟩ := rd_ev_at hS.out.1 (i := 0) (by rw [kL_len]; omega)
    simp only [Nat.zero_mul, Nat.zero_add] at c0 c1 c2 c3
    generalize kL[0] = z at *
    go_wp2_with fail
    go_still_tail 32, (by kernel_rfl)
    change wpList _ _ _ _ _ W1.drew
    have hF5 : Fr (fun _ => False) w W1.drew := hS.out.2.1.drew
    generalize W1.drew = W5 at *
    have hX0 := heap_alloc_new W5 (.cells #[.int .i64 0, .int .u8 z.kind, .string z.name, .int .i64 z.arg, .int .i64 z.at_, .int .i64 1, .int .u8 z.kind, .string z.name, .int .i64 z.arg, .int .i64 z.at_, .int .i64 2, .int .u8 z.kind, .string z.name, .int .i64 z.arg, .int .i64 z.at_, .int .i64 1, .int .u8 z.kind, .string z.name, .int .i64 z.arg, .int .i64 z.at_, .int .i64 4, .int .u8 z.kind, .string z.name, .int .i64 z.arg, .int .i64 z.at_, .int .i64 3, .int .u8 z.kind, .string z.name, .int .i64 z.arg, .int .i64 z.at_, .int .i64 4, .int .u8 z.kind, .string z.name, .int .i64 z.arg, .int .i64 z.at_, .int .i64 4, .int .u8 z.kind, .string z.name, .int .i64 z.arg, .int .i64 z.at_] 33)
    have HX0 := hide (Rd.block (C := actC) (l := kO z) (E := 33) hX0 (by show 8 ≤ maxLen; unfold maxLen; omega))
    clear hX0 c0 c1 c2 c3
    have hF6 : Fr (fun _ => False) W5 (W5.alloc (.cells #[.int .i64 0, .int .u8 z.kind, .string z.name, .int .i64 z.arg, .int .i64 z.at_, .int .i64 1, .int .u8 z.kind, .string z.name, .int .i64 z.arg, .int .i64 z.at_, .int .i64 2, .int .u8 z.kind, .string z.name, .int .i64 z.arg, .int .i64 z.at_, .int .i64 1, .int .u8 z.kind, .string z.name, .int .i64 z.arg, .int .i64 z.at_, .int .i64 4, .int .u8 z.kind, .string z.name, .int .i64 z.arg, .int .i64 z.at_, .int .i64 3, .int .u8 z.kind, .string z.name, .int .i64 z.arg, .int .i64 z.at_, .int .i64 4, .int .u8 z.kind, .string z.name, .int .i64 z.arg, .int .i64 z.at_, .int .i64 4, .int .u8 z.kind, .string z.name, .int .i64 z.arg, .int .i64 z.at_] 33)) := Fr.alloc (Fr.refl _ _) _
    have hs6 : W5.heap.size < (W5.alloc (.cells #[.int .i64 0, .int .u8 z.kind, .string z.name, .int .i64 z.arg, .int .i64 z.at_, .int .i64 1, .int .u8 z.kind, .string z.name, .int .i64 z.arg, .int .i64 z.at_, .int .i64 2, .int .u8 z.kind, .string z.name, .int .i64 z.arg, .int .i64 z.at_, .int .i64 1, .int .u8 z.kind, .string z.name, .int .i64 z.arg, .int .i64 z.at_, .int .i64 4, .int .u8 z.kind, .string z.name, .int .i64 z.arg, .int .i64 z.at_, .int .i64 3, .int .u8 z.kind, .string z.name, .int .i64 z.arg, .int .i64 z.at_, .int .i64 4, .int .u8 z.kind, .string z.name, .int .i64 z.arg, .int .i64 z.at_, .int .i64 4, .int .u8 z.kind, .string z.name, .int .i64 z.arg, .int .i64 z.at_] 33)).heap.size := by simp
    have HO := hide (once_any 7 _ _ _ (rd_lt HX0.out hs6))
    rw [show (kO z).length = 8 from rfl] at HO
    go_wp2_with (first
      | (go_at_call 4; refine HO.out.mono ?_; rintro e v1 ⟨rfl, g1⟩)
      | (go_at_call 10; refine (works_any _).mono ?_; rintro e v2 ⟨rfl, g2⟩))
    go_ret
    exact ⟨rfl, (hF5.trans (hF6.trans ((Fr.of_below' g1).trans g2))).to_below⟩
end Go.Proofs.Ythfihlojpmhagaa
