/- EntityKnown. -/
import Derived.Test.YtlmgckgblkndmaaDoorEntL
namespace Go.Proofs.YtlmgckgblkndmaaDoor
open Go.RowKit Go.Lib
attribute [local go_sem ↓] Go.wp_at_zero Go.wp_at_succ

/-- the variables stand, and nothing that was has turned -/
def GG (w W : World) : Prop := St W ∧ Fr (fun _ => False) w W
theorem GG.alloc {w W : World} (h : GG w W) (o : Obj) : GG w (W.alloc o) := ⟨h.1.same ((Fr.refl _ _).alloc o), h.2.alloc o⟩
theorem GG.next {w W W' : World} (h : GG w W) (f : Fr (fun _ => False) W W') : GG w W' := ⟨h.1.same f, h.2.trans f⟩
theorem gDecode {w : World} (s : ByteArray) (W : World) (h : GG w W) : Calls Tryd.prog 3 #[.string s] W fun e w' => e = .returned (.bool true) ∧ GG w w' :=
  (entityDecode_any s W h.1).mono fun _ _ ⟨he, f⟩ => ⟨he, h.next f⟩
theorem gEncode {w : World} (s : ByteArray) (a : Bool) (W : World) (h : GG w W) : Calls Tryd.prog 4 #[.string s, .bool a] W fun e w' => e = .returned (.bool true) ∧ GG w w' :=
  (entityEncode_any s a W h.1).mono fun _ _ ⟨he, f⟩ => ⟨he, h.next f⟩
theorem gBack {w : World} (s : ByteArray) (a : Bool) (W : World) (h : GG w W) : Calls Tryd.prog 5 #[.string s, .bool a] W fun e w' => e = .returned (.bool true) ∧ GG w w' :=
  (entityBack_any s a W h.1).mono fun _ _ ⟨he, f⟩ => ⟨he, h.next f⟩
theorem gPieces {w : World} (s t : ByteArray) (a : Bool) (W : World) (h : GG w W) : Calls Tryd.prog 6 #[.string s, .string t, .bool a] W fun e w' => e = .returned (.bool true) ∧ GG w w' :=
  (entityPieces_any s t a W h.1).mono fun _ _ ⟨he, f⟩ => ⟨he, h.next f⟩

def exL : List ByteArray := [⟨#[38, 35, 48, 48, 48, 48, 48, 54, 53, 59]⟩, ⟨#[38, 35, 48, 48, 48, 48, 48, 48, 54, 53, 59]⟩, ⟨#[38, 35, 120, 48, 48, 48, 52, 49, 59]⟩, ⟨#[38, 35, 120, 48, 48, 48, 48, 52, 49, 59]⟩, ⟨#[38, 35, 120, 48, 48, 48, 48, 48, 52, 49, 59]⟩, ⟨#[38, 35, 49, 49, 49, 52, 49, 49, 49, 59]⟩, ⟨#[38, 35, 49, 49, 49, 52, 49, 49, 50, 59]⟩, ⟨#[38, 35, 120, 49, 48, 70, 70, 70, 70, 59]⟩, ⟨#[38, 35, 120, 49, 49, 48, 48, 48, 48, 59]⟩, ⟨#[38, 35, 120, 100, 56, 48, 48, 59]⟩, ⟨#[38, 35, 59]⟩, ⟨#[38, 35, 120, 59]⟩, ⟨#[38, 59]⟩, ⟨#[38, 35, 43, 53, 59]⟩, ⟨#[38, 35, 43, 54, 53, 59]⟩, ⟨#[38, 35, 120, 43, 52, 49, 59]⟩, ⟨#[38, 35, 120, 95, 49, 59]⟩, ⟨#[38, 35, 49, 95, 48, 59]⟩, ⟨#[38, 65, 77, 80, 59]⟩, ⟨#[38, 97, 109, 112]⟩, ⟨#[38, 35, 54, 53]⟩, ⟨#[38, 97, 112, 111, 115, 59, 38, 113, 117, 111, 116, 59, 38, 103, 116, 59]⟩, ⟨#[38, 38, 108, 116, 59]⟩, ⟨#[]⟩, ⟨#[97, 59, 98, 38, 99]⟩, ⟨#[38, 35, 88, 52, 49, 59]⟩, ⟨#[38, 32, 108, 116, 59]⟩]
def exS : Array Value := (exL.map Value.string).toArray
theorem exS_get (j : Nat) (h : j < 27) : ∃ x : ByteArray, exS[j]? = some (.string x) ∧ x.size ≤ 20 := by
  have hl : exL.length = 27 := rfl
  have ha : (exL.all fun x => decide (x.size ≤ 20)) = true := by decide
  refine ⟨exL[j]'(by omega), ?_, ?_⟩
  · unfold exS
    simp
  · exact of_decide_eq_true (List.all_eq_true.1 ha _ (List.getElem_mem _))
theorem one_byte (W : World) (n : Nat) (h : n < 256) : ∃ S : ByteArray, S.size = 1 ∧ (convert 33 9 (.slice (some ⟨W.heap.size, 0, none⟩) 1 1)).run Tryd.prog (W.alloc (.cells #[.int .u8 (n : Int)] 5)) = .ok (.string S) (W.alloc (.cells #[.int .u8 (n : Int)] 5)) := by
  refine ⟨⟨[UInt8.ofNat n].toArray⟩, rfl, ?_⟩
  refine run_convert_bytes_back (P := Tryd.prog) _ 33 9 5 _ 1 [UInt8.ofNat n] Tryd.underlying33 Tryd.underlying5 Tryd.underlying9 ?_
  intro j hj
  obtain rfl : j = 0 := by simpa using hj
  have hb := heap_alloc_new W (.cells #[.int .u8 (n : Int)] 5)
  have hu : (UInt8.ofNat n).toNat = n := by simp; omega
  show (W.alloc _).cell? ⟨W.heap.size, 0 + 0, none⟩ = some (.int .u8 ((UInt8.ofNat n).toNat : Int))
  rw [cell_of_row _ _ _ _ _ _ hb, hu]
  rfl

set_option maxRecDepth 100000 in
set_option maxHeartbeats 4000000 in
theorem entityKnown_any (w : World) (hst : St w) : Calls Tryd.prog 7 #[] w fun e w' => e = .returned (.bool true) ∧ Fr (fun _ => False) w w' := by
  have g0 : GG w w := ⟨hst, Fr.refl _ _⟩
  clear hst
  go_enter Tryd.func7, Tryd.ntmps7
  go_wp2_with fail
  go_loopw [1] (fun i wr => ∃ n : Nat, n ≤ 256 ∧ i = .int .i64 n ∧ GG w wr) (fun i _ => 256 - (Go.RowKit.intOf i).toNat)
  case atStart => exact ⟨0, by omega, rfl, g0⟩
  case round =>
    obtain ⟨n, hn, rfl, hg⟩ := hrel
    by_cases hlt : n < 256
    · have hni : (n : Int) < 256 := by omega
      obtain ⟨S, hS, hcv⟩ := one_byte wr n hlt
      have hgn := hg.alloc (.cells #[.int .u8 (n : Int)] 5)
      go_wp2_with (first
        | (go_at_call 4; refine (gEncode _ _ _ (by assumption)).mono ?_; rintro e w' ⟨rfl, g'⟩)
        | (go_at_call 3; refine (gDecode _ _ (by assumption)).mono ?_; rintro e w' ⟨rfl, g'⟩)
        | (go_at_call 5; refine (gBack _ _ _ (by assumption)).mono ?_; rintro e w' ⟨rfl, g'⟩))
      exact ⟨⟨n + 1, by omega, by go_num, g'⟩, by simp [Go.RowKit.intOf]; omega⟩
    · have hni : ¬ (n : Int) < 256 := by omega
      go_wp2_with fail
      generalize wr = W0 at *
      have hG2 : GG (W0.alloc (.cells exS 9)) (W0.alloc (.cells exS 9)) := ⟨(hg.alloc _).1, Fr.refl _ _⟩
      have F0 : Fr (fun _ => False) w (W0.alloc (.cells exS 9)) := hg.2.alloc _
      have hb0 := heap_alloc_new W0 (.cells exS 9)
      have HB := hide hb0
      clear hb0 g0 hg
      go_loopw [72] (fun i wq => ∃ j : Nat, j ≤ 27 ∧ i = .int .i64 j ∧ GG (W0.alloc (.cells exS 9)) wq) (fun i _ => 27 - (Go.RowKit.intOf i).toNat)
      case atStart => exact ⟨0, by omega, rfl, hG2⟩
      case round =>
        obtain ⟨j, hj, rfl, hgq⟩ := hrel
        by_cases hjl : j < 27
        · have hji : (j : Int) < 27 := by omega
          obtain ⟨x, hx, hxs⟩ := exS_get j hjl
          have hcell : wr.cell? ⟨W0.heap.size, j, none⟩ = some (.string x) := by
            rw [hgq.2.cell (p := ⟨W0.heap.size, j, none⟩) (by simp) (fun h => h), cell_of_row _ _ _ _ _ _ HB.out, hx]
          clear hx
          go_wp2_with (first
            | (go_at_call 3; refine (gDecode _ _ (by assumption)).mono ?_; rintro e w' ⟨rfl, g'⟩)
            | (go_at_call 5; refine (gBack _ _ _ (by assumption)).mono ?_; rintro e w' ⟨rfl, g'⟩)
            | (go_at_call 6; refine (gPieces _ _ _ _ (by assumption)).mono ?_; rintro e w' ⟨rfl, g'⟩))
          go_roundw
          case rel => exact ⟨j + 1, by omega, by go_num, g'⟩
          case measure => simp [Go.RowKit.intOf]; omega
        · obtain rfl : j = 27 := by omega
          go_wp2_with (go_at_call 8; refine (eworks_any _ hgq.1).mono ?_; rintro e w5 ⟨rfl, f5⟩)
          go_ret
          exact ⟨rfl, (F0.trans hgq.2).trans f5⟩
end Go.Proofs.YtlmgckgblkndmaaDoor
