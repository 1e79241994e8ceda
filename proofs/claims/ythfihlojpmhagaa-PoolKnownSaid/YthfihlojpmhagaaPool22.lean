/- The pool's laws: PoolNone. -/
import Derived.Test.YthfihlojpmhagaaPool21
namespace Go.Proofs.Ythfihlojpmhagaa
open Go.RowKit

set_option maxHeartbeats 2000000 in
theorem none_any (ak k : Int) (nm : ByteArray) (x t : Int) (w : World) :
    Calls Try.prog 5 #[.agg #[.int .i64 ak, .int .u8 k, .string nm, .int .i64 x, .int .i64 t]] w fun e w' => e = .returned (.bool true) ∧ Below w.heap.size w w' := by
  have HB := hide (heap_alloc_new w (.cells #[.int .i64 ak, .int .u8 k, .string nm, .int .i64 x, .int .i64 t] 33))
  have F0 := hide (Fr.alloc (Fr.refl (fun _ => False) w) (.cells #[.int .i64 ak, .int .u8 k, .string nm, .int .i64 x, .int .i64 t] 33))
  go_enter Try.func5, Try.ntmps5
  go_wp2_with fail
  refine (next_nil _).mono ?_
  rintro e w1 ⟨rfl, b1⟩
  have HB1 := hide ((b1.block w.heap.size (by simp)).trans HB.out)
  have F1 := hide (F0.out.trans (Fr.of_below' b1))
  have s1 : w.heap.size < w1.heap.size := (Array.getElem?_eq_some_iff.1 HB1.out).1
  clear b1
  go_wp2_with fail
  have HB2 := hide ((Below.heap_alloc w1 (.cells #[.int .u8 0, .string ⟨#[]⟩, .int .i64 0, .int .i64 0] 31) w.heap.size s1).trans HB1.out)
  have HE2 := hide (heap_alloc_new w1 (.cells #[.int .u8 0, .string ⟨#[]⟩, .int .i64 0, .int .i64 0] 31))
  have F2 := hide (F1.out.alloc (.cells #[.int .u8 0, .string ⟨#[]⟩, .int .i64 0, .int .i64 0] 31))
  generalize w1.alloc (.cells #[.int .u8 0, .string ⟨#[]⟩, .int .i64 0, .int .i64 0] 31) = w2 at *
  generalize w1.heap.size = ge at *
  have se : ge < w2.heap.size := (Array.getElem?_eq_some_iff.1 HE2.out).1
  have sb : w.heap.size < w2.heap.size := (Array.getElem?_eq_some_iff.1 HB2.out).1
  clear HB1 F1 s1
  refine (rows_nil _).mono ?_
  rintro e w3 ⟨rfl, b3⟩
  have G3 := hide (Fr.of_below' b3)
  obtain ⟨y0, y1, y2, y3⟩ := act_cells ((b3.block w.heap.size sb).trans HB2.out)
  clear b3
  go_wp2_with fail
  refine (put_nil k nm x t _).mono ?_
  rintro e w4 ⟨rfl, b4⟩
  have G4 := hide (G3.out.trans (Fr.of_below' b4))
  clear y0 y1 y2 y3
  obtain ⟨y0, y1, y2, y3⟩ := act_cells ((G4.out.block w.heap.size sb (fun h => h)).trans HB2.out)
  clear b4
  go_wp2_with fail
  refine (defer_nil k nm x t _).mono ?_
  rintro e w5 ⟨rfl, b5⟩
  have G5 := hide (G4.out.trans (Fr.of_below' b5))
  clear y0 y1 y2 y3
  obtain ⟨y0, y1, y2, y3⟩ := act_cells ((G5.out.block w.heap.size sb (fun h => h)).trans HB2.out)
  clear b5
  go_wp2_with fail
  refine (recall_nil _).mono ?_
  rintro e w6 ⟨rfl, b6⟩
  have G6 := hide (G5.out.trans (Fr.of_below' b6))
  clear y0 y1 y2 y3
  obtain ⟨y0, y1, y2, y3⟩ := act_cells ((G6.out.block w.heap.size sb (fun h => h)).trans HB2.out)
  clear b6
  obtain ⟨e0, e1, e2, e3⟩ := ev_cells ((G6.out.block ge se (fun h => h)).trans HE2.out)
  go_wp2_with fail
  refine (gone_nil k t _).mono ?_
  rintro e w7 ⟨rfl, b7⟩
  have G7 := hide (G6.out.trans (Fr.of_below' b7))
  clear y0 y1 y2 y3 e0 e1 e2 e3
  obtain ⟨y0, y1, y2, y3⟩ := act_cells ((G7.out.block w.heap.size sb (fun h => h)).trans HB2.out)
  clear b7
  go_wp2_with fail
  refine (len_nil _).mono ?_
  rintro e w8 ⟨rfl, b8⟩
  have G8 := hide (G7.out.trans (Fr.of_below' b8))
  clear y0 y1 y2 y3
  obtain ⟨y0, y1, y2, y3⟩ := act_cells ((G8.out.block w.heap.size sb (fun h => h)).trans HB2.out)
  clear b8
  go_wp2_with fail
  refine (room_nil _).mono ?_
  rintro e w9 ⟨rfl, b9⟩
  have G9 := hide (G8.out.trans (Fr.of_below' b9))
  clear y0 y1 y2 y3
  obtain ⟨y0, y1, y2, y3⟩ := act_cells ((G9.out.block w.heap.size sb (fun h => h)).trans HB2.out)
  clear b9
  go_wp2_with (go_at_call 10; refine (works_any _).mono ?_; rintro e w10 ⟨rfl, f10⟩)
  go_ret
  exact ⟨rfl, ((F2.out.trans G9.out).trans f10).to_below⟩
end Go.Proofs.Ythfihlojpmhagaa
