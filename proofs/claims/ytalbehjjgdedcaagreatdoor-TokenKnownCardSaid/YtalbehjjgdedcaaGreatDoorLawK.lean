/- token: the closed examples: rows of texts and of bytes in memory. -/
import Derived.Test.YtalbehjjgdedcaaGreatDoorLawJ
import Derived.Test.YtalbehjjgdedcaaGreatDoorLawU
import Derived.Test.YtalbehjjgdedcaaGreatDoorTokO
import Derived.BigRegion
import Derived.Deep.RegionHeldLaw
namespace Go.Proofs.YtalbehjjgdedcaaGreatDoor
open Go.RowKit Go.Lib
attribute [local go_sem ↓] Go.wp_at_zero Go.wp_at_succ

def strC : Cod ByteArray where
  size := 1
  cells x := [.string x]
  len _ := rfl
  one x u hu := by simp only [List.mem_cons, List.not_mem_nil, or_false] at hu; subst hu; rfl
  pos := by decide
def byteC : Cod UInt8 where
  size := 1
  cells x := [.int .u8 (x.toNat : Int)]
  len _ := rfl
  one x u hu := by simp only [List.mem_cons, List.not_mem_nil, or_false] at hu; subst hu; rfl
  pos := by decide
/-- a row that is made at once -/
theorem rd_row {α : Type} (C : Cod α) (w : World) (l : List α) (E : TypeId) (h : l.length ≤ maxLen) (cs : Array Value) (hc : cs.toList = C.flat l) : Rd C (w.alloc (.cells cs E)) (fun k => k = w.heap.size) (.slice (some ⟨w.heap.size, 0, none⟩) l.length l.length) l := by
  refine ⟨_, l.length, rfl, Nat.le_refl _, h, fun h => (by cases h), fun _ => ⟨w.heap.size, 0, rfl, rfl, fun j u hu => ?_⟩⟩
  rw [cell_of_row _ _ _ _ _ _ (heap_alloc_new w _), Nat.zero_add, ← Array.getElem?_toList, hc]
  exact hu

/-- the variables stand, and nothing that was has turned -/
def GG (w W : World) : Prop := St W ∧ Fr (fun _ => False) w W
theorem GG.alloc {w W : World} (h : GG w W) (o : Obj) : GG w (W.alloc o) := ⟨h.1.same ((Fr.refl _ _).alloc o), h.2.alloc o⟩
theorem GG.drew {w W : World} (h : GG w W) : GG w W.drew := ⟨h.1.same (Fr.refl _ _).drew, h.2.drew⟩
theorem GG.next {w W W' : World} (h : GG w W) (f : Fr (fun _ => False) W W') : GG w W' := ⟨h.1.same f, h.2.trans f⟩
theorem gCuts {w : World} (s : ByteArray) (W : World) (h : GG w W) (hs : s.size ≤ 100000) : Calls Tryz.prog 3 #[.string s] W fun e w' => e = .returned (.bool true) ∧ GG w w' :=
  (tokenCuts_any s W h.1 (by omega)).mono fun _ _ ⟨he, f⟩ => ⟨he, h.next f⟩
theorem gJoins {w : World} (s t : ByteArray) (W : World) (h : GG w W) (hs : s.size ≤ 100000) (ht : t.size ≤ 100000) : Calls Tryz.prog 5 #[.string s, .string t] W fun e w' => e = .returned (.bool true) ∧ GG w w' :=
  (tokenJoins_any s t W h.1 (by omega) (by omega)).mono fun _ _ ⟨he, f⟩ => ⟨he, h.next f⟩
theorem gOrder {w : World} (s : ByteArray) (W : World) (h : GG w W) : Calls Tryz.prog 20 #[.string s] W fun e w' => e = .returned (.bool true) ∧ GG w w' :=
  (tokenOrder_any s W h.1).mono fun _ _ ⟨he, f⟩ => ⟨he, h.next f⟩

def exT : List ByteArray := [⟨#[60, 97, 32, 120, 61, 34, 49, 34, 32, 121, 61, 39, 38, 108, 116, 59, 39, 47, 62, 98]⟩, ⟨#[60, 63, 120, 109, 108, 63, 62, 60, 97, 62, 116, 60, 33, 45, 45, 32, 110, 32, 45, 45, 62, 60, 47, 97, 32, 62]⟩, ⟨#[97, 60, 98, 32, 99, 61, 100, 62]⟩, ⟨#[60, 97, 9, 10, 13, 32, 120, 32, 61, 32, 39, 49, 39, 9, 121, 10, 61, 10, 34, 34, 13, 62]⟩, ⟨#[60, 97, 32, 120, 61, 39, 49, 39, 121, 61, 39, 50, 39, 62]⟩, ⟨#[60, 97, 32, 120, 62]⟩, ⟨#[60, 97, 32, 120, 61, 62]⟩, ⟨#[60, 97, 32, 120, 61, 39, 60, 39, 62]⟩, ⟨#[60, 97, 47, 32, 62]⟩, ⟨#[60, 32, 97, 62]⟩, ⟨#[60, 47, 97, 32, 98, 62]⟩, ⟨#[60, 47, 62]⟩, ⟨#[60, 33, 45, 45, 62, 45, 45, 62]⟩, ⟨#[60, 33, 45, 45, 45, 62]⟩, ⟨#[60, 63, 62, 63, 62]⟩, ⟨#[60, 33, 120, 62]⟩, ⟨#[38, 35, 54, 53, 59, 38]⟩, ⟨#[60, 97, 32, 120, 61, 39, 38, 98, 59, 39, 32, 121, 61, 39, 38, 39, 62]⟩, ⟨#[93, 93, 62]⟩]
def exTv : Array Value := (exT.map Value.string).toArray
theorem exTv_get (j : Nat) (h : j < 19) : ∃ x : ByteArray, exTv[j]? = some (.string x) ∧ x.size ≤ 30 := by
  have hl : exT.length = 19 := rfl
  have ha : (exT.all fun x => decide (x.size ≤ 30)) = true := by decide
  refine ⟨exT[j]'(by omega), ?_, ?_⟩
  · unfold exTv
    simp
  · exact of_decide_eq_true (List.all_eq_true.1 ha _ (List.getElem_mem _))
def exB : List Nat := [32, 60, 62, 47, 61, 34, 39, 38, 97, 33, 63, 45, 0, 255]
def exBv : Array Value := (exB.map fun n : Nat => Value.int .u8 (n : Int)).toArray
theorem exBv_get (j : Nat) (h : j < 14) : ∃ n : Nat, exBv[j]? = some (.int .u8 (n : Int)) ∧ n < 256 := by
  have hl : exB.length = 14 := rfl
  have ha : (exB.all fun x => decide (x < 256)) = true := by decide
  refine ⟨exB[j]'(by omega), ?_, ?_⟩
  · unfold exBv
    simp only [List.getElem?_toArray, List.getElem?_map, Option.map_eq_some_iff]
    exact ⟨_, List.getElem?_eq_getElem (by omega), rfl⟩
  · exact of_decide_eq_true (List.all_eq_true.1 ha _ (List.getElem_mem _))
theorem one_byte (W : World) (n : Nat) (h : n < 256) : ∃ S : ByteArray, S.size = 1 ∧ (convert 51 9 (.slice (some ⟨W.heap.size, 0, none⟩) 1 1)).run Tryz.prog (W.alloc (.cells #[.int .u8 (n : Int)] 5)) = .ok (.string S) (W.alloc (.cells #[.int .u8 (n : Int)] 5)) := by
  refine ⟨⟨[UInt8.ofNat n].toArray⟩, rfl, ?_⟩
  refine run_convert_bytes_back (P := Tryz.prog) _ 51 9 5 _ 1 [UInt8.ofNat n] Tryz.underlying51 Tryz.underlying5 Tryz.underlying9 ?_
  intro j hj
  obtain rfl : j = 0 := by simpa using hj
  have hb := heap_alloc_new W (.cells #[.int .u8 (n : Int)] 5)
  have hu : (UInt8.ofNat n).toNat = n := by simp; omega
  show (W.alloc _).cell? ⟨W.heap.size, 0 + 0, none⟩ = some (.int .u8 ((UInt8.ofNat n).toNat : Int))
  rw [cell_of_row _ _ _ _ _ _ hb, hu]
  rfl

theorem szApp {A B : ByteArray} (h : A.size ≤ 300) (hB : B.size ≤ 300) : (A ++ B).size ≤ 100000 := by rw [ByteArray.size_append]; omega
theorem byte_info : (Tryz.prog.info? 5).map (fun i => (i.zero, i.size, i.bytes)) = some (some (.int .u8 0), 1, 1) := by kernel_rfl
theorem zeros (W : World) (n : Nat) (h : n ≤ 100000) : ∃ S : ByteArray, S.size = n ∧ (Instr.makeSlice 51 (.int .i64 (n : Int)) (.int .i64 (n : Int))).run Tryz.prog W = .ok (.slice (some ⟨W.heap.size, 0, none⟩) n n) (W.alloc (.cells (madeCells #[.int .u8 0] n) 5)) ∧
    (convert 51 9 (.slice (some ⟨W.heap.size, 0, none⟩) n n)).run Tryz.prog (W.alloc (.cells (madeCells #[.int .u8 0] n) 5)) = .ok (.string S) (W.alloc (.cells (madeCells #[.int .u8 0] n) 5)) := by
  have hi := byte_info
  cases hc : Tryz.prog.info? 5 with
  | none => rw [hc] at hi; cases hi
  | some i =>
    rw [hc] at hi
    simp only [Option.map_some, Option.some.injEq, Prod.mk.injEq] at hi
    obtain ⟨h1, h2, h3⟩ := hi
    refine ⟨⟨(List.replicate n 0).toArray⟩, by show (List.replicate n (0 : UInt8)).toArray.size = n; simp, ?_, ?_⟩
    · have := run_makeSlice (P := Tryz.prog) W 51 5 i (.int .u8 0) Tryz.underlying51 hc h1 .i64 .i64 n n (by omega) (Int.le_refl _) (by rw [h2]; omega) (by rw [h3]; omega) (by omega)
      rw [h2, Int.toNat_natCast, Nat.mul_one] at this
      exact this
    · have := run_convert_bytes_back (P := Tryz.prog) (W.alloc (.cells (madeCells #[.int .u8 0] n) 5)) 51 9 5 ⟨W.heap.size, 0, none⟩ n (List.replicate n 0) Tryz.underlying51 Tryz.underlying5 Tryz.underlying9 (fun j hj => by
        rw [List.length_replicate] at hj
        have hb := heap_alloc_new W (.cells (madeCells #[.int .u8 0] n) 5)
        rw [Addr.add_lit, Nat.zero_add, cell_of_row _ _ _ _ _ _ hb, ← Array.getElem?_toList, toList_madeCells_one, List.getElem?_replicate, if_pos hj, List.getElem_replicate]
        rfl)
      rw [List.length_replicate] at this
      exact this

theorem letter26 (W : World) (n : Nat) : ∃ S : ByteArray, S.size = 1 ∧ (convert 51 9 (.slice (some ⟨W.heap.size, 0, none⟩) 1 1)).run Tryz.prog (W.alloc (.cells #[.int .u8 (97 + (n : Int) % 26)] 5)) = .ok (.string S) (W.alloc (.cells #[.int .u8 (97 + (n : Int) % 26)] 5)) := by
  have e : ((97 + n % 26 : Nat) : Int) = 97 + (n : Int) % 26 := by omega
  have := one_byte W (97 + n % 26) (by omega)
  rw [e] at this
  exact this
def exP (h : Nat) : List PartX := [⟨⟨1, ⟨#[97, 58, 98]⟩, some ⟨h, 0, none⟩, 1, 1, ⟨#[]⟩, false⟩, [(⟨#[120]⟩, ⟨#[34, 60, 10]⟩)]⟩,
  ⟨⟨0, ⟨#[]⟩, none, 0, 0, ⟨#[97, 60, 38, 62, 13]⟩, false⟩, []⟩, ⟨⟨0, ⟨#[]⟩, none, 0, 0, ⟨#[98]⟩, true⟩, []⟩, ⟨⟨3, ⟨#[99]⟩, none, 0, 0, ⟨#[]⟩, false⟩, []⟩, ⟨⟨2, ⟨#[97, 58, 98]⟩, none, 0, 0, ⟨#[]⟩, true⟩, []⟩]
theorem gBack {w : World} (W : World) (h : GG w W) : Calls Tryz.prog 4 #[.slice (some ⟨W.heap.size + 1, 0, none⟩) 5 5]
    ((W.alloc (.cells #[.string ⟨#[120]⟩, .string ⟨#[34, 60, 10]⟩] 38)).alloc (.cells #[.int .i64 1, .string ⟨#[97, 58, 98]⟩, .slice (some ⟨W.heap.size, 0, none⟩) 1 1, .string ⟨#[]⟩, .bool false, .int .i64 0, .string ⟨#[]⟩, .slice none 0 0, .string ⟨#[97, 60, 38, 62, 13]⟩, .bool false, .int .i64 0, .string ⟨#[]⟩, .slice none 0 0, .string ⟨#[98]⟩, .bool true, .int .i64 3, .string ⟨#[99]⟩, .slice none 0 0, .string ⟨#[]⟩, .bool false, .int .i64 2, .string ⟨#[97, 58, 98]⟩, .slice none 0 0, .string ⟨#[]⟩, .bool true] 42))
    fun e w' => e = .returned (.bool true) ∧ GG w w' := by
  have h1 := rd_pair W ⟨#[120]⟩ ⟨#[34, 60, 10]⟩ 38
  have g1 := h.alloc (.cells #[.string ⟨#[120]⟩, .string ⟨#[34, 60, 10]⟩] 38)
  have hz : (W.alloc (.cells #[.string ⟨#[120]⟩, .string ⟨#[34, 60, 10]⟩] 38)).heap.size = W.heap.size + 1 := by simp
  generalize W.alloc (.cells #[.string ⟨#[120]⟩, .string ⟨#[34, 60, 10]⟩] 38) = W1 at *
  have h2 := rd_row partC W1 ((exP W.heap.size).map (·.p)) 42 (show 5 ≤ maxLen by decide) #[.int .i64 1, .string ⟨#[97, 58, 98]⟩, .slice (some ⟨W.heap.size, 0, none⟩) 1 1, .string ⟨#[]⟩, .bool false, .int .i64 0, .string ⟨#[]⟩, .slice none 0 0, .string ⟨#[97, 60, 38, 62, 13]⟩, .bool false, .int .i64 0, .string ⟨#[]⟩, .slice none 0 0, .string ⟨#[98]⟩, .bool true, .int .i64 3, .string ⟨#[99]⟩, .slice none 0 0, .string ⟨#[]⟩, .bool false, .int .i64 2, .string ⟨#[97, 58, 98]⟩, .slice none 0 0, .string ⟨#[]⟩, .bool true] rfl
  have g2 := g1.alloc (.cells #[.int .i64 1, .string ⟨#[97, 58, 98]⟩, .slice (some ⟨W.heap.size, 0, none⟩) 1 1, .string ⟨#[]⟩, .bool false, .int .i64 0, .string ⟨#[]⟩, .slice none 0 0, .string ⟨#[97, 60, 38, 62, 13]⟩, .bool false, .int .i64 0, .string ⟨#[]⟩, .slice none 0 0, .string ⟨#[98]⟩, .bool true, .int .i64 3, .string ⟨#[99]⟩, .slice none 0 0, .string ⟨#[]⟩, .bool false, .int .i64 2, .string ⟨#[97, 58, 98]⟩, .slice none 0 0, .string ⟨#[]⟩, .bool true] 42)
  have f2 := (Fr.refl (fun _ => False) W1).alloc (.cells #[.int .i64 1, .string ⟨#[97, 58, 98]⟩, .slice (some ⟨W.heap.size, 0, none⟩) 1 1, .string ⟨#[]⟩, .bool false, .int .i64 0, .string ⟨#[]⟩, .slice none 0 0, .string ⟨#[97, 60, 38, 62, 13]⟩, .bool false, .int .i64 0, .string ⟨#[]⟩, .slice none 0 0, .string ⟨#[98]⟩, .bool true, .int .i64 3, .string ⟨#[99]⟩, .slice none 0 0, .string ⟨#[]⟩, .bool false, .int .i64 2, .string ⟨#[97, 58, 98]⟩, .slice none 0 0, .string ⟨#[]⟩, .bool true] 42)
  have hz2 : (W1.alloc (.cells #[.int .i64 1, .string ⟨#[97, 58, 98]⟩, .slice (some ⟨W.heap.size, 0, none⟩) 1 1, .string ⟨#[]⟩, .bool false, .int .i64 0, .string ⟨#[]⟩, .slice none 0 0, .string ⟨#[97, 60, 38, 62, 13]⟩, .bool false, .int .i64 0, .string ⟨#[]⟩, .slice none 0 0, .string ⟨#[98]⟩, .bool true, .int .i64 3, .string ⟨#[99]⟩, .slice none 0 0, .string ⟨#[]⟩, .bool false, .int .i64 2, .string ⟨#[97, 58, 98]⟩, .slice none 0 0, .string ⟨#[]⟩, .bool true] 42)).heap.size = W.heap.size + 2 := by simp; omega
  generalize W1.alloc _ = W2 at *
  rw [hz] at h2
  have h1' : Rd pairC W2 (fun k => k = W.heap.size ∨ k = W.heap.size + 1) _ _ := (h1.fr f2 (fun k hk => ⟨by omega, fun h => h⟩)).mono (fun k hk => .inl hk)
  refine (tokenBack_any (exP W.heap.size) _ 5 5 (fun k => k = W.heap.size ∨ k = W.heap.size + 1) W2 g2.1 (h2.mono (fun k hk => .inr hk)) ?_ (fun k hk => by omega)).mono fun e w' ⟨he, f⟩ => ⟨he, g2.next f⟩
  intro x hx
  simp only [exP, List.mem_cons, List.not_mem_nil, or_false] at hx
  rcases hx with rfl | rfl | rfl | rfl | rfl
  · exact ⟨h1', show 3 ≤ 9223372036854775807 by decide, show 0 ≤ 9223372036854775807 by decide, fun q hq => by
      simp only [List.mem_cons, List.not_mem_nil, or_false] at hq
      subst hq
      exact ⟨by decide, by decide⟩⟩
  · exact ⟨Rd.nil_ _ _ _, by decide, by decide, fun q hq => by cases hq⟩
  · exact ⟨Rd.nil_ _ _ _, by decide, by decide, fun q hq => by cases hq⟩
  · exact ⟨Rd.nil_ _ _ _, by decide, by decide, fun q hq => by cases hq⟩
  · exact ⟨Rd.nil_ _ _ _, by decide, by decide, fun q hq => by cases hq⟩

set_option maxRecDepth 100000 in
set_option maxHeartbeats 8000000 in
theorem tokenKnown_any (w : World) (hst : St w) : Calls Tryz.prog 6 #[] w fun e w' => e = .returned (.bool true) ∧ Fr (fun _ => False) w w' := by
  have g0 : GG w w := ⟨hst, Fr.refl _ _⟩
  clear hst
  go_enter Tryz.func6, Tryz.ntmps6
  go_wp2_with fail
  have hG1 : GG w (w.alloc (.cells exTv 9)) := g0.alloc _
  have hb0 := heap_alloc_new w (.cells exTv 9)
  have HB := hide hb0
  clear hb0 g0
  go_loopw [10] (fun i wr => ∃ j : Nat, j ≤ 19 ∧ i = .int .i64 j ∧ GG (w.alloc (.cells exTv 9)) wr) (fun i _ => 19 - (Go.RowKit.intOf i).toNat)
  case atStart => exact ⟨0, by omega, rfl, ⟨hG1.1, Fr.refl _ _⟩⟩
  case round =>
    obtain ⟨j, hj, rfl, hgq⟩ := hrel
    by_cases hjl : j < 19
    · have hji : (j : Int) < 19 := by omega
      obtain ⟨s, hx, hxs⟩ := exTv_get j hjl
      have hcell : wr.cell? ⟨w.heap.size, j, none⟩ = some (.string s) := by
        rw [hgq.2.cell (p := ⟨w.heap.size, j, none⟩) (by simp) (fun h => h), cell_of_row _ _ _ _ _ _ HB.out, hx]
      clear hx
      go_wp2_with fail
      generalize wr = W0 at *
      go_loopw [3] (fun i wr => ∃ k : Nat, k ≤ s.size + 1 ∧ i = .int .i64 k ∧ GG (w.alloc (.cells exTv 9)) wr) (fun i _ => s.size + 1 - (Go.RowKit.intOf i).toNat)
      case atStart => exact ⟨0, by omega, rfl, hgq⟩
      case round =>
        clear hgq
        obtain ⟨k, hk, rfl, hgr⟩ := hrel
        by_cases hkl : k ≤ s.size
        · have hki : (k : Int) ≤ s.size := by omega
          have z1 : (s.extract 0 k).size ≤ 30 := by rw [ByteArray.size_extract]; omega
          have z2 : (s.extract k s.size).size ≤ 30 := by rw [ByteArray.size_extract]; omega
          go_wp2_with (first
            | (go_at_call 3; refine (gCuts _ _ (by assumption) (by omega)).mono ?_; rintro e w' ⟨rfl, g'⟩)
            | (go_at_call 5; refine (gJoins _ _ _ (by assumption) (by omega) (by omega)).mono ?_; rintro e w' ⟨rfl, g'⟩)
            | (go_at_call 20; refine (gOrder _ _ (by assumption)).mono ?_; rintro e w' ⟨rfl, g'⟩))
          generalize w' = W1 at *
          have hG3 : GG (W1.alloc (.cells exBv 5)) (W1.alloc (.cells exBv 5)) := ⟨(g'.alloc _).1, Fr.refl _ _⟩
          have F1 : Hid (Fr (fun _ => False) (w.alloc (.cells exTv 9)) (W1.alloc (.cells exBv 5))) := hide (g'.2.alloc _)
          have HB1 := hide (heap_alloc_new W1 (.cells exBv 5))
          clear g' hgr
          go_loopw [59] (fun i wr => ∃ b : Nat, b ≤ 14 ∧ i = .int .i64 b ∧ GG (W1.alloc (.cells exBv 5)) wr) (fun i _ => 14 - (Go.RowKit.intOf i).toNat)
          case atStart => exact ⟨0, by omega, rfl, hG3⟩
          case round =>
            clear hG3
            obtain ⟨b, hb, rfl, hgb⟩ := hrel
            by_cases hbl : b < 14
            · have hbi : (b : Int) < 14 := by omega
              obtain ⟨c, hx, hc⟩ := exBv_get b hbl
              have hcell : wr.cell? ⟨W1.heap.size, b, none⟩ = some (.int .u8 (c : Int)) := by
                rw [hgb.2.cell (p := ⟨W1.heap.size, b, none⟩) (by simp) (fun h => h), cell_of_row _ _ _ _ _ _ HB1.out, hx]
              clear hx
              by_cases hks : k < s.size
              · have hki : (k : Int) < s.size := by omega
                obtain ⟨S, hS, hcv⟩ := one_byte wr.drew c hc
                have hcv : (convert 51 9 (.slice (some ⟨wr.heap.size, 0, none⟩) 1 1)).run Tryz.prog (wr.alloc (.cells #[.int .u8 (c : Int)] 5)).drew = .ok (.string S) (wr.alloc (.cells #[.int .u8 (c : Int)] 5)).drew := hcv
                have hw1 : IntKind.i64.wrap ((k : Int) + 1) = (k : Int) + 1 := IntWalk.i64_in _ (by omega)
                have hk0 : (0 : Int) ≤ k := by omega
                have hk1 : (k : Int) + 1 ≤ s.size := by omega
                have hk2 : (0 : Int) ≤ (k : Int) + 1 := by omega
                have z3 : (s.extract (k + 1) s.size).size ≤ 30 := by rw [ByteArray.size_extract]; omega
                have z4 : (s.extract 0 k ++ S).size ≤ 31 := by rw [ByteArray.size_append]; omega
                go_wp2_with fail
                go_region_held_law (fun _ => True) (first | trivial) ((go_at_call 3; refine (gCuts _ _ (by first | assumption | exact (hgb.alloc _).drew) (by rw [ByteArray.size_append]; omega)).mono ?_; rintro e w' ⟨rfl, g'⟩))
                go_wp2_with fail
                go_roundw
                case rel => exact ⟨b + 1, by omega, by go_num, g'⟩
                case measure => simp [Go.RowKit.intOf]; omega
              · have hki : ¬ (k : Int) < s.size := by omega
                go_wp2_with fail
                go_region
                go_wp2_with fail
                go_roundw
                case rel => exact ⟨b + 1, by omega, by go_num, hgb.drew⟩
                case measure => simp [Go.RowKit.intOf]; omega
            · have hbi : ¬ (b : Int) < 14 := by omega
              go_wp2_with fail
              go_roundw
              case rel => exact ⟨k + 1, by omega, by go_num, ⟨hgb.1, F1.out.trans hgb.2⟩⟩
              case measure => simp [Go.RowKit.intOf]; omega
        · have hki : ¬ (k : Int) ≤ s.size := by omega
          go_wp2_with fail
          go_roundw
          case rel => exact ⟨j + 1, by omega, by go_num, hgr⟩
          case measure => simp [Go.RowKit.intOf]; omega
    · have hji : ¬ (j : Int) < 19 := by omega
      go_wp2_with fail
      have F2 : Hid (Fr (fun _ => False) w wr) := hide (Fr.trans ((Fr.refl _ _).alloc _) hgq.2)
      have hG4 : GG wr wr := ⟨hgq.1, Fr.refl _ _⟩
      clear hgq hG1
      generalize wr = W2 at *
      go_loopw [6, 7] (fun m i wr => ∃ (n : Nat) (A : ByteArray), n ≤ 34 ∧ i = .int .i64 n ∧ m = .string A ∧ A.size ≤ 2 + 6 * n ∧ GG W2 wr) (fun _ i _ => 34 - (Go.RowKit.intOf i).toNat)
      case atStart => exact ⟨0, _, by omega, rfl, rfl, by decide, hG4⟩
      case round =>
        clear hG4
        obtain ⟨n, A, hn, rfl, rfl, hA, hgn⟩ := hrel
        by_cases hnl : n < 34
        · have hni : (n : Int) < 34 := by omega
          have z1 : A.size ≤ 300 := by omega
          have z2 : (A ++ (⟨#[32, 98, 61, 39]⟩ : ByteArray)).size ≤ 304 := by rw [ByteArray.size_append]; have : (⟨#[32, 98, 61, 39]⟩ : ByteArray).size = 4 := rfl; omega
          go_wp2_with (go_at_call 3; refine (gCuts _ _ (by assumption) (szApp (by assumption) (by decide))).mono ?_; rintro e w' ⟨rfl, g'⟩; obtain ⟨S, hS, hcv⟩ := letter26 w' n; have z3 : (A ++ (⟨#[32, 98, 61, 39]⟩ : ByteArray) ++ S).size ≤ 305 := by rw [ByteArray.size_append, hS]; omega)
          go_roundw
          case rel => exact ⟨n + 1, _, by omega, by go_num, rfl, by rw [ByteArray.size_append, ByteArray.size_append, ByteArray.size_append, hS]; show A.size + 4 + 1 + 1 ≤ _; omega, g'.alloc _⟩
          case measure => simp [Go.RowKit.intOf]; omega
        · obtain rfl : n = 34 := by omega
          obtain ⟨Z, hZ, hmk, hcv⟩ := zeros wr 65537 (by decide)
          have hmk : (Instr.makeSlice 51 (.int .i64 65537) (.int .i64 65537)).run Tryz.prog wr = .ok (.slice (some ⟨wr.heap.size, 0, none⟩) 65537 65537) (wr.alloc (.cells (madeCells #[.int .u8 0] 65537) 5)) := hmk
          have hZs : Z.size ≤ 100000 := by rw [hZ]; decide
          generalize (madeCells #[.int .u8 0] 65537) = MZ at *
          go_wp2_with (first
            | (go_at_call 3; refine (gCuts _ _ (by first | assumption | exact hgn.alloc _) (by assumption)).mono ?_; rintro e w' ⟨rfl, g'⟩)
            | (go_at_call 4; refine (gBack _ (by assumption)).mono ?_; rintro e w5 ⟨rfl, g5⟩)
            | (go_at_call 11; refine (works_any _ g5.1).mono ?_; rintro e w6 ⟨rfl, f6⟩))
          go_ret
          exact ⟨rfl, F2.out.trans (g5.2.trans f6)⟩
end Go.Proofs.YtalbehjjgdedcaaGreatDoor
