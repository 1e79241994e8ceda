/- entity: names, number's callees. -/
import Derived.Test.YtalbehjjgdedcaaGreatDoorEntQ
import Derived.Test.YtalbehjjgdedcaaGreatDoorBld
import Derived.Test.YtalbehjjgdedcaaGreatDoorSm
namespace Go.Proofs.YtalbehjjgdedcaaGreatDoor
open Go.RowKit Go.Lib
attribute [local go_sem ↓] Go.wp_at_zero Go.wp_at_succ

/-- what the walks ask of the package's variables -/
structure St (w : World) : Prop where
  ub : UB w
  ml : ∃ m, w.cell? ⟨1, 0, none⟩ = some (.int .i64 m)
  es : ∃ t p, w.cell? ⟨4, 0, none⟩ = some (.iface t p)
theorem St.same {w w' : World} (h : St w) (f : Fr (fun _ => False) w w') : St w' where
  ub := h.ub.same f
  ml := by
    obtain ⟨m, hm⟩ := h.ml
    exact ⟨m, by rw [f.cell (World.block_lt_of_cell? w _ hm) (fun h => h)]; exact hm⟩
  es := by
    obtain ⟨t, p, hm⟩ := h.es
    exact ⟨t, p, by rw [f.cell (World.block_lt_of_cell? w _ hm) (fun h => h)]; exact hm⟩

def nameE (n c : List UInt8) (i : Nat) : MapEntry := { key := .string ⟨n.toArray⟩, val := .agg #[.string ⟨c.toArray⟩], born := i }
def nameEs : Array MapEntry := #[nameE [97, 109, 112] [38] 0, nameE [108, 116] [60] 1, nameE [103, 116] [62] 2, nameE [113, 117, 111, 116] [34] 3, nameE [97, 112, 111, 115] [39] 4]

theorem ins_new (w : World) (es : Array MapEntry) (c : Nat) (k : ByteArray) (v : Value) (h : Instr.findNow .string (.string k) es.toList 0 = some none) :
    (Instr.mapUpdate 187 (.map (some w.heap.size)) (.string k) v).run Tryz.prog (w.alloc (.map es c)) = .ok () (w.alloc (.map (es.push { key := .string k, val := v, born := c }) (c + 1))) := by
  have hb := heap_alloc_new w (.map es c)
  have hc : ∀ em, (Instr.checkKey em 10000 9 (.string k)).run Tryz.prog (w.alloc (.map es c)) = .ok () (w.alloc (.map es c)) := fun em => MapKept.run_checkKey (k := .string k) Tryz.underlying9 (by simp [MapKept.IsKey]) em 9999
  have hp : ∀ (x : Obj), ({ w.alloc (.map es c) with heap := (w.alloc (.map es c)).heap.setIfInBounds w.heap.size x } : World) = w.alloc x := fun x => by
    have h2 : ∀ (h : Array Obj) (x y : Obj), (h.push x).setIfInBounds h.size y = h.push y := by
      intro h x y
      apply Array.toList_inj.1
      simp
    show ({ w.alloc (.map es c) with heap := (w.heap.push (.map es c)).setIfInBounds w.heap.size x } : World) = _
    rw [h2]
    rfl
  simp only [Instr.mapUpdate, Sem.run_bind, run_underlying Tryz.underlying187, Result.andThen, MapKept.run_getObj_map hb, hc, MapKept.run_findKey Tryz.underlying9 h, MapKept.run_setObj_map _ hb, hp]

set_option maxRecDepth 100000 in
set_option maxHeartbeats 1000000 in
theorem names_any (w : World) : Calls Tryz.prog 129 #[] w fun e w' => e = .returned (.map (some w.heap.size)) ∧ w.alloc (.map nameEs 5) = w' := by
  have hmm := @run_makeMap Tryz.prog
  have h1 := ins_new w #[] 0 ⟨#[97, 109, 112]⟩ (.agg #[.string ⟨#[38]⟩]) rfl
  have h2 := ins_new w #[nameE [97, 109, 112] [38] 0] 1 ⟨#[108, 116]⟩ (.agg #[.string ⟨#[60]⟩]) (by kernel_rfl)
  have h3 := ins_new w #[nameE [97, 109, 112] [38] 0, nameE [108, 116] [60] 1] 2 ⟨#[103, 116]⟩ (.agg #[.string ⟨#[62]⟩]) (by kernel_rfl)
  have h4 := ins_new w #[nameE [97, 109, 112] [38] 0, nameE [108, 116] [60] 1, nameE [103, 116] [62] 2] 3 ⟨#[113, 117, 111, 116]⟩ (.agg #[.string ⟨#[34]⟩]) (by kernel_rfl)
  have h5 := ins_new w #[nameE [97, 109, 112] [38] 0, nameE [108, 116] [60] 1, nameE [103, 116] [62] 2, nameE [113, 117, 111, 116] [34] 3] 4 ⟨#[97, 112, 111, 115]⟩ (.agg #[.string ⟨#[39]⟩]) (by kernel_rfl)
  change _ = Result.ok () (w.alloc (.map #[nameE [97, 109, 112] [38] 0] 1)) at h1
  change _ = Result.ok () (w.alloc (.map #[nameE [97, 109, 112] [38] 0, nameE [108, 116] [60] 1] 2)) at h2
  change _ = Result.ok () (w.alloc (.map #[nameE [97, 109, 112] [38] 0, nameE [108, 116] [60] 1, nameE [103, 116] [62] 2] 3)) at h3
  change _ = Result.ok () (w.alloc (.map #[nameE [97, 109, 112] [38] 0, nameE [108, 116] [60] 1, nameE [103, 116] [62] 2, nameE [113, 117, 111, 116] [34] 3] 4)) at h4
  change _ = Result.ok () (w.alloc (.map nameEs 5)) at h5
  go_enter Tryz.func129, Tryz.ntmps129
  go_wp2
  go_ret
  exact ⟨rfl, rfl⟩
def nameF (k : ByteArray) : Option Value := match nameL.find? (fun p => p.1 == k.data.toList) with
  | some p => some (.agg #[.string ⟨p.2.toArray⟩])
  | none => none
theorem names_map (w : World) : SMap (w.alloc (.map nameEs 5)) w.heap.size nameF := by
  refine ⟨nameEs, 5, heap_alloc_new w _, ?_, fun k => ?_⟩
  · intro e he
    simp only [nameEs, List.mem_cons, List.not_mem_nil, or_false] at he
    rcases he with rfl | rfl | rfl | rfl | rfl <;> exact ⟨_, rfl⟩
  · have hk : ∀ n c i, isK k (nameE n c i) = (n == k.data.toList) := fun n c i => by
      rw [Bool.eq_iff_iff]
      simp only [isK, nameE, decide_eq_true_eq, beq_iff_eq]
      constructor
      · intro h; rw [h]
      · intro h; rw [h]
    simp only [atK, nameEs, List.find?_cons, hk, nameF, nameL, List.find?_nil]
    generalize ([97, 109, 112] == k.data.toList) = b1
    generalize ([108, 116] == k.data.toList) = b2
    generalize ([103, 116] == k.data.toList) = b3
    generalize ([113, 117, 111, 116] == k.data.toList) = b4
    generalize ([97, 112, 111, 115] == k.data.toList) = b5
    cases b1 <;> cases b2 <;> cases b3 <;> cases b4 <;> cases b5 <;> rfl
theorem word_zero (w : World) : (zeroValue 190).run Tryz.prog w = .ok (.agg #[.string ⟨#[]⟩]) w := by kernel_rfl
end Go.Proofs.YtalbehjjgdedcaaGreatDoor
