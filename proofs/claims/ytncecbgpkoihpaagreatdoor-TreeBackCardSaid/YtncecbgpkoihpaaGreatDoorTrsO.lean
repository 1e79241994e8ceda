/- tree: nodes as abstract walks have them, and as they are read in memory. -/
import Derived.Test.YtncecbgpkoihpaaGreatDoorTrsE
import Derived.Test.YtncecbgpkoihpaaGreatDoorTrlEf
namespace Go.Proofs.YtncecbgpkoihpaaGreatDoor
open Go.RowKit Go.Lib
namespace Aw
theorem VC.ro_inv {w : World} {S : Nat → Prop} {l : List (List AV)} {u : Value} (h : VC S w (.ro l) u) : ∃ (sz : Nat) (hz : 0 < sz) (cs : List (Vec sz)), Rd (vecC sz hz) w S u cs ∧ l.length = cs.length ∧ (∀ (i : Nat) (e : List AV), l[i]? = some e → e.length = sz) ∧
 ∀ (i j : Nat) (e : List AV) (c : Vec sz) (x : AV) (v : Value), l[i]? = some e → cs[i]? = some c → e[j]? = some x → c.1[j]? = some v → VC S w x v := by
 cases h with
 | ro l sz hz cs u h1 h2 h3 h4 => exact ⟨sz, hz, cs, h1, h2, h3, h4⟩
theorem rd_of {α β : Type} {D : Cod β} {C : Cod α} {w : World} {S : Nat → Prop} {v : Value} {cs : List α} {l : List β} (h : Rd C w S v cs) (hm : cs.map C.cells = l.map D.cells) : Rd D w S v l := by
 have hl : cs.length = l.length := by simpa using congrArg List.length hm
 have hf : D.flat l = C.flat cs := by
  unfold Cod.flat
  rw [List.flatMap_def, List.flatMap_def, hm]
 obtain ⟨A, cap, h1, h2, h3, h4, h5⟩ := h
 refine ⟨A, cap, by rw [← hl]; exact h1, by rw [← hl]; exact h2, h3, h4, fun h0 => ?_⟩
 obtain ⟨g, off, a1, a2, a3⟩ := h5 (by rw [hl]; exact h0)
 exact ⟨g, off, a1, a2, fun j u hj => a3 j u (by rw [← hf]; exact hj)⟩
theorem vc_ro_inv {α β : Type} {C : Cod α} {w : World} {S : Nat → Prop} {v : Value} {L : List β} {enc : β → List AV} (hl : ∀ x, (enc x).length = C.size) (R : β → α → Prop)
 (ho : ∀ x ∈ L, ∀ us : List Value, us.length = C.size → (∀ (j : Nat) y u, (enc x)[j]? = some y → us[j]? = some u → VC S w y u) → ∃ y, C.cells y = us ∧ R x y) (h : VC S w (.ro (L.map enc)) v) :
 ∃ l : List α, Rd C w S v l ∧ l.length = L.length ∧ ∀ (i : Nat) x y, L[i]? = some x → l[i]? = some y → R x y := by
 obtain ⟨sz, hz, cs, h1, h2, h3, h4⟩ := VC.ro_inv h
 rw [List.length_map] at h2
 have key : ∀ (L : List β) (cs : List (Vec sz)), L.length = cs.length → (∀ x ∈ L, ∀ us : List Value, us.length = C.size → (∀ (j : Nat) y u, (enc x)[j]? = some y → us[j]? = some u → VC S w y u) → ∃ y, C.cells y = us ∧ R x y) →
  (∀ (i : Nat) (e : List AV), (L.map enc)[i]? = some e → e.length = sz) → (∀ (i j : Nat) (e : List AV) (c : Vec sz) (x : AV) (v : Value), (L.map enc)[i]? = some e → cs[i]? = some c → e[j]? = some x → c.1[j]? = some v → VC S w x v) →
  ∃ l : List α, cs.map (vecC sz hz).cells = l.map C.cells ∧ l.length = L.length ∧ ∀ (i : Nat) x y, L[i]? = some x → l[i]? = some y → R x y := by
  intro L
  induction L with
  | nil =>
    intro cs h2 _ _ _
    cases cs with
    | nil => exact ⟨[], rfl, rfl, fun i x y h => by simp at h⟩
    | cons => simp at h2
  | cons x L ih =>
    intro cs h2 ho h3 h4
    cases cs with
    | nil => simp at h2
    | cons c cs =>
      obtain ⟨l, a1, a2, a3⟩ := ih cs (by simpa using h2) (fun x hx => ho x (by simp [hx])) (fun i e he => h3 (i + 1) e (by simpa using he)) (fun i j e c x v b1 b2 => h4 (i + 1) j e c x v (by simpa using b1) (by simpa using b2))
      have hsz := h3 0 (enc x) rfl
      obtain ⟨y, b1, b2⟩ := ho x (by simp) c.1 (by rw [c.2.1, ← hsz, hl]) (fun j z u b1 b2 => h4 0 j (enc x) c z u rfl rfl b1 b2)
      refine ⟨y :: l, by rw [List.map_cons, List.map_cons, a1, b1]; rfl, by simp [a2], fun i x' y' c1 c2 => ?_⟩
      cases i with
      | zero => cases c1; cases c2; exact b2
      | succ i => exact a3 i x' y' (by simpa using c1) (by simpa using c2)
 obtain ⟨l, a1, a2, a3⟩ := key L cs h2 ho h3 h4
 exact ⟨l, rd_of h1 a1, a2, a3⟩
theorem map_of {α β : Type} {f : α → β} : ∀ {l : List α} {L : List β}, l.length = L.length → (∀ (i : Nat) x y, L[i]? = some x → l[i]? = some y → f y = x) → l.map f = L
 | [], [], _, _ => rfl
 | [], _ :: _, h, _ => by simp at h
 | _ :: _, [], h, _ => by simp at h
 | y :: l, x :: L, h, hh => by rw [List.map_cons, hh 0 x y rfl rfl, map_of (by simpa using h) (fun i x y h1 h2 => hh (i + 1) x y (by simpa using h1) (by simpa using h2))]
theorem vc_attrs_inv {w : World} {S : Nat → Prop} {v : Value} {L : List z07} (h : VC S w (.ro (L.map encA)) v) : Rd pairC w S v L := by
 obtain ⟨l, h1, h2, h3⟩ := vc_ro_inv (C := pairC) (enc := encA) (fun x => rfl) (fun x y => y = x) (fun x hx us hl hv => ⟨x, by
  match us, hl with
  | [a, b], _ =>
    have e1 := (hv 0 _ a rfl rfl).sc_inv
    have e2 := (hv 1 _ b rfl rfl).sc_inv
    subst e1 e2
    rfl, rfl⟩) h
 have : l = L := by
  have := map_of (f := id) h2 (fun i x y a b => h3 i x y a b)
  rwa [List.map_id] at this
 rw [← this]
 exact h1
theorem vc_nodes_inv {w : World} {S : Nat → Prop} {v : Value} {N : List NodeM} (h : VC S w (.ro (N.map encN)) v) : ∃ X, NodesRd w S v X ∧ X.map NodeX.model = N := by
 obtain ⟨l, h1, h2, h3⟩ := vc_ro_inv (C := nodeC) (enc := encN) (fun x => rfl) (fun x y => Rd pairC w S (.slice y.A y.m y.c) x.attrs ∧ (⟨y, none, x.attrs⟩ : NodeX).model = x) (fun x hx us hl hv => by
  match us, hl with
  | [a, b, c, d, e, f, g], _ =>
    have e1 := (hv 0 _ a rfl rfl).sc_inv
    have e2 := vc_attrs_inv (hv 1 _ b rfl rfl)
    have e3 := (hv 2 _ c rfl rfl).sc_inv
    have e4 := (hv 3 _ d rfl rfl).sc_inv
    have e5 := (hv 4 _ e rfl rfl).sc_inv
    have e6 := (hv 5 _ f rfl rfl).sc_inv
    have e7 := (hv 6 _ g rfl rfl).sc_inv
    subst e1 e3 e4 e5 e6 e7
    have e8 := e2
    obtain ⟨A, cap, rfl, -⟩ := e2
    exact ⟨⟨x.name, A, x.attrs.length, cap, x.text, x.parent, x.first, x.next, x.at_⟩, rfl, e8, rfl⟩) h
 refine ⟨(l.zip N).map fun p => ⟨p.1, none, p.2.attrs⟩, ⟨?_, fun x hx => ?_⟩, ?_⟩
 · rw [List.map_map]
   have : (l.zip N).map (NodeX.v ∘ fun p => (⟨p.1, none, p.2.attrs⟩ : NodeX)) = l := by
    show (l.zip N).map (fun p => p.1) = l
    exact List.map_fst_zip (by omega)
   rw [this]
   exact h1
 · rw [List.mem_map] at hx
   obtain ⟨p, hp, rfl⟩ := hx
   obtain ⟨i, hi, hpi⟩ := List.getElem_of_mem hp
   rw [List.getElem_zip] at hpi
   subst hpi
   simp only [List.length_zip] at hi
   exact (h3 i N[i] l[i] (List.getElem?_eq_getElem (by omega)) (List.getElem?_eq_getElem (by omega))).1
 · rw [List.map_map]
   refine map_of (by simp [h2]) (fun i x p a b => ?_)
   rw [List.getElem?_zip_eq_some] at b
   have := (h3 i x p.1 a b.1).2
   rw [a] at b
   obtain ⟨-, hb⟩ := b
   cases hb
   exact this
theorem vc_tree_inv {w : World} {S : Nat → Prop} {v : Value} {N : List NodeM} (hS : ∀ k, S k → k < w.heap.size) (h : VC S w (.agg [.ro (N.map encN)]) v) : ∃ A c, v = .agg #[.slice A N.length c] ∧ Tr N w A N.length c := by
 cases h with
 | agg l vs hl h1 h2 =>
   match vs, hl with
   | [u], _ =>
     obtain ⟨X, a1, a2⟩ := vc_nodes_inv (h2 0 _ u rfl rfl)
     have hx : X.length = N.length := by rw [← a2, List.length_map]
     have a3 := a1
     obtain ⟨⟨A, cap, hu, -⟩, -⟩ := a1
     rw [List.length_map, hx] at hu
     subst hu
     exact ⟨A, cap, rfl, X, S, a3, hS, a2⟩
end Aw
end Go.Proofs.YtncecbgpkoihpaaGreatDoor
