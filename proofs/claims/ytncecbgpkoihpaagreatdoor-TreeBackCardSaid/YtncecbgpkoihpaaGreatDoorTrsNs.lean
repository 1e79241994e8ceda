/- tree: from what is read in memory to what the abstract walks take; the law's same, called. -/
import Derived.Test.YtncecbgpkoihpaaGreatDoorTrsM
import Derived.Test.YtncecbgpkoihpaaGreatDoorTrlEf
import Derived.Test.YtncecbgpkoihpaaGreatDoorTrsO
import Derived.Test.YtncecbgpkoihpaaGreatDoorTrnAb
import Derived.Test.YtncecbgpkoihpaaGreatDoorAwThr
import Derived.Test.YtncecbgpkoihpaaGreatDoorTy
namespace Go.Proofs.YtncecbgpkoihpaaGreatDoor
open Go.RowKit Go.Lib
namespace Aw
def vecOf {α : Type} (C : Cod α) (x : α) : Vec C.size := ⟨C.cells x, C.len x, C.one x⟩
theorem flat_vec {α : Type} (C : Cod α) (l : List α) : (vecC C.size C.pos).flat (l.map (vecOf C)) = C.flat l := by
 unfold Cod.flat
 rw [List.flatMap_map]
 rfl
theorem rd_vec {α : Type} {C : Cod α} {w : World} {S : Nat → Prop} {v : Value} {l : List α} (h : Rd C w S v l) : Rd (vecC C.size C.pos) w S v (l.map (vecOf C)) := by
 obtain ⟨A, cap, h1, h2, h3, h4, h5⟩ := h
 refine ⟨A, cap, by rw [List.length_map]; exact h1, by rw [List.length_map]; exact h2, h3, h4, fun hl => ?_⟩
 rw [List.length_map] at hl
 obtain ⟨g, off, a1, a2, a3⟩ := h5 hl
 exact ⟨g, off, a1, a2, fun j u hj => a3 j u (by rw [← flat_vec]; exact hj)⟩
theorem vc_ro {α β : Type} {C : Cod α} {w : World} {S : Nat → Prop} {v : Value} {X : List β} (f : β → α) (h : Rd C w S v (X.map f)) (enc : β → List AV) (hl : ∀ x, (enc x).length = C.size) (ho : ∀ x ∈ X, ∀ (j : Nat) y u, (enc x)[j]? = some y → (C.cells (f x))[j]? = some u → VC S w y u) : VC S w (.ro (X.map enc)) v := by
 refine .ro _ C.size C.pos ((X.map f).map (vecOf C)) v (rd_vec h) (by simp) (fun i e he => ?_) (fun i j e c x u h1 h2 h3 h4 => ?_)
 · rw [List.getElem?_map] at he
   cases hx : X[i]? with
   | none => rw [hx] at he; cases he
   | some x => rw [hx] at he; cases he; exact hl x
 · rw [List.getElem?_map] at h1 h2
   rw [List.getElem?_map] at h2
   cases hx : X[i]? with
   | none => rw [hx] at h1; cases h1
   | some z =>
     rw [hx] at h1 h2
     cases h1; cases h2
     exact ho z (List.mem_of_getElem? hx) j x u h3 h4
theorem vc_attrs {w : World} {S : Nat → Prop} {v : Value} {l : List z07} (h : Rd pairC w S v l) : VC S w (.ro (l.map encA)) v :=
 vc_ro id (by rw [List.map_id]; exact h) encA (fun x => rfl) (fun x hx j y u h1 h2 => by
  match j with
  | 0 => cases h1; cases h2; exact .sc _
  | 1 => cases h1; cases h2; exact .sc _
  | j + 2 => simp [encA] at h1)
theorem vc_nodes {w : World} {S : Nat → Prop} {v : Value} {X : List NodeX} (h : NodesRd w S v X) : VC S w (.ro ((X.map (·.model)).map encN)) v := by
 rw [List.map_map]
 refine vc_ro NodeX.v h.rd (encN ∘ NodeX.model) (fun x => rfl) (fun x hx j y u h1 h2 => ?_)
 match j with
 | 0 => cases h1; cases h2; exact .sc _
 | 1 => cases h1; cases h2; exact vc_attrs (h.ok x hx)
 | 2 => cases h1; cases h2; exact .sc _
 | 3 => cases h1; cases h2; exact .sc _
 | 4 => cases h1; cases h2; exact .sc _
 | 5 => cases h1; cases h2; exact .sc _
 | 6 => cases h1; cases h2; exact .sc _
 | j + 7 => simp [encN] at h1
end Aw
end Go.Proofs.YtncecbgpkoihpaaGreatDoor
namespace Go.Proofs.YtncecbgpkoihpaaGreatDoor
open Go.RowKit Go.Lib
namespace Aw
def decA : List AV → Option z07
 | [.sc (.string a), .sc (.string b)] => some (a, b)
 | _ => none
def decL {α : Type} (d : List AV → Option α) : List (List AV) → Option (List α)
 | [] => some []
 | e :: l => match d e, decL d l with
   | some x, some m => some (x :: m)
   | _, _ => none
def decN : List AV → Option NodeM
 | [.sc (.string n), .ro l, .sc (.string t), .sc (.int .i64 p), .sc (.int .i64 f), .sc (.int .i64 e), .sc (.int .i64 a)] => (decL decA l).map fun L => ⟨n, L, t, p, f, e, a⟩
 | _ => none
theorem decL_map {α : Type} {d : List AV → Option α} {enc : α → List AV} (h : ∀ x, d (enc x) = some x) : ∀ l : List α, decL d (l.map enc) = some l
 | [] => rfl
 | x :: l => by rw [List.map_cons, decL, h x, decL_map h l]
theorem decL_some {α : Type} {d : List AV → Option α} {enc : α → List AV} (h : ∀ e x, d e = some x → e = enc x) : ∀ {l : List (List AV)} {L : List α}, decL d l = some L → l = L.map enc
 | [], L, hl => by cases hl; rfl
 | e :: l, L, hl => by
   rw [decL] at hl
   split at hl
   · rename_i x m h1 h2
     cases hl
     rw [List.map_cons, ← h e x h1, ← decL_some h h2]
   · cases hl
theorem decA_enc (a : z07) : decA (encA a) = some a := rfl
theorem decA_some (e : List AV) (a : z07) (h : decA e = some a) : e = encA a := by
 unfold decA at h
 split at h
 · cases h; rfl
 · cases h
theorem decN_enc (x : NodeM) : decN (encN x) = some x := by
 show (decL decA (x.attrs.map encA)).map _ = _
 rw [decL_map decA_enc]
 rfl
theorem decN_some (e : List AV) (x : NodeM) (h : decN e = some x) : e = encN x := by
 unfold decN at h
 split at h
 · rename_i n l t p f ee a
   cases hl : decL decA l with
   | none => rw [hl] at h; cases h
   | some L =>
     rw [hl] at h
     cases h
     have := decL_some decA_some hl
     subst this
     rfl
 · cases h
theorem con_flat {P : Program} {f : FuncId} {args : List AV} {u : Value} {w : World} (h : ∀ (S : Nat → Prop) (vs : List Value), (∀ k, S k → k < w.heap.size) → args.length = vs.length → (∀ (i : Nat) x v, args[i]? = some x → vs[i]? = some v → VC S w x v) →
 Calls P f vs.toArray w fun e w' => e = .returned u ∧ Fr (fun _ => False) w w') : z8r P w f args (.sc u) [] := by
 intro S vs hS hl hv
 refine (h S vs hS hl hv).mono fun e w' ⟨he, hf⟩ => ⟨u, ⟨fun _ => 0, fun _ => undef, fun _ => none, S⟩, he, ?_, .cl _ _ (.sc u)⟩
 have hd : ∀ K, z03 [] K = .dead := fun K => rfl
 refine ⟨hf, fun K => by rw [hd]; trivial, fun K k hk => ?_, fun K K' k hk => ?_, fun k hk => Nat.lt_of_lt_of_le (hS k hk) hf.size, fun k hk => hk, fun k hk => .inl hk⟩
 · unfold Owns at hk; rw [hd] at hk; exact hk.elim
 · unfold Owns at hk; rw [hd] at hk; exact hk.elim
theorem con_new {P : Program} {f : FuncId} {args : List AV} {r : AV} {w : World} (h : ∀ (S : Nat → Prop) (vs : List Value), (∀ k, S k → k < w.heap.size) → args.length = vs.length → (∀ (i : Nat) x v, args[i]? = some x → vs[i]? = some v → VC S w x v) →
 Calls P f vs.toArray w fun e w' => ∃ v S', e = .returned v ∧ (∀ k, S' k → w.heap.size ≤ k ∧ k < w'.heap.size) ∧ VC S' w' r v ∧ Fr (fun _ => False) w w') : z8r P w f args r [] := by
 intro S vs hS hl hv
 refine (h S vs hS hl hv).mono fun e w' ⟨v, S', he, hS', hr, hf⟩ => ⟨v, ⟨fun _ => 0, fun _ => undef, fun _ => none, fun k => S k ∨ S' k⟩, he, ?_, .cl _ _ (hr.keep (fun k hk => .inr hk) (fun _ _ => rfl))⟩
 have hd : ∀ K, z03 [] K = .dead := fun K => rfl
 refine ⟨hf, fun K => by rw [hd]; trivial, fun K k hk => ?_, fun K K' k hk => ?_, fun k hk => hk.elim (fun hk => Nat.lt_of_lt_of_le (hS k hk) hf.size) (fun hk => (hS' k hk).2), fun k hk => .inl hk, fun k hk => hk.imp id (fun hk => (hS' k hk).1)⟩
 · unfold Owns at hk; rw [hd] at hk; exact hk.elim
 · unfold Owns at hk; rw [hd] at hk; exact hk.elim
theorem few_con {N : List NodeM} (hb : N.length ≤ 60 → z0n N ≤ 4611686018427387904) (w : World) : z8r Tryz.prog w 45 [.agg [.ro (N.map encN)]] (.sc (.bool (fewM N))) [] := by
 refine con_flat fun S vs hS hl hv => ?_
 match vs, hl with
 | [v], _ =>
   obtain ⟨A, c, rfl, ht⟩ := vc_tree_inv hS (hv 0 _ v rfl rfl)
   exact zs9 w ht hb
theorem tSame_con {N M : List NodeM} (w : World) : z8r Tryz.prog w 38 [.agg [.ro (N.map encN)], .agg [.ro (M.map encN)]] (.sc (.bool (eqNs N M))) [] := by
 refine con_flat fun S vs hS hl hv => ?_
 match vs, hl with
 | [v, u], _ =>
   obtain ⟨A, c, rfl, X, S1, h1, h2, rfl⟩ := vc_tree_inv hS (hv 0 _ v rfl rfl)
   obtain ⟨B, d, rfl, Y, S2, k1, k2, rfl⟩ := vc_tree_inv hS (hv 1 _ u rfl rfl)
   exact zpg w _ _ _ _ _ _ X Y S1 S2 h1 k1 h2 k2
theorem ref_con {N : List NodeM} (hn : N.length ≤ 1000000) (hat : ∀ x ∈ N, x.attrs.length ≤ 1000000000) (w : World) : z8r Tryz.prog w 43 [.agg [.ro (N.map encN)]] (.agg [.ro (N.map encN)]) [] := by
 refine con_new fun S vs hS hl hv => ?_
 match vs, hl with
 | [v], _ =>
   obtain ⟨A, c, rfl, ht⟩ := vc_tree_inv hS (hv 0 _ v rfl rfl)
   refine (zsa w ht hn hat).mono fun e w' ⟨B, d, h1, h2, h3⟩ => ?_
   obtain ⟨X, S', a1, a2, rfl⟩ := h2.out
   exact ⟨_, S', h1, a2, .agg [_] [_] rfl (fun u hu => by rw [List.mem_singleton] at hu; subst hu; rfl) (fun i y u b1 b2 => by
    match i with
    | 0 => cases b1; cases b2; exact vc_nodes a1
    | i + 1 => simp at b1), h3⟩
theorem tworks_con (w : World) (hst : St w) : z8r Tryz.prog w 39 [] (.sc (.bool true)) [] := by
 refine con_flat fun S vs hS hl hv => ?_
 match vs, hl with
 | [], _ => exact zjj w hst
end Aw
end Go.Proofs.YtncecbgpkoihpaaGreatDoor
namespace Go.Proofs.YtncecbgpkoihpaaGreatDoor
open Go.RowKit Go.Lib
namespace Aw
def sp1 : Spec := ⟨fun f args =>
 if f = 45 then (match args with
  | [.agg [.ro l]] => (decL decN l).map fun N => (N.length ≤ 60 → z0n N ≤ 4611686018427387904, .sc (.bool (fewM N)), [])
  | _ => none)
 else if f = 38 then (match args with
  | [.agg [.ro l], .agg [.ro m]] => (decL decN l).bind fun N => (decL decN m).map fun M => (True, .sc (.bool (eqNs N M)), [])
  | _ => none)
 else if f = 43 then (match args with
  | [.agg [.ro l]] => (decL decN l).map fun N => (N.length ≤ 1000000 ∧ ∀ x ∈ N, x.attrs.length ≤ 1000000000, .agg [.ro (N.map encN)], [])
  | _ => none)
 else if f = 42 then (match args with
  | [.agg [.ro l], .agg [.ro m], .sc (.bool b)] => (decL decN l).bind fun N => (decL decN m).map fun M => (True, .sc (.bool (zgm b N M)), [])
  | _ => none)
 else if f = 39 then (match args with
  | [] => some (True, .sc (.bool true), [])
  | _ => none)
 else none, fun _ _ _ => none⟩
theorem sp1_few {N : List NodeM} : sp1.call 45 [.agg [.ro (N.map encN)]] = some ((N.length ≤ 60 → z0n N ≤ 4611686018427387904), .sc (.bool (fewM N)), []) := by
 simp [sp1, decL_map decN_enc]
theorem sp1_Same {N M : List NodeM} : sp1.call 38 [.agg [.ro (N.map encN)], .agg [.ro (M.map encN)]] = some (True, .sc (.bool (eqNs N M)), []) := by
 simp [sp1, decL_map decN_enc]
theorem sp1_ref {N : List NodeM} : sp1.call 43 [.agg [.ro (N.map encN)]] = some (N.length ≤ 1000000 ∧ ∀ x ∈ N, x.attrs.length ≤ 1000000000, .agg [.ro (N.map encN)], []) := by
 simp [sp1, decL_map decN_enc]
theorem sp1_same {N M : List NodeM} {b : Bool} : sp1.call 42 [.agg [.ro (N.map encN)], .agg [.ro (M.map encN)], .sc (.bool b)] = some (True, .sc (.bool (zgm b N M)), []) := by
 simp [sp1, decL_map decN_enc]
theorem sp1_works : sp1.call 39 [] = some (True, .sc (.bool true), []) := by
 simp [sp1]
theorem enters_of {P : Program} {g : FuncId} {fn : Func} (h : P.funcs[g]? = some fn) (h1 : (fn.name == "runtime.NumGoroutine") = false) (h2 : fn.body.isNone = false) : zgr P g := ⟨fn, h, h1, h2⟩
theorem sp1_ok (w : World) (hst : St w) : SpecOk Tryz.prog sp1 w (fun _ => False) := by
 refine ⟨fun t a b r h => (by cases h), fun f args c r rs h => ?_⟩
 unfold sp1 at h
 simp only at h
 split at h
 · rename_i hf
   subst hf
   refine ⟨enters_of Tryz.func45 (by kernel_rfl) (by kernel_rfl), ?_⟩
   split at h <;> try (cases h; done)
   rename_i l
   cases hN : decL decN l with
   | none => rw [hN] at h; cases h
   | some N =>
     rw [hN] at h
     cases h
     obtain rfl := decL_some decN_some hN
     exact fun hc w' _ => few_con hc w'
 split at h
 · rename_i hf
   subst hf
   refine ⟨enters_of Tryz.func38 (by kernel_rfl) (by kernel_rfl), ?_⟩
   split at h <;> try (cases h; done)
   rename_i l m
   cases hN : decL decN l with
   | none => rw [hN] at h; cases h
   | some N =>
     cases hM : decL decN m with
     | none => rw [hN, hM] at h; cases h
     | some M =>
       rw [hN, hM] at h
       cases h
       obtain rfl := decL_some decN_some hN
       obtain rfl := decL_some decN_some hM
       exact fun hc w' _ => tSame_con w'
 split at h
 · rename_i hf
   subst hf
   refine ⟨enters_of Tryz.func43 (by kernel_rfl) (by kernel_rfl), ?_⟩
   split at h <;> try (cases h; done)
   rename_i l
   cases hN : decL decN l with
   | none => rw [hN] at h; cases h
   | some N =>
     rw [hN] at h
     cases h
     obtain rfl := decL_some decN_some hN
     exact fun hc w' _ => ref_con hc.1 hc.2 w'
 split at h
 · rename_i hf
   subst hf
   refine ⟨enters_of Tryz.func42 (by kernel_rfl) (by kernel_rfl), ?_⟩
   split at h <;> try (cases h; done)
   rename_i l m b
   cases hN : decL decN l with
   | none => rw [hN] at h; cases h
   | some N =>
     cases hM : decL decN m with
     | none => rw [hN, hM] at h; cases h
     | some M =>
       rw [hN, hM] at h
       cases h
       obtain rfl := decL_some decN_some hN
       obtain rfl := decL_some decN_some hM
       exact fun hc w' _ => zq0 (Φ := fun _ => True) N M b w' trivial
 split at h
 · rename_i hf
   subst hf
   refine ⟨enters_of Tryz.func39 (by kernel_rfl) (by kernel_rfl), ?_⟩
   split at h <;> cases h
   exact fun hc w' f => tworks_con w' (hst.same f)
 · cases h
theorem vc_tree {w : World} {S : Nat → Prop} {X : List NodeX} {v : Value} (ho : v.oneCell' = true) (h : NodesRd w S v X) : VC S w (.agg [.ro ((X.map (·.model)).map encN)]) (.agg #[v]) :=
 .agg [_] [v] rfl (fun u hu => by rw [List.mem_singleton] at hu; subst hu; exact ho) (fun i y u h1 h2 => by
  match i with
  | 0 => cases h1; cases h2; exact vc_nodes h
  | i + 1 => simp at h1)
end Aw
end Go.Proofs.YtncecbgpkoihpaaGreatDoor
