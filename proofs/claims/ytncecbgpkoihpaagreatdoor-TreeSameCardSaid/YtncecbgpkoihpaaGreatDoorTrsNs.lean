/- tree: from what is read in memory to what the abstract walks take; the law's same, called. -/
import Derived.Test.YtncecbgpkoihpaaGreatDoorTrsM
import Derived.Test.YtncecbgpkoihpaaGreatDoorTrlEf
import Derived.Test.YtncecbgpkoihpaaGreatDoorAwThr
import Derived.Test.YtncecbgpkoihpaaGreatDoorTrsO
import Derived.Test.YtncecbgpkoihpaaGreatDoorTrnAb
import Derived.Test.YtncecbgpkoihpaaGreatDoorTy
namespace Go.Proofs.YtncecbgpkoihpaaGreatDoor
open Go.RowKit Go.Lib
namespace Aw
def vecOf {α : Type} (C : Cod α) (x : α) : Vec C.size := ⟨C.cells x, C.len x, C.one x⟩
theorem flat_vec {α : Type} (C : Cod α) (l : List α) : (vecC C.size C.pos).flat (l.map (vecOf C)) = C.flat l := by
 unfold Cod.flat
 rw [List.flatMap_map]
 rfl
theorem rd_vec {α : Type} {C : Cod α} {w : World} {S : Nat → Prop} {v : Value} {l : List α} (h : Rd C w S v l) : Rd (vecC C.size C.pos) w S v (l.map (vecOf C)) := by
 obtain ⟨A, cap, h1, h2, h3, h4, h5⟩ := h
 refine ⟨A, cap, by rw [List.length_map]; exact h1, by rw [List.length_map]; exact h2, h3, h4, fun hl => ?_⟩
 rw [List.length_map] at hl
 obtain ⟨g, off, a1, a2, a3⟩ := h5 hl
 exact ⟨g, off, a1, a2, fun j u hj => a3 j u (by rw [← flat_vec]; exact hj)⟩
theorem vc_ro {α β : Type} {C : Cod α} {w : World} {S : Nat → Prop} {v : Value} {X : List β} (f : β → α) (h : Rd C w S v (X.map f)) (enc : β → List AV) (hl : ∀ x, (enc x).length = C.size) (ho : ∀ x ∈ X, ∀ (j : Nat) y u, (enc x)[j]? = some y → (C.cells (f x))[j]? = some u → VC S w y u) : VC S w (.ro (X.map enc)) v := by
 refine .ro _ C.size C.pos ((X.map f).map (vecOf C)) v (rd_vec h) (by simp) (fun i e he => ?_) (fun i j e c x u h1 h2 h3 h4 => ?_)
 · rw [List.getElem?_map] at he
   cases hx : X[i]? with
   | none => rw [hx] at he; cases he
   | some x => rw [hx] at he; cases he; exact hl x
 · rw [List.getElem?_map] at h1 h2
   rw [List.getElem?_map] at h2
   cases hx : X[i]? with
   | none => rw [hx] at h1; cases h1
   | some z =>
     rw [hx] at h1 h2
     cases h1; cases h2
     exact ho z (List.mem_of_getElem? hx) j x u h3 h4
theorem vc_attrs {w : World} {S : Nat → Prop} {v : Value} {l : List AttrB} (h : Rd pairC w S v l) : VC S w (.ro (l.map encA)) v :=
 vc_ro id (by rw [List.map_id]; exact h) encA (fun x => rfl) (fun x hx j y u h1 h2 => by
  match j with
  | 0 => cases h1; cases h2; exact .sc _
  | 1 => cases h1; cases h2; exact .sc _
  | j + 2 => simp [encA] at h1)
theorem vc_nodes {w : World} {S : Nat → Prop} {v : Value} {X : List NodeX} (h : NodesRd w S v X) : VC S w (.ro ((X.map (·.model)).map encN)) v := by
 rw [List.map_map]
 refine vc_ro NodeX.v h.rd (encN ∘ NodeX.model) (fun x => rfl) (fun x hx j y u h1 h2 => ?_)
 match j with
 | 0 => cases h1; cases h2; exact .sc _
 | 1 => cases h1; cases h2; exact vc_attrs (h.ok x hx)
 | 2 => cases h1; cases h2; exact .sc _
 | 3 => cases h1; cases h2; exact .sc _
 | 4 => cases h1; cases h2; exact .sc _
 | 5 => cases h1; cases h2; exact .sc _
 | 6 => cases h1; cases h2; exact .sc _
 | j + 7 => simp [encN] at h1
end Aw
end Go.Proofs.YtncecbgpkoihpaaGreatDoor
namespace Go.Proofs.YtncecbgpkoihpaaGreatDoor
open Go.RowKit Go.Lib
namespace Aw
def decA : List AV → Option AttrB
 | [.sc (.string a), .sc (.string b)] => some (a, b)
 | _ => none
def decL {α : Type} (d : List AV → Option α) : List (List AV) → Option (List α)
 | [] => some []
 | e :: l => match d e, decL d l with
   | some x, some m => some (x :: m)
   | _, _ => none
def decN : List AV → Option NodeM
 | [.sc (.string n), .ro l, .sc (.string t), .sc (.int .i64 p), .sc (.int .i64 f), .sc (.int .i64 e), .sc (.int .i64 a)] => (decL decA l).map fun L => ⟨n, L, t, p, f, e, a⟩
 | _ => none
theorem decL_map {α : Type} {d : List AV → Option α} {enc : α → List AV} (h : ∀ x, d (enc x) = some x) : ∀ l : List α, decL d (l.map enc) = some l
 | [] => rfl
 | x :: l => by rw [List.map_cons, decL, h x, decL_map h l]
theorem decL_some {α : Type} {d : List AV → Option α} {enc : α → List AV} (h : ∀ e x, d e = some x → e = enc x) : ∀ {l : List (List AV)} {L : List α}, decL d l = some L → l = L.map enc
 | [], L, hl => by cases hl; rfl
 | e :: l, L, hl => by
   rw [decL] at hl
   split at hl
   · rename_i x m h1 h2
     cases hl
     rw [List.map_cons, ← h e x h1, ← decL_some h h2]
   · cases hl
theorem decA_enc (a : AttrB) : decA (encA a) = some a := rfl
theorem decA_some (e : List AV) (a : AttrB) (h : decA e = some a) : e = encA a := by
 unfold decA at h
 split at h
 · cases h; rfl
 · cases h
theorem decN_enc (x : NodeM) : decN (encN x) = some x := by
 show (decL decA (x.attrs.map encA)).map _ = _
 rw [decL_map decA_enc]
 rfl
theorem decN_some (e : List AV) (x : NodeM) (h : decN e = some x) : e = encN x := by
 unfold decN at h
 split at h
 · rename_i n l t p f ee a
   cases hl : decL decA l with
   | none => rw [hl] at h; cases h
   | some L =>
     rw [hl] at h
     cases h
     have := decL_some decA_some hl
     subst this
     rfl
 · cases h
theorem few_con {N : List NodeM} (hb : N.length ≤ 60 → fewSum N ≤ 4611686018427387904) (w : World) : ConAt Tryz.prog w 45 [.agg [.ro (N.map encN)]] (.sc (.bool (fewM N))) [] := by
 refine con_flat fun S vs hS hl hv => ?_
 match vs, hl with
 | [v], _ =>
   obtain ⟨A, c, rfl, ht⟩ := vc_tree_inv hS (hv 0 _ v rfl rfl)
   exact few_any w ht hb
theorem tSame_con {N M : List NodeM} (w : World) : ConAt Tryz.prog w 38 [.agg [.ro (N.map encN)], .agg [.ro (M.map encN)]] (.sc (.bool (eqNs N M))) [] := by
 refine con_flat fun S vs hS hl hv => ?_
 match vs, hl with
 | [v, u], _ =>
   obtain ⟨A, c, rfl, X, S1, h1, h2, rfl⟩ := vc_tree_inv hS (hv 0 _ v rfl rfl)
   obtain ⟨B, d, rfl, Y, S2, k1, k2, rfl⟩ := vc_tree_inv hS (hv 1 _ u rfl rfl)
   exact same_any w _ _ _ _ _ _ X Y S1 S2 h1 k1 h2 k2
theorem ref_con {N : List NodeM} (hn : N.length ≤ 1000000) (hat : ∀ x ∈ N, x.attrs.length ≤ 1000000000) (w : World) : ConAt Tryz.prog w 43 [.agg [.ro (N.map encN)]] (.agg [.ro (N.map encN)]) [] := by
 refine con_new fun S vs hS hl hv => ?_
 match vs, hl with
 | [v], _ =>
   obtain ⟨A, c, rfl, ht⟩ := vc_tree_inv hS (hv 0 _ v rfl rfl)
   refine (ref_new w ht hn hat).mono fun e w' ⟨B, d, h1, h2, h3⟩ => ?_
   obtain ⟨X, S', a1, a2, rfl⟩ := h2.out
   exact ⟨_, S', h1, a2, .agg [_] [_] rfl (fun u hu => by rw [List.mem_singleton] at hu; subst hu; rfl) (fun i y u b1 b2 => by
    match i with
    | 0 => cases b1; cases b2; exact vc_nodes a1
    | i + 1 => simp at b1), h3⟩
theorem tworks_con (w : World) (hst : St w) : ConAt Tryz.prog w 39 [] (.sc (.bool true)) [] := by
 refine con_flat fun S vs hS hl hv => ?_
 match vs, hl with
 | [], _ => exact tworks_any w hst
end Aw
end Go.Proofs.YtncecbgpkoihpaaGreatDoor
namespace Go.Proofs.YtncecbgpkoihpaaGreatDoor
open Go.RowKit Go.Lib
namespace Aw
def sp1 : Spec := ⟨fun f args =>
 if f = 45 then (match args with
  | [.agg [.ro l]] => (decL decN l).map fun N => (N.length ≤ 60 → fewSum N ≤ 4611686018427387904, .sc (.bool (fewM N)), [])
  | _ => none)
 else if f = 38 then (match args with
  | [.agg [.ro l], .agg [.ro m]] => (decL decN l).bind fun N => (decL decN m).map fun M => (True, .sc (.bool (eqNs N M)), [])
  | _ => none)
 else if f = 43 then (match args with
  | [.agg [.ro l]] => (decL decN l).map fun N => (N.length ≤ 1000000 ∧ ∀ x ∈ N, x.attrs.length ≤ 1000000000, .agg [.ro (N.map encN)], [])
  | _ => none)
 else if f = 42 then (match args with
  | [.agg [.ro l], .agg [.ro m], .sc (.bool b)] => (decL decN l).bind fun N => (decL decN m).map fun M => (True, .sc (.bool (sameM b N M)), [])
  | _ => none)
 else if f = 39 then (match args with
  | [] => some (True, .sc (.bool true), [])
  | _ => none)
 else none, fun _ _ _ => none, fun _ _ _ => none, [], 0⟩
theorem sp1_few {N : List NodeM} : sp1.call 45 [.agg [.ro (N.map encN)]] = some ((N.length ≤ 60 → fewSum N ≤ 4611686018427387904), .sc (.bool (fewM N)), []) := by
 simp [sp1, decL_map decN_enc]
theorem sp1_Same {N M : List NodeM} : sp1.call 38 [.agg [.ro (N.map encN)], .agg [.ro (M.map encN)]] = some (True, .sc (.bool (eqNs N M)), []) := by
 simp [sp1, decL_map decN_enc]
theorem sp1_ref {N : List NodeM} : sp1.call 43 [.agg [.ro (N.map encN)]] = some (N.length ≤ 1000000 ∧ ∀ x ∈ N, x.attrs.length ≤ 1000000000, .agg [.ro (N.map encN)], []) := by
 simp [sp1, decL_map decN_enc]
theorem sp1_same {N M : List NodeM} {b : Bool} : sp1.call 42 [.agg [.ro (N.map encN)], .agg [.ro (M.map encN)], .sc (.bool b)] = some (True, .sc (.bool (sameM b N M)), []) := by
 simp [sp1, decL_map decN_enc]
theorem sp1_works : sp1.call 39 [] = some (True, .sc (.bool true), []) := by
 simp [sp1]
theorem enters_of {P : Program} {g : FuncId} {fn : Func} (h : P.funcs[g]? = some fn) (h1 : (fn.name == "runtime.NumGoroutine") = false) (h2 : fn.body.isNone = false) : Enters P g := ⟨fn, h, h1, h2⟩
theorem sp1_ok (w : World) (hst : St w) : SpecOk Tryz.prog sp1 w (fun _ => False) := by
 refine ⟨fun t a b r h => (by cases h), fun f args c r rs h => ?_, fun f args rows c r rs h => by cases h⟩
 unfold sp1 at h
 simp only at h
 split at h
 · rename_i hf
   subst hf
   refine ⟨enters_of Tryz.func45 (by kernel_rfl) (by kernel_rfl), ?_⟩
   split at h <;> try (cases h; done)
   rename_i l
   cases hN : decL decN l with
   | none => rw [hN] at h; cases h
   | some N =>
     rw [hN] at h
     cases h
     obtain rfl := decL_some decN_some hN
     exact fun hc w' _ => few_con hc w'
 split at h
 · rename_i hf
   subst hf
   refine ⟨enters_of Tryz.func38 (by kernel_rfl) (by kernel_rfl), ?_⟩
   split at h <;> try (cases h; done)
   rename_i l m
   cases hN : decL decN l with
   | none => rw [hN] at h; cases h
   | some N =>
     cases hM : decL decN m with
     | none => rw [hN, hM] at h; cases h
     | some M =>
       rw [hN, hM] at h
       cases h
       obtain rfl := decL_some decN_some hN
       obtain rfl := decL_some decN_some hM
       exact fun hc w' _ => tSame_con w'
 split at h
 · rename_i hf
   subst hf
   refine ⟨enters_of Tryz.func43 (by kernel_rfl) (by kernel_rfl), ?_⟩
   split at h <;> try (cases h; done)
   rename_i l
   cases hN : decL decN l with
   | none => rw [hN] at h; cases h
   | some N =>
     rw [hN] at h
     cases h
     obtain rfl := decL_some decN_some hN
     exact fun hc w' _ => ref_con hc.1 hc.2 w'
 split at h
 · rename_i hf
   subst hf
   refine ⟨enters_of Tryz.func42 (by kernel_rfl) (by kernel_rfl), ?_⟩
   split at h <;> try (cases h; done)
   rename_i l m b
   cases hN : decL decN l with
   | none => rw [hN] at h; cases h
   | some N =>
     cases hM : decL decN m with
     | none => rw [hN, hM] at h; cases h
     | some M =>
       rw [hN, hM] at h
       cases h
       obtain rfl := decL_some decN_some hN
       obtain rfl := decL_some decN_some hM
       exact fun hc w' _ => same_con (Φ := fun _ => True) N M b w' trivial
 split at h
 · rename_i hf
   subst hf
   refine ⟨enters_of Tryz.func39 (by kernel_rfl) (by kernel_rfl), ?_⟩
   split at h <;> cases h
   exact fun hc w' f => tworks_con w' (hst.same f)
 · cases h
theorem eqNs_refl : ∀ N : List NodeM, eqNs N N = true
 | [] => rfl
 | x :: N => by
   rw [eqNs, eqNs_refl N, Bool.and_true]
   unfold eqN eqL
   simp
theorem few_small {N : List NodeM} (h : fewM N = true) : N.length ≤ 1000000 ∧ ∀ x ∈ N, x.attrs.length ≤ 1000000000 := by
 unfold fewM at h
 simp only [Bool.and_eq_true, decide_eq_true_eq] at h
 refine ⟨by omega, ?_⟩
 have key : ∀ N : List NodeM, fewSum N ≤ 4000 → ∀ x ∈ N, x.attrs.length ≤ 4000 := by
  intro N
  induction N with
  | nil => intro _ x hx; cases hx
  | cons y N ih =>
    intro h x hx
    rw [fewSum] at h
    rcases List.mem_cons.1 hx with rfl | hx
    · unfold fewW at h; omega
    · exact ih (by omega) x hx
 exact fun x hx => by have := key N h.2 x hx; omega
set_option maxHeartbeats 4000000 in
set_option maxRecDepth 100000 in
theorem treeSame_con (N M : List NodeM) (hN : N.length ≤ 60 → fewSum N ≤ 4611686018427387904) (hM : M.length ≤ 60 → fewSum M ≤ 4611686018427387904) : Con Tryz.prog St 10 [.agg [.ro (N.map encN)], .agg [.ro (M.map encN)]] (.sc (.bool true)) [] := by
 refine con_of_aw [] (fun w h => sp1_ok w h) (by kernel_rfl) Tryz.func10 rfl ?_
 intro _
 simp only [Tryz.ntmps10]
 simp only [List.length_cons, List.length_nil, Nat.reduceAdd, Nat.reduceSub, List.replicate_succ, List.replicate_zero, List.cons_append, List.nil_append]
 cases h1 : fewM N
 case false =>
  simp (maxSteps := 2000000) only [↓awA, awB, evA, envE, ofV, putE, listH, setRow, spl, oneP, guardB, frzA, mapO, allSc, closeA, shiftA, shiftR, flatA, flat0, scA, Row.len, fillW, rep, chunks, closed1, Value.oneCell', Nat.reduceAdd, reduceIte, reduceCtorEq, Nat.reduceLT, Nat.reduceLeDiff, Nat.reduceEqDiff, Nat.reduceSub, Nat.reduceMul, tys,  h1, sp1_few, sp1_works, hN, hM, List.size_toArray, Tryz.results10]
  exact hN
 cases h2 : fewM M
 case false =>
  simp (maxSteps := 2000000) only [↓awA, awB, evA, envE, ofV, putE, listH, setRow, spl, oneP, guardB, frzA, mapO, allSc, closeA, shiftA, shiftR, flatA, flat0, scA, Row.len, fillW, rep, chunks, closed1, Value.oneCell', Nat.reduceAdd, reduceIte, reduceCtorEq, Nat.reduceLT, Nat.reduceLeDiff, Nat.reduceEqDiff, Nat.reduceSub, Nat.reduceMul, tys,  h1, h2, sp1_few, sp1_works, hN, hM, List.size_toArray, Tryz.results10]
  exact ⟨hN, hM⟩
 have s1 := few_small h1
 have s2 := few_small h2
 have e1 := sameM_eqNs N M
 have e2 := eqNs_refl N
 simp (maxSteps := 2000000) only [↓awA, awB, evA, envE, ofV, putE, listH, setRow, spl, oneP, guardB, frzA, mapO, allSc, closeA, shiftA, shiftR, flatA, flat0, scA, Row.len, fillW, rep, chunks, closed1, Value.oneCell', Nat.reduceAdd, reduceIte, reduceCtorEq, Nat.reduceLT, Nat.reduceLeDiff, Nat.reduceEqDiff, Nat.reduceSub, Nat.reduceMul, tys,  h1, h2, sp1_few, sp1_works, sp1_Same, sp1_ref, sp1_same, hN, hM, s1, s2, e1, e2, List.size_toArray, Tryz.results10]
 exact ⟨hN, hM, Dr_of (by kernel_rfl), s1.2, s2.2⟩
theorem vc_tree {w : World} {S : Nat → Prop} {X : List NodeX} {v : Value} (ho : v.oneCell' = true) (h : NodesRd w S v X) : VC S w (.agg [.ro ((X.map (·.model)).map encN)]) (.agg #[v]) :=
 .agg [_] [v] rfl (fun u hu => by rw [List.mem_singleton] at hu; subst hu; exact ho) (fun i y u h1 h2 => by
  match i with
  | 0 => cases h1; cases h2; exact vc_nodes h
  | i + 1 => simp at h1)
end Aw
theorem treeSame_any {N M : List NodeM} {A B : Option Addr} {n m c d : Nat} (w : World) (hst : St w) (hN : Tr N w A n c) (hM : Tr M w B m d) (bN : N.length ≤ 60 → fewSum N ≤ 4611686018427387904) (bM : M.length ≤ 60 → fewSum M ≤ 4611686018427387904) :
 Calls Tryz.prog 10 #[.agg #[.slice A n c], .agg #[.slice B m d]] w fun e w' => e = .returned (.bool true) ∧ Fr (fun _ => False) w w' := by
 obtain ⟨X, S, h1, h2, rfl⟩ := hN
 obtain ⟨Y, S', k1, k2, rfl⟩ := hM
 have vx := (Aw.vc_tree rfl h1).keep (S' := fun k => S k ∨ S' k) (fun k hk => .inl hk) (fun _ _ => rfl)
 have vy := (Aw.vc_tree rfl k1).keep (S' := fun k => S k ∨ S' k) (fun k hk => .inr hk) (fun _ _ => rfl)
 refine (Aw.treeSame_con (X.map (·.model)) (Y.map (·.model)) bN bM w hst (fun k => S k ∨ S' k) [.agg #[.slice A n c], .agg #[.slice B m d]] (fun k hk => hk.elim (h2 k) (k2 k)) rfl (fun i x v a1 a2 => ?_)).mono (fun e w' h => ?_)
 · match i with
   | 0 => cases a1; cases a2; exact vx
   | 1 => cases a1; cases a2; exact vy
   | i + 2 => simp at a1
 · obtain ⟨v, I', rfl, hm, hv⟩ := h
   rw [hv.sc_inv]
   exact ⟨rfl, hm.fr⟩
end Go.Proofs.YtncecbgpkoihpaaGreatDoor
