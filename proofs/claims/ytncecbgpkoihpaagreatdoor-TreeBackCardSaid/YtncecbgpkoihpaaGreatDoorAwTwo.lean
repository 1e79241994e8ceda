/- Abstract walks: operations one behind the other. -/
import Derived.Test.YtncecbgpkoihpaaGreatDoorAwOne
import Derived.Deep.LoopGhost
namespace Go.Proofs.YtncecbgpkoihpaaGreatDoor.Aw
open Go.RowKit
def envE (env : List AV) : Nat → AV := fun t => env.getD t .dead
def setRow (rows : List Row) (k : Nat) (r : Row) : List Row := if k = rows.length then rows ++ [r] else rows.set k r
def putE (env : List AV) (d : Option Tmp) (v : AV) : List AV :=
 match d with
 | some t => env.set t v
 | none => env
def opW (P : Program) (sp : Spec) (env : List AV) (rows : List Row) (o : Oper) (K : AV → List Row → Prop) : Prop :=
 match o.op with
 | .store t p x => z3h P (z03 rows) t (evA (envE env) p) (evA (envE env) x) fun k r => k < rows.length ∧ K (.sc undef) (setRow rows k r)
 | .call c => match c.callee with
   | .builtin .append => match c.args.toList, c.argTypes.toList with
     | [s, x], [t, t'] => t = t' ∧ appW P rows.length (z03 rows) t (evA (envE env) s) (evA (envE env) x) fun v k r => k ≤ rows.length ∧ K v (setRow rows k r)
     | _, _ => False
   | _ => qW P sp rows.length (evA (envE env)) (z03 rows) o fun v new => K v (rows ++ new)
 | _ => qW P sp rows.length (evA (envE env)) (z03 rows) o fun v new => K v (rows ++ new)
def opsW (P : Program) (sp : Spec) (ops : Array Oper) : List Oper → List AV → List Row → (List AV → List Row → Prop) → Prop
 | [], env, rows, K => K env rows
 | o :: l, env, rows, K =>
   match o.guard with
   | none => opW P sp env rows o fun v rows' => opsW P sp ops l (putE env o.dst v) rows' K
   | some (j, want) => match (ops[j]?).bind (·.dst) with
     | some t => match envE env t with
       | .sc (.bool b) => (b = want → opW P sp env rows o fun v rows' => opsW P sp ops l (putE env o.dst v) rows' K) ∧ (¬ b = want → opsW P sp ops l (putE env o.dst (.sc undef)) rows K)
       | .sc _ => opsW P sp ops l (putE env o.dst (.sc undef)) rows K
       | _ => False
     | none => False
section
variable {P : Program} {sp : Spec} {w0 w w' : World} {fp S0 : Nat → Prop} {I I' : Itp} {H H' : Heap} {n nx : Nat} {E : Nat → AV} {a : Act} {env : List AV} {rows : List Row}
abbrev RelS (w0 : World) (fp S0 : Nat → Prop) (I : Itp) (env : List AV) (rows : List Row) (a : Act) (w : World) : Prop := Rel w0 fp S0 I env.length (envE env) (z03 rows) a w
theorem z6x (rows new : List Row) : z03 (rows ++ new) = ins (z03 rows) rows.length new := by
 funext K
 unfold z03 ins
 by_cases h : rows.length ≤ K ∧ K < rows.length + new.length
 · rw [if_pos h, List.getD_eq_getElem?_getD, List.getElem?_append_right h.1, List.getD_eq_getElem?_getD]
 · rw [if_neg h]
   by_cases h2 : K < rows.length
   · rw [List.getD_eq_getElem?_getD, List.getElem?_append_left h2]
     exact (List.getD_eq_getElem?_getD ..).symm
   · rw [List.getD_eq_getElem?_getD, List.getElem?_eq_none (by simp; omega)]
     show _ = rows.getD K .dead
     rw [List.getD_eq_getElem?_getD, List.getElem?_eq_none (by omega)]
theorem z6y (rows : List Row) (k : Nat) (r : Row) (hk : k ≤ rows.length) : z03 (setRow rows k r) = upd (z03 rows) k r := by
 unfold setRow
 by_cases h : k = rows.length
 · rw [if_pos h, z6x, zez, h]
 · rw [if_neg h]
   funext K
   unfold z03 upd
   rw [List.getD_eq_getElem?_getD, List.getElem?_set]
   by_cases hK : K = k
   · rw [if_pos hK.symm, if_pos (by omega), if_pos hK]; rfl
   · rw [if_neg (fun e => hK e.symm), if_neg hK]
     exact (List.getD_eq_getElem?_getD ..).symm
theorem z4i (d : Option Tmp) (v : AV) : (putE env d v).length = env.length := by unfold putE; split <;> simp
theorem Rel.put (h : RelS w0 fp S0 I env rows a w) {rows' : List Row} {x : AV} {v : Value} (hm : Mem w0 fp S0 I' (z03 rows') w') (hv : VR I' (z03 rows') w' x v) (hk : ∀ y u, VR I (z03 rows) w y u → VR I' (z03 rows') w' y u) (d : Option Tmp) :
 RelS w0 fp S0 I' (putE env d x) rows' (a.put d v) w' := by
 have hsz : (putE env d x).length = env.length := z4i d x
 cases d with
 | none => exact ⟨hm, h.df, by rw [hsz]; exact h.size, fun i u hu => hk _ _ (h.env i u hu), h.out⟩
 | some t =>
   refine ⟨hm, h.df, ?_, fun i u hu => ?_, fun i hi => ?_⟩
   · rw [hsz]
     show (a.tmps.setIfInBounds t v).size = _
     rw [Array.size_setIfInBounds]
     exact h.size
   · have hu : (a.tmps.setIfInBounds t v)[i]? = some u := hu
     rw [Array.getElem?_setIfInBounds] at hu
     show VR I' _ w' ((env.set t x).getD i .dead) u
     rw [List.getD_eq_getElem?_getD, List.getElem?_set]
     by_cases hti : t = i
     · rw [if_pos hti] at hu ⊢
       split at hu
       · rename_i hlt
         have hs := h.size
         have hlt2 : t < env.length := hs ▸ hlt
         rw [if_pos hlt2]
         cases hu
         exact hv
       · cases hu
     · rw [if_neg hti] at hu ⊢
       have := hk _ _ (h.env i u hu)
       unfold envE at this
       rw [List.getD_eq_getElem?_getD] at this
       exact this
   · rw [hsz] at hi
     have := h.out i hi
     show (env.set t x).getD i .dead = .dead
     rw [List.getD_eq_getElem?_getD, List.getElem?_eq_none (by simpa using hi)]
     rfl
theorem zkg {o : Oper} {K : AV → List Row → Prop} (h : opW P sp env rows o K) : ∃ v r, K v r ∧ opW P sp env rows o fun v' r' => v' = v ∧ r' = r := by
 have q : (qW P sp rows.length (evA (envE env)) (z03 rows) o fun v new => K v (rows ++ new)) → ∃ v r, K v r ∧ qW P sp rows.length (evA (envE env)) (z03 rows) o fun v' new => v' = v ∧ rows ++ new = r := fun h => by
  obtain ⟨x, new, h1, h2⟩ := zjv h
  refine ⟨x, rows ++ new, h1, ?_⟩
  have e : (fun v' new' => v' = x ∧ rows ++ new' = rows ++ new) = (fun (v' : AV) (new' : List Row) => v' = x ∧ new' = new) := by funext v' new'; simp
  rw [e]
  exact h2
 unfold opW at *
 split at h
 · obtain ⟨k, r, ⟨h1, h2⟩, h3⟩ := z7s h
   refine ⟨_, _, h2, ?_⟩
   have : (fun k' r' => k' = k ∧ r' = r) = (fun (k' : Nat) (r' : Row) => k' = k ∧ r' = r) := rfl
   unfold z3h at h3 ⊢
   split at h3 <;> try exact h3.elim
   · split at h3 <;> try exact h3.elim
     obtain ⟨l, ⟨a1, a2, rfl, rfl⟩, a4⟩ := z2a h3
     exact a4 _ ⟨a1, a2, h1, rfl, rfl⟩
   · split at h3 <;> try exact h3.elim
     obtain ⟨b1, b2, h3⟩ := h3
     obtain ⟨l, ⟨a1, a2, a3, rfl, rfl⟩, a4⟩ := z2a h3
     exact ⟨b1, b2, a4 _ ⟨a1, a2, a3, h1, rfl, rfl⟩⟩
 · split at h
   · split at h <;> try exact h.elim
     obtain ⟨h0, h⟩ := h
     obtain ⟨v, k, r, ⟨h1, h2⟩, h3⟩ := zgu h
     refine ⟨_, _, h2, h0, ?_⟩
     unfold appW at h3 ⊢
     split at h3 <;> try exact h3.elim
     obtain ⟨l2, ⟨c1, h3⟩, hn⟩ := z9e h3
     split at h3 <;> try exact h3.elim
     · obtain ⟨d1, rfl, rfl, rfl⟩ := h3
       exact hn _ ⟨c1, d1, h1, rfl, rfl⟩
     · split at h3 <;> try exact h3.elim
       rename_i hK
       obtain ⟨d1, d2, d3, d4, rfl, rfl, rfl⟩ := h3
       refine hn _ ⟨c1, ?_⟩
       exact ⟨d1, d2, d3, d4, h1, rfl, rfl⟩
   · exact q h
 · exact q h
theorem zq5 (hsp : SpecOk P sp w0 fp) {o : Oper} {v : AV} {r : List Row} (h : opW P sp env rows o fun v' r' => v' = v ∧ r' = r) (hR : RelS w0 fp S0 I env rows a w) {K : Act → World → Prop} {Q : Exit → Act → World → Prop}
 (hK : ∀ I' u w', RelS w0 fp S0 I' (putE env o.dst v) r (a.put o.dst u) w' → K (a.put o.dst u) w') : o.wp P a w K Q := by
 have q : (qW P sp rows.length (evA (envE env)) (z03 rows) o fun v' new => v' = v ∧ rows ++ new = r) → o.wp P a w K Q := fun h => by
  obtain ⟨x, new, ⟨rfl, rfl⟩, h2⟩ := zjv h
  refine q_ok hsp h2 S0 I _ a w hR (fun k h1 _ => z2j (by omega)) K Q (fun u w' I' hv hm hk => ?_)
  rw [← z6x] at hv hm hk
  exact hK I' u w' (hR.put hm hv hk o.dst)
 unfold opW at h
 split at h
 · rename_i t p x ho
   obtain ⟨k, rr, ⟨h1, rfl, rfl⟩, h3⟩ := z7s h
   obtain ⟨w', q1, q2, q3⟩ := zcz (P := P) hR.mem h3 (z1s hR p) (z1s hR x)
   unfold Oper.wp
   have hrun : (execOp a.eval o).run P w = .ok .skip w' := by
    simp only [execOp, ho, Sem.run_bind, q1, Result.andThen_ok]; rfl
   rw [hrun]
   rw [← z6y rows k rr (Nat.le_of_lt h1)] at q2 q3
   exact hK I undef w' (hR.put q2 (.cl _ _ (.sc _)) q3 o.dst)
 · rename_i c ho
   split at h
   · rename_i hc
     split at h <;> try exact h.elim
     rename_i s x t t' hargs hty
     obtain ⟨rfl, h⟩ := h
     obtain ⟨v1, k, rr, ⟨h1, rfl, rfl⟩, h3⟩ := zgu h
     obtain ⟨u, w', I', q1, q2, q3, q4⟩ := zqq (P := P) (ty := o.type) hR.mem h3 (z1s hR s) (z1s hR x) (fun _ => z2j (by omega))
     have e1 : c.args = #[s, x] := by rw [← Array.toArray_toList (xs := c.args), hargs]
     have e2 : c.argTypes = #[t, t] := by rw [← Array.toArray_toList (xs := c.argTypes), hty]
     unfold Oper.wp
     have hrun : (execOp a.eval o).run P w = .ok (.value u) w' := by
      simp only [execOp, ho, resolve, hc, e1, e2, List.map_toArray, List.map_cons, List.map_nil, Sem.run_bind, Sem.run_pure, Result.andThen_ok, invoke, builtin, q1]
     rw [hrun]
     rw [← z6y rows k rr h1] at q2 q3 q4
     exact hK I' u w' (hR.put q2 q3 q4 o.dst)
   · exact q h
 · exact q h
end
end Go.Proofs.YtncecbgpkoihpaaGreatDoor.Aw
namespace Go.Proofs.YtncecbgpkoihpaaGreatDoor.Aw
open Go.RowKit
def z0z (H : Heap) : Nat → AV → Prop
 | 0, .ptr K _ => H K ≠ .dead
 | f + 1, .ptr K _ => match H K with
   | .var cs _ => ∀ x ∈ cs, z0z H f x
   | _ => False
 | _, .sl K _ => H K ≠ .dead
 | _, .lp K _ _ _ => H K ≠ .dead
 | f + 1, .agg l => ∀ x ∈ l, z0z H f x
 | f + 1, .fn _ l => ∀ x ∈ l, z0z H f x
 | _, _ => True
section
variable {P : Program} {sp : Spec} {w0 w w' : World} {fp S0 : Nat → Prop} {I I' : Itp} {H H' : Heap} {n nx : Nat} {E : Nat → AV} {a : Act} {env : List AV} {rows : List Row}
theorem z7t {l : List AV} {vs : List Value} (hl : l.length = vs.length) (h : ∀ (i : Nat) x v, l[i]? = some x → vs[i]? = some v → VR I H w x v) {R : AV → Prop} (hR : ∀ x v, VR I H w x v → R x) : ∀ x ∈ l, R x := fun x hx => by
 obtain ⟨i, hi, hh⟩ := List.getElem_of_mem hx
 exact hR x (vs[i]'(by omega)) (h i x _ (by rw [← hh]; exact List.getElem?_eq_getElem hi) (List.getElem?_eq_getElem (by omega)))
theorem z4j (hm : Mem w0 fp S0 I H w) : ∀ (f : Nat) (x : AV) (v : Value), VR I H w x v → z0z H f x
 | 0, .ptr K off, v, h => by
   obtain ⟨-, cs, e, hK⟩ := h.ptr_inv
   show H K ≠ .dead
   rw [hK]
   exact fun h => by cases h
 | f + 1, .ptr K off, v, h => by
   obtain ⟨-, cs, e, hK⟩ := h.ptr_inv
   have hr := hm.rows K
   rw [hK] at hr
   obtain ⟨vs, g1, g2, g3, g4⟩ := hr
   unfold z0z
   simp only [hK]
   exact z7t g2 g4 (fun x v hv => z4j hm f x v hv)
 | f, .sl K m, v, h => by
   obtain ⟨m', q1, -⟩ := h.sl_inv
   have : H K ≠ .dead := fun e => by rw [e] at q1; cases q1
   cases f <;> exact this
 | f, .lp K m i j, v, h => by
   obtain ⟨m', q1, -⟩ := h.lp_inv
   have : H K ≠ .dead := fun e => by rw [e] at q1; cases q1
   cases f <;> exact this
 | 0, .agg l, v, h => trivial
 | f + 1, .agg l, v, h => by
   obtain ⟨vs, rfl, g1, g2, g3⟩ := h.agg_inv
   exact z7t g1 g3 (fun x v hv => z4j hm f x v hv)
 | 0, .fn g l, v, h => trivial
 | f + 1, .fn g l, v, h => by
   obtain ⟨vs, rfl, g1, g3⟩ := h.fn_inv
   exact z7t g1 g3 (fun x v hv => z4j hm f x v hv)
 | f, .sc u, v, h => by cases f <;> trivial
 | f, .tup u, v, h => by cases f <;> trivial
 | f, .ro u, v, h => by cases f <;> trivial
 | f, .rp u, v, h => by cases f <;> trivial
 | f, .dead, v, h => by cases f <;> trivial
def z3b (H H' : Heap) : Prop := ∀ K, H K ≠ .dead → H' K ≠ .dead → H' K = H K
theorem zii (hc : z3b H H') {x : AV} (ha : z0z H' 4 x) (h : oneP H x) : oneP H' x := by
 cases x <;> try exact h
 rename_i K n
 have h : (H K).len = some n := h
 have : H' K = H K := hc K (fun e => by rw [e] at h; cases h) ha
 show (H' K).len = some n
 rw [this]
 exact h
theorem z3i (hc : z3b H H') {x : AV} (ha : z0z H' 4 x) {K K' : List AV → Prop} (h : z2i H x K) (hK : ∀ l, K l → K' l) : z2i H' x K' := by
 unfold z2i at *
 split at h
 · exact hK _ h
 · exact ⟨zii hc ha h.1, hK _ h.2⟩
theorem zd0 (hc : z3b H H') {x : AV} (ha : z0z H' 4 x) {K : List AV → Prop} (h : placeW H x K) : placeW H' x K := by
 unfold placeW at *
 split at h <;> try exact h.elim
 · rename_i K' off
   have hd : H K' ≠ .dead := fun e => by rw [e] at h; exact h
   have hd' : H' K' ≠ .dead := fun e => by unfold z0z at ha; rw [e] at ha; exact ha
   rw [← hc K' hd hd'] at h
   exact h
 · exact h
 · rename_i K' n i j
   have hd : H K' ≠ .dead := fun e => by rw [e] at h; exact h
   rw [← hc K' hd ha] at h
   exact h
theorem z8s (hc : z3b H H') {s : TypeId} {f : Nat} {x : AV} (ha : z0z H' 4 x) {K : AV → Prop} (h : z0s P H s f x K) : z0s P H' s f x K := by
 unfold z0s at *
 split at h <;> try exact h.elim
 split at h <;> try exact h.elim
 · exact h
 · exact h
 · rename_i K' n i j
   have hd : H K' ≠ .dead := fun e => by rw [e] at h; exact h
   rw [← hc K' hd ha] at h
   exact h
theorem z8t (hc : z3b H H') {t : TypeId} {x ix : AV} (ha : z0z H' 4 x) {K : AV → Prop} (h : z0t P H t x ix K) : z0t P H' t x ix K := by
 unfold z0t at *
 split at h <;> try exact h.elim
 split at h <;> try exact h.elim
 · split at h <;> try exact h.elim
   · exact h
   · rename_i K' n
     have hd : H K' ≠ .dead := fun e => by rw [e] at h; exact h
     rw [← hc K' hd ha] at h
     exact h
 · exact h
theorem zij (hc : z3b H H') {t : TypeId} {x : AV} (ha : z0z H' 4 x) {K : AV → Prop} (h : lenW P H t x K) : lenW P H' t x K := by
 unfold lenW at *
 split at h <;> try exact h.elim
 · exact h
 · exact h
 · rename_i K' n
   split at h <;> try exact h.elim
   have hd : H K' ≠ .dead := fun e => by rw [e] at h; cases h.1
   rw [← hc K' hd ha] at h
   exact h
 · exact h
theorem zik (hc : z3b H H') {x : AV} (ha : z0z H' 4 x) {K : AV → Prop} (h : nilW H x K) : nilW H' x K := by
 unfold nilW at *
 split at h <;> try exact h.elim
 · exact h
 · exact h
 · rename_i K' n i j
   have hd : H K' ≠ .dead := fun e => by rw [e] at h; exact h
   rw [← hc K' hd ha] at h
   exact h
 · exact h
 · exact h
 · exact h
theorem z6a (hc : z3b H H') {plc : Nat → Option (Nat × Nat)} : ∀ {parts : List (Nat × AV)} {cells : List AV} {K K' : List AV → Prop}, (∀ p ∈ parts, z0z H' 4 p.2) → z4f H plc cells parts K → (∀ l, K l → K' l) → z4f H' plc cells parts K'
 | [], cells, K, K', ha, h, hK => hK _ h
 | (i, x) :: rest, cells, K, K', ha, h, hK => by
   simp only [z4f] at h ⊢
   split at h <;> try exact h.elim
   exact z3i hc (ha (i, x) (by simp)) h (fun l hl => ⟨hl.1, hl.2.1, z6a hc (fun p hp => ha p (by simp [hp])) hl.2.2 hK⟩)
theorem z3y {g g' : AV → Option AV} : ∀ {l m : List AV}, (∀ x ∈ l, ∀ y, g x = some y → g' x = some y) → mapO g l = some m → mapO g' l = some m
 | [], m, h, hm => hm
 | x :: l, m, h, hm => by
   simp only [mapO] at hm ⊢
   split at hm <;> try (cases hm; done)
   rename_i y m' hy hm'
   rw [h x (by simp) y hy, z3y (fun x hx => h x (by simp [hx])) hm']
   exact hm
theorem z4k (hc : z3b H H') : ∀ (f : Nat) (x y : AV), z0z H' f x → z4g H f x = some y → z4g H' f x = some y
 | f, .sc u, y, ha, h => by cases f <;> exact h
 | f, .ro u, y, ha, h => by cases f <;> exact h
 | f, .rp u, y, ha, h => by cases f <;> exact h
 | f, .sl K n, y, ha, h => by
   have hd' : H' K ≠ .dead := by cases f <;> exact ha
   have h2 : (match H K with
    | .lst _ l _ => if l.length = n then some (AV.ro l) else none
    | .fro l => if l.length = n then some (.ro l) else none
    | _ => none) = some y := by cases f <;> exact h
   have hd : H K ≠ .dead := fun e => by rw [e] at h2; cases h2
   rw [← hc K hd hd'] at h2
   clear h
   cases f <;> exact h2
 | 0, .ptr K off, y, ha, h => by cases h
 | f + 1, .ptr K off, y, ha, h => by
   simp only [z4g] at h ⊢
   unfold z0z at ha
   have hd : H K ≠ .dead := fun e => by rw [e] at h; cases h
   have hd' : H' K ≠ .dead := fun e => by rw [e] at ha; exact ha
   have he := hc K hd hd'
   rw [he] at ha ⊢
   split at h <;> try (cases h; done)
   rename_i cs e hK
   rw [hK] at ha
   simp only at ha
   simp only [Option.map_eq_some_iff] at h ⊢
   obtain ⟨m, hm, rfl⟩ := h
   exact ⟨m, z3y (fun x hx y hy => z4k hc f x y (ha x (List.mem_of_mem_drop hx)) hy) hm, rfl⟩
 | 0, .agg l, y, ha, h => by cases h
 | f + 1, .agg l, y, ha, h => by
   simp only [z4g, Option.map_eq_some_iff] at h ⊢
   obtain ⟨m, hm, rfl⟩ := h
   exact ⟨m, z3y (fun x hx y hy => z4k hc f x y (ha x hx) hy) hm, rfl⟩
 | 0, .fn g l, y, ha, h => by cases h
 | f + 1, .fn g l, y, ha, h => by
   simp only [z4g, Option.map_eq_some_iff] at h ⊢
   obtain ⟨m, hm, rfl⟩ := h
   exact ⟨m, z3y (fun x hx y hy => z4k hc f x y (ha x hx) hy) hm, rfl⟩
 | f, .tup l, y, ha, h => by cases f <;> cases h
 | f, .lp K n i j, y, ha, h => by cases f <;> cases h
 | f, .dead, y, ha, h => by cases f <;> cases h
theorem zf5 (hc : z3b H H') {f : AV} {args : List AV} {K : AV → List Row → Prop} (hf : z0z H' 5 f) (ha : ∀ x ∈ args, z0z H' 4 x) (h : z9c sp nx H f args K) : z9c sp nx H' f args K := by
 have key : ∀ (g : FuncId) (cap : List AV), (∀ x ∈ cap, z0z H' 4 x) → (match mapO (z0j 3) (args ++ cap) with
  | some l => match sp.call g l with
    | some (c, r, rs) => c ∧ K (z0b nx 3 r) (rs.map (z0d nx))
    | none => False
  | none => match mapO (z4g H 4) (args ++ cap) with
    | some l => match sp.call g l with
      | some (c, r, rs) => c ∧ z1o r = true ∧ K r []
      | none => False
    | none => False) → (match mapO (z0j 3) (args ++ cap) with
  | some l => match sp.call g l with
    | some (c, r, rs) => c ∧ K (z0b nx 3 r) (rs.map (z0d nx))
    | none => False
  | none => match mapO (z4g H' 4) (args ++ cap) with
    | some l => match sp.call g l with
      | some (c, r, rs) => c ∧ z1o r = true ∧ K r []
      | none => False
    | none => False) := by
  intro g cap hcap h
  split at h
  · exact h
  · split at h <;> try exact h.elim
    rename_i l hl
    rw [z3y (g' := z4g H' 4) (fun x hx y hy => z4k hc 4 x y (by
     rcases List.mem_append.1 hx with hx | hx
     · exact ha x hx
     · exact hcap x hx) hy) hl]
    exact h
 unfold z9c callee at *
 split at h <;> try exact h.elim
 · exact ⟨h.1, h.2.1, key _ _ (fun x hx => by simp at hx) h.2.2⟩
 · exact key _ _ hf h
theorem z7u (hc : z3b H H') {e e' : Operand → AV} {op : Op} {K : AV → Prop} (he : ∀ x ∈ op.operands, e' x = e x) (ha : ∀ x ∈ op.operands, z0z H' 4 (e' x)) (h : valW P sp H e op K) : valW P sp H' e' op K := by
 have hx : ∀ x ∈ op.operands, z0z H' 4 (e x) := fun x hx => he x hx ▸ ha x hx
 unfold valW at *
 split at h <;> try exact h.elim
 all_goals simp only [Op.operands, Array.mem_def] at he hx
 · rw [he _ (by simp)]; exact h
 · rw [he _ (by simp)]; exact h
 · rw [he _ (by simp), he _ (by simp), he _ (by simp)]; exact h
 · rw [he _ (by simp)]; exact zd0 hc (hx _ (by simp)) h
 · rw [he _ (by simp)]; exact z8s hc (hx _ (by simp)) h
 · rw [he _ (by simp), he _ (by simp)]; exact z8t hc (hx _ (by simp)) h
 · rw [he _ (by simp)]; exact h
 · rw [he _ (by simp), he _ (by simp)]; exact h
 · rw [he _ (by simp)]; exact h
 · rw [he _ (by simp)]; exact zik hc (hx _ (by simp)) h
 · rw [he _ (by simp)]; exact h
 · rw [he _ (by simp), he _ (by simp)]; exact h
 · rw [he _ (by simp)]; exact h
 · rename_i t x lo hi mx
   rw [he x (by simp)]
   have e1 : lo.map e' = lo.map e := by cases lo <;> simp_all
   have e2 : hi.map e' = hi.map e := by cases hi <;> simp_all
   rw [e1, e2]
   exact h
 · rename_i fn first cap
   have e1 : cap.toList.map e' = cap.toList.map e := List.map_congr_left fun x hx => he x (by simp at hx ⊢; exact .inr hx)
   rw [e1]
   exact h
 · rename_i c
   split at h <;> try exact h.elim
   split at h <;> try exact h.elim
   rename_i hcal x t hargs hty
   have hmem : x ∈ c.args.toList := by rw [hargs]; simp
   have hop : x ∈ c.operands.toList := by simp only [Call.operands, Array.toList_append, List.mem_append]; exact .inr hmem
   rw [he x hop]
   exact zij hc (hx x hop) h
theorem zo4 (hc : z3b H H') {e e' : Operand → AV} {o : Oper} {K : AV → List Row → Prop} (he : ∀ x ∈ o.op.operands, e' x = e x) (ha : ∀ f, ∀ x ∈ o.op.operands, z0z H' f (e' x)) (h : qW P sp nx e H o K) : qW P sp nx e' H' o K := by
 have hx : ∀ f, ∀ x ∈ o.op.operands, z0z H' f (e x) := fun f x hx => he x hx ▸ ha f x hx
 unfold qW at *
 split at h
 · exact h
 · rename_i t x ho
   rw [ho] at he hx
   simp only [Op.operands, Array.mem_def] at he hx
   rw [he _ (by simp)]
   exact z3i hc (hx 4 _ (by simp)) h (fun l hl => hl)
 · rename_i t parts ho
   rw [ho] at he hx
   simp only [Op.operands, Array.mem_def] at he hx
   have e1 : (parts.toList.map fun p => (p.1, e' p.2)) = parts.toList.map fun p => (p.1, e p.2) := List.map_congr_left fun p hp => by rw [he p.2 (by simp at hp ⊢; exact ⟨_, hp⟩)]
   rw [e1]
   unfold z61 at *
   split at h <;> try exact h.elim
   exact z6a hc (fun p hp => by
    simp only [List.mem_map] at hp
    obtain ⟨q, hq, rfl⟩ := hp
    exact hx 4 q.2 (by simp at hq ⊢; exact ⟨_, hq⟩)) h (fun l hl => hl)
 · rename_i t len parts ho
   rw [ho] at he hx
   simp only [Op.operands, Array.mem_def] at he hx
   have e1 : (parts.toList.map fun p => (p.1, e' p.2)) = parts.toList.map fun p => (p.1, e p.2) := List.map_congr_left fun p hp => by rw [he p.2 (by simp at hp ⊢; exact ⟨_, hp⟩)]
   rw [e1]
   split at h <;> try exact h.elim
   exact ⟨h.1, h.2.1, z6a hc (fun p hp => by
    simp only [List.mem_map] at hp
    obtain ⟨q, hq, rfl⟩ := hp
    exact hx 4 q.2 (by simp at hq ⊢; exact ⟨_, hq⟩)) h.2.2 (fun l hl => hl)⟩
 · rename_i c ho
   split at h
   · rename_i f hcal
     rw [ho] at he hx
     simp only [Op.operands, Array.mem_def] at he hx
     have hop : f ∈ c.operands.toList := by simp only [Call.operands, hcal]; simp
     have hoa : ∀ x ∈ c.args.toList, x ∈ c.operands.toList := fun x hx => by simp only [Call.operands, Array.toList_append, List.mem_append]; exact .inr hx
     have e1 : c.args.toList.map e' = c.args.toList.map e := List.map_congr_left fun x hx => he x (hoa x hx)
     rw [e1, he f hop]
     exact zf5 hc (hx 5 f hop) (fun x h => by
      obtain ⟨y, hy, rfl⟩ := List.mem_map.1 h
      exact hx 4 y (hoa y hy)) h
   · exact z7u hc he (fun x hx => ha 4 x hx) h
 · exact z7u hc he (fun x hx => ha 4 x hx) h
theorem zd1 (hc : z3b H H') {t : TypeId} {p x : AV} (hp : z0z H' 4 p) (hx : z0z H' 4 x) {K : Nat → Row → Prop} (h : z3h P H t p x K) : z3h P H' t p x K := by
 unfold z3h at *
 split at h <;> try exact h.elim
 · rename_i K' off
   split at h <;> try exact h.elim
   rename_i cs e hK
   have hd' : H' K' ≠ .dead := fun e => by unfold z0z at hp; rw [e] at hp; exact hp
   have := hc K' (fun e => by rw [hK] at e; cases e) hd'
   rw [this, hK]
   exact z3i hc hx h (fun l hl => hl)
 · rename_i K' n i j
   split at h <;> try exact h.elim
   rename_i sz l e hK
   have hd' : H' K' ≠ .dead := hp
   have := hc K' (fun e => by rw [hK] at e; cases e) hd'
   rw [this, hK]
   exact ⟨h.1, h.2.1, z3i hc hx h.2.2 (fun l hl => hl)⟩
end
end Go.Proofs.YtncecbgpkoihpaaGreatDoor.Aw
namespace Go.Proofs.YtncecbgpkoihpaaGreatDoor.Aw
open Go.RowKit
def z1t (o : Oper) : Bool :=
 match o.op with
 | .store .. => false
 | .select .. => false
 | .call c => match c.callee with
   | .builtin .append => false
   | _ => true
 | _ => true
def befs : List Oper → List Nat → List Nat
 | [], acc => acc
 | o :: l, acc => befs l (acc ++ [o.after.toList.foldl (fun s e => if Region.binds .any e then s ||| 2 ^ e.on ||| acc.getD e.on 0 else s) 0])
def zbv (n : Nat) (f : Nat → Bool) : Bool := (List.range n).all f
def looksAt (ops : Array Oper) (o : Oper) : List Tmp := o.looksAt ops
def z9h (o : Oper) : Bool :=
 match o.op with
 | .alloc .. | .box .. | .build .. | .buildSlice .. | .call .. | .store .. | .select .. => false
 | _ => true
abbrev Fls := List (Nat × List Nat)
def okMs (n : Nat) : Nat → Fls → Bool
 | _, [] => true
 | b, (m, _) :: ms => decide (b ≤ m) && decide (m < n) && okMs n (m + 1) ms
def zav (ms : Fls) (ops : Array Oper) : Bool :=
 okMs ops.size 0 ms &&
 let n := ops.size
 let B := befs ops.toList []
 let bef (i j : Nat) : Bool := (B.getD j 0).testBit i
 let cut (b : Nat) : Bool := zbv n fun j => decide (j < b) || zbv b fun i => bef i j
 zbv n fun i => match ops[i]? with
  | none => false
  | some o =>
    (z1t o || ((cut i || ms.any fun (m, ks) => m == i && (match o.op with | .store .. => true | _ => false) && o.dst == none && o.guard == none && zbv i fun k => bef k i || (ks.contains k && match ops[k]? with
     | none => false
     | some ok => z9h ok && ok.guard == none && (looksAt ops ok).all fun t => zbv n fun j => (match ops[j]? with | none => false | some oj => oj.dst != some t) || bef j k)) && cut (i + 1))) &&
    (match o.op with | .select .. => false | _ => true) &&
    o.after.all (fun e => !Region.binds .any e || decide (e.on < i)) &&
    zbv n fun k => k == i || match ops[k]? with
     | none => false
     | some o' => match o'.dst with
       | none => true
       | some t => o.dst != some t && (!(looksAt ops o).contains t || bef k i || bef i k)
section
variable {ops : Array Oper}
theorem z2l {n : Nat} {f : Nat → Bool} : zbv n f = true ↔ ∀ i, i < n → f i = true := by
 unfold zbv
 rw [List.all_eq_true]
 simp
def Bef (ops : Array Oper) (i j : Nat) : Prop := ((befs ops.toList []).getD j 0).testBit i = true
def CutB (ops : Array Oper) (b : Nat) : Prop := ∀ i j, i < b → b ≤ j → j < ops.size → Bef ops i j
structure Fl (ms : Fls) (ops : Array Oper) (m : Nat) (o : Oper) (ks : List Nat) : Prop where
 mem : (m, ks) ∈ ms
 op : ∃ t x y, o.op = .store t x y
 dst : o.dst = none
 guard : o.guard = none
 fl : ∀ k, k < m → ¬ Bef ops k m → k ∈ ks ∧ ∃ ok, ops[k]? = some ok ∧ z9h ok = true ∧ ok.guard = none ∧ ∀ t ∈ ok.looksAt ops, ∀ j o', ops[j]? = some o' → o'.dst = some t → Bef ops j k
structure DrawOk (ms : Fls) (ops : Array Oper) : Prop where
 okms : okMs ops.size 0 ms = true
 cut : ∀ (m : Nat) (o : Oper), ops[m]? = some o → z1t o = false → (CutB ops m ∨ ∃ ks, Fl ms ops m o ks) ∧ CutB ops (m + 1)
 sel : ∀ (m : Nat) (o : Oper) cs b, ops[m]? = some o → o.op ≠ .select cs b
 edge : ∀ (m : Nat) (o : Oper), ops[m]? = some o → ∀ e ∈ o.after, Region.binds .any e = true → e.on < m
 uniq : ∀ (i k : Nat) (o o' : Oper) (t : Tmp), ops[i]? = some o → ops[k]? = some o' → i ≠ k → o'.dst = some t → o.dst ≠ some t
 look : ∀ (i k : Nat) (o o' : Oper) (t : Tmp), ops[i]? = some o → ops[k]? = some o' → i ≠ k → o'.dst = some t → t ∈ o.looksAt ops → Bef ops k i ∨ Bef ops i k
theorem zkh {ms : Fls} (h : zav ms ops = true) : DrawOk ms ops := by
 unfold zav at h
 rw [Bool.and_eq_true] at h
 obtain ⟨hms, h⟩ := h
 simp only [z2l] at h
 have get : ∀ (m : Nat) (o : Oper), ops[m]? = some o → m < ops.size := fun m o h => (Array.getElem?_eq_some_iff.1 h).1
 refine ⟨hms, fun m o ho hq => ?_, fun m o cs b ho he => ?_, fun m o ho e he hb => ?_, fun i k o o' t hi hk hne ht he => ?_, fun i k o o' t hi hk hne ht hl => ?_⟩
 · have := h m (get m o ho)
   simp only [ho, hq, Bool.false_or, Bool.and_eq_true, z2l] at this
   obtain ⟨⟨⟨⟨c1, c2⟩, -⟩, -⟩, -⟩ := this
   have cutOf : ∀ b, (∀ j, j < ops.size → (decide (j < b) || zbv b fun i => ((befs ops.toList []).getD j 0).testBit i) = true) → CutB ops b := fun b c i j hi hj hn => by
    have := c j hn
    rw [Bool.or_eq_true, z2l] at this
    rcases this with h1 | h1
    · have := of_decide_eq_true h1; omega
    · exact h1 i hi
   refine ⟨?_, cutOf _ c2⟩
   rw [Bool.or_eq_true, z2l] at c1
   rcases c1 with c1 | c1
   · exact .inl (cutOf _ c1)
   · right
     rw [List.any_eq_true] at c1
     obtain ⟨⟨m', ks⟩, hmem, c1⟩ := c1
     simp only [Bool.and_eq_true, beq_iff_eq, z2l, Bool.or_eq_true] at c1
     obtain ⟨⟨⟨⟨rfl, c3⟩, c4⟩, c5⟩, c6⟩ := c1
     refine ⟨ks, hmem, ?_, c4, c5, fun k hk hb => ?_⟩
     · split at c3
       · rename_i t x y hop; exact ⟨t, x, y, hop⟩
       · cases c3
     · rcases c6 k hk with c7 | ⟨c7, c8⟩
       · exact absurd c7 hb
       · have hkn : k < ops.size := Nat.lt_trans hk (get _ o ho)
         have hok := Array.getElem?_eq_getElem hkn
         rw [hok] at c8
         simp only [Bool.and_eq_true, beq_iff_eq, List.all_eq_true, z2l, Bool.or_eq_true] at c8
         refine ⟨by simpa using c7, _, hok, c8.1.1, c8.1.2, fun t ht j o' hj hd => ?_⟩
         have c9 := c8.2 t ht j (get j o' hj)
         rw [hj] at c9
         simp only [hd] at c9
         rcases c9 with c9 | c9
         · simp at c9
         · exact c9
 · have := h m (get m o ho)
   simp only [ho, he, Bool.and_false, Bool.false_and] at this
   cases this
 · have := h m (get m o ho)
   simp only [ho, Bool.and_eq_true] at this
   obtain ⟨⟨-, h1⟩, -⟩ := this
   have h2 := Array.all_eq_true_iff_forall_mem.1 h1 e he
   simpa [hb] using h2
 · have := h i (get i o hi)
   simp only [hi, Bool.and_eq_true, z2l] at this
   have h2 := this.2 k (get k o' hk)
   simp only [hk, ht, Bool.or_eq_true, beq_iff_eq] at h2
   rcases h2 with h2 | h2
   · exact hne h2.symm
   · simp [he] at h2
 · have := h i (get i o hi)
   simp only [hi, Bool.and_eq_true, z2l] at this
   have h2 := this.2 k (get k o' hk)
   simp only [hk, ht, Bool.or_eq_true, beq_iff_eq, Bool.and_eq_true] at h2
   rcases h2 with h2 | ⟨-, h2⟩
   · exact absurd h2.symm hne
   · rcases h2 with (h2 | h2) | h2
     · have : (looksAt ops o).contains t = true := by unfold looksAt; simpa using hl
       rw [this] at h2
       cases h2
     · exact .inl h2
     · exact .inr h2
def z8i (ops : Array Oper) (L : Nat → Prop) : Prop := ∀ (j : Nat) (o : Oper), ops[j]? = some o → L j → ∀ e ∈ o.after, Region.binds .any e = true → L e.on
theorem zd2 {acc : List Nat} {i : Nat} : ∀ (es : List Edge) (s : Nat), (es.foldl (fun s e => if Region.binds .any e then s ||| 2 ^ e.on ||| acc.getD e.on 0 else s) s).testBit i = true →
 s.testBit i = true ∨ ∃ e ∈ es, Region.binds .any e = true ∧ (e.on = i ∨ (acc.getD e.on 0).testBit i = true)
 | [], s, h => .inl h
 | e :: es, s, h => by
   rw [List.foldl_cons] at h
   rcases zd2 es _ h with h1 | ⟨e', h1, h2⟩
   · split at h1
     · rename_i hb
       rw [Nat.testBit_or, Nat.testBit_or, Bool.or_eq_true, Bool.or_eq_true, Nat.testBit_two_pow] at h1
       rcases h1 with (h1 | h1) | h1
       · exact .inl h1
       · exact .inr ⟨e, by simp, hb, .inl (of_decide_eq_true h1)⟩
       · exact .inr ⟨e, by simp, hb, .inr h1⟩
     · exact .inl h1
   · exact .inr ⟨e', by simp [h1], h2⟩
theorem zaw {L : Nat → Prop} (hL : z8i ops L) : ∀ (l pre : List Oper) (acc : List Nat), ops.toList = pre ++ l → acc.length = pre.length →
 (∀ (j i : Nat) (o : Oper), ops[j]? = some o → j < acc.length → (acc.getD j 0).testBit i = true → (∀ e ∈ o.after, Region.binds .any e = true → L e.on) → L i) →
 ∀ (j i : Nat) (o : Oper), ops[j]? = some o → ((befs l acc).getD j 0).testBit i = true → (∀ e ∈ o.after, Region.binds .any e = true → L e.on) → L i
 | [], pre, acc, hp, hl, h, j, i, o, ho, hb, hd => by
   have hj : j < acc.length := by
    have := (Array.getElem?_eq_some_iff.1 ho).1
    rw [hl]
    have e1 := congrArg List.length hp
    simp at e1
    omega
   exact h j i o ho hj hb hd
 | x :: l, pre, acc, hp, hl, h, j, i, o, ho, hb, hd => by
   rw [befs] at hb
   refine zaw hL l (pre ++ [x]) _ (by rw [hp]; simp) (by simp [hl]) (fun j i o ho hj hb hd => ?_) j i o ho hb hd
   simp only [List.length_append, List.length_cons, List.length_nil] at hj
   by_cases hj2 : j < acc.length
   · rw [List.getD_eq_getElem?_getD, List.getElem?_append_left hj2, ← List.getD_eq_getElem?_getD] at hb
     exact h j i o ho hj2 hb hd
   · have hje : j = acc.length := by omega
     subst hje
     rw [List.getD_eq_getElem?_getD, List.getElem?_append_right (Nat.le_refl _), Nat.sub_self] at hb
     have hx : o = x := by
      have e1 : ops.toList[pre.length]? = some x := by rw [hp]; simp
      rw [← hl] at e1
      have e2 : ops[acc.length]? = some x := by simpa using e1
      rw [ho] at e2
      exact Option.some.inj e2
     subst hx
     simp only [List.getElem?_cons_zero, Option.getD_some] at hb
     rcases zd2 _ _ hb with h1 | ⟨e, he, hbi, h1⟩
     · simp at h1
     · have hLe := hd e (by simpa using he) hbi
       rcases h1 with h1 | h1
       · exact h1 ▸ hLe
       · have hlt : e.on < acc.length := by
          apply Decidable.byContradiction
          intro hn
          rw [List.getD_eq_getElem?_getD, List.getElem?_eq_none (by omega)] at h1
          simp at h1
         have hlt2 : e.on < ops.size := by
          have e1 := congrArg List.length hp
          simp at e1
          omega
         exact h e.on i _ (Array.getElem?_eq_getElem hlt2) hlt h1 (fun e' he' hb' => hL e.on _ (Array.getElem?_eq_getElem hlt2) hLe e' he' hb')
theorem Bef.listed {L : Nat → Prop} (hL : z8i ops L) {i j : Nat} {o : Oper} (ho : ops[j]? = some o) (h : Bef ops i j) (hd : ∀ e ∈ o.after, Region.binds .any e = true → L e.on) : L i :=
 zaw hL ops.toList [] [] rfl rfl (fun j i o ho hj => absurd hj (by simp)) j i o ho h hd
end
end Go.Proofs.YtncecbgpkoihpaaGreatDoor.Aw
namespace Go.Proofs.YtncecbgpkoihpaaGreatDoor.Aw
open Go.RowKit
abbrev StT := List AV × List Row
def Wn (ops : Array Oper) (o : Oper) (E : Nat → AV) (b : Bool) : Prop :=
 match o.guard with
 | none => b = true
 | some (j, want) => ∃ t u, (ops[j]?).bind (·.dst) = some t ∧ E t = .sc u ∧ b = (match u with | .bool c => c == want | _ => false)
def zf6 (P : Program) (sp : Spec) (ops : Array Oper) (i : Nat) (s s' : StT) : Prop :=
 ∃ o, ops[i]? = some o ∧ ((Wn ops o (envE s.1) true ∧ ∃ v, opW P sp s.1 s.2 o (fun v' r' => v' = v ∧ r' = s'.2) ∧ s'.1 = putE s.1 o.dst v) ∨ (Wn ops o (envE s.1) false ∧ s' = (putE s.1 o.dst (.sc undef), s.2)))
section
variable {P : Program} {sp : Spec} {w0 w w' : World} {fp S0 : Nat → Prop} {I I' : Itp} {H H' : Heap} {n nx : Nat} {E E' : Nat → AV} {a : Act} {env : List AV} {rows : List Row} {ops : Array Oper}
theorem zd3 {o : Oper} {l : List Oper} {K : List AV → List Row → Prop} (h : opsW P sp ops (o :: l) env rows K) :
 ∃ env' rows', opsW P sp ops l env' rows' K ∧ ((Wn ops o (envE env) true ∧ ∃ v, opW P sp env rows o (fun v' r' => v' = v ∧ r' = rows') ∧ env' = putE env o.dst v) ∨ (Wn ops o (envE env) false ∧ env' = putE env o.dst (.sc undef) ∧ rows' = rows)) := by
 rw [opsW] at h
 split at h
 · rename_i hg
   obtain ⟨v, r, h1, h2⟩ := zkg h
   exact ⟨_, _, h1, .inl ⟨by unfold Wn; rw [hg], v, h2, rfl⟩⟩
 · rename_i j want hg
   split at h <;> try exact h.elim
   rename_i t ht
   split at h <;> try exact h.elim
   · rename_i b hb
     by_cases hbw : b = want
     · obtain ⟨v, r, h1, h2⟩ := zkg (h.1 hbw)
       refine ⟨_, _, h1, .inl ⟨?_, v, h2, rfl⟩⟩
       unfold Wn
       rw [hg]
       exact ⟨t, _, ht, hb, by simp [hbw]⟩
     · refine ⟨_, _, h.2 hbw, .inr ⟨?_, rfl, rfl⟩⟩
       unfold Wn
       rw [hg]
       exact ⟨t, _, ht, hb, by simp [hbw]⟩
   · rename_i u hnb hb
     refine ⟨_, _, h, .inr ⟨?_, rfl, rfl⟩⟩
     unfold Wn
     rw [hg]
     refine ⟨t, u, ht, hb, ?_⟩
     cases u with
     | bool c => exact absurd rfl (hnb c)
     | _ => rfl
theorem zbw {K : List AV → List Row → Prop} : ∀ (l r : List Oper) (k : Nat) (env : List AV) (rows : List Row), ops.toList.drop k = l ++ r → opsW P sp ops l env rows K →
 ∃ s : Nat → StT, s k = (env, rows) ∧ (∀ i, k ≤ i → i < k + l.length → zf6 P sp ops i (s i) (s (i + 1))) ∧ K (s (k + l.length)).1 (s (k + l.length)).2
 | [], r, k, env, rows, hl, h => ⟨fun _ => (env, rows), rfl, fun i h1 h2 => by simp at h2; omega, h⟩
 | o :: l, r, k, env, rows, hl, h => by
   have hk : k < ops.size := by
    have := congrArg List.length hl
    simp at this
    omega
   have hd := List.drop_eq_getElem_cons (l := ops.toList) (i := k) (by simpa using hk)
   rw [hl, List.cons_append] at hd
   simp only [List.cons.injEq] at hd
   obtain ⟨ho, hl'⟩ := hd
   have ho' : ops[k]? = some o := by rw [ho]; simp [hk]
   obtain ⟨env', rows', h1, h2⟩ := zd3 h
   obtain ⟨s, s1, s2, s3⟩ := zbw l r (k + 1) env' rows' hl'.symm h1
   refine ⟨fun i => if i = k then (env, rows) else s i, if_pos rfl, fun i h3 h4 => ?_, ?_⟩
   · simp only [List.length_cons] at h4
     by_cases hi : i = k
     · subst hi
       simp only [if_pos, if_neg (show ¬ i + 1 = i by omega)]
       rw [s1]
       refine ⟨o, ho', ?_⟩
       rcases h2 with ⟨a1, v, a2, a3⟩ | ⟨a1, a2, a3⟩
       · exact .inl ⟨a1, v, a2, a3⟩
       · exact .inr ⟨a1, by rw [a2, a3]⟩
     · simp only [if_neg hi, if_neg (show ¬ i + 1 = k by omega)]
       exact s2 i (by omega) (by omega)
   · have e : k + (o :: l).length = k + 1 + l.length := by simp only [List.length_cons]; omega
     rw [e]
     simp only [if_neg (show ¬ k + 1 + l.length = k by omega)]
     exact s3
def rck (P : Program) (sp : Spec) (ops : Array Oper) (env : List AV) (rows : List Row) : List Nat → Prop
 | [] => True
 | k :: ks => (match ops[k]? with
   | some o => (match o.dst with
     | some t => valW P sp (z03 rows) (evA (envE env)) o.op (fun v => v = envE env t)
     | none => False)
   | none => False) ∧ rck P sp ops env rows ks
theorem zr7 {ks : List Nat} (h : rck P sp ops env rows ks) {k : Nat} (hk : k ∈ ks) {o : Oper} (ho : ops[k]? = some o) : ∃ t, o.dst = some t ∧ valW P sp (z03 rows) (evA (envE env)) o.op (fun v => v = envE env t) := by
 induction ks with
 | nil => cases hk
 | cons k' ks ih =>
   rw [rck] at h
   rcases List.mem_cons.1 hk with rfl | hk
   · have h1 := h.1
     rw [ho] at h1
     simp only at h1
     split at h1 <;> try exact h1.elim
     rename_i t ht
     exact ⟨t, ht, h1⟩
   · exact ih h.2 hk
def opsS (P : Program) (sp : Spec) (ops : Array Oper) : Fls → Nat → List AV → List Row → (List AV → List Row → Prop) → Prop
 | [], b, env, rows, K => opsW P sp ops (ops.toList.drop b) env rows K
 | (m, ks) :: ms, b, env, rows, K => opsW P sp ops ((ops.toList.drop b).take (m + 1 - b)) env rows fun env' rows' => rck P sp ops env' rows' ks ∧ opsS P sp ops ms (m + 1) env' rows' K
theorem zd4 {K : List AV → List Row → Prop} : ∀ (ms : Fls) (b : Nat) (env : List AV) (rows : List Row), b ≤ ops.size → okMs ops.size b ms = true → opsS P sp ops ms b env rows K →
 ∃ s : Nat → StT, s b = (env, rows) ∧ (∀ i, b ≤ i → i < ops.size → zf6 P sp ops i (s i) (s (i + 1))) ∧ K (s ops.size).1 (s ops.size).2 ∧ ∀ m ks, (m, ks) ∈ ms → rck P sp ops (s (m + 1)).1 (s (m + 1)).2 ks
 | [], b, env, rows, hb, hm, h => by
   obtain ⟨s, s1, s2, s3⟩ := zbw (ops.toList.drop b) [] b env rows (by simp) h
   have e : b + (ops.toList.drop b).length = ops.size := by simp; omega
   rw [e] at s2 s3
   exact ⟨s, s1, s2, s3, fun m ks h => by cases h⟩
 | (m, ks) :: ms, b, env, rows, hb, hm, h => by
   rw [okMs, Bool.and_eq_true, Bool.and_eq_true, decide_eq_true_eq, decide_eq_true_eq] at hm
   obtain ⟨⟨m1, m2⟩, m3⟩ := hm
   rw [opsS] at h
   obtain ⟨s, s1, s2, s3, s4⟩ := zbw _ ((ops.toList.drop b).drop (m + 1 - b)) b env rows (List.take_append_drop _ _).symm h
   have e : b + ((ops.toList.drop b).take (m + 1 - b)).length = m + 1 := by simp; omega
   rw [e] at s2 s3 s4
   obtain ⟨s', t1, t2, t3, t4⟩ := zd4 ms (m + 1) _ _ (by omega) m3 s4
   refine ⟨fun i => if i < m + 1 then s i else s' i, by simp only [if_pos (show b < m + 1 by omega)]; exact s1, fun i h1 h2 => ?_, ?_, fun m' ks' hmem => ?_⟩
   · by_cases hi : i < m + 1
     · simp only [if_pos hi]
       by_cases hi2 : i + 1 < m + 1
       · simp only [if_pos hi2]; exact s2 i h1 hi
       · simp only [if_neg hi2]
         have : i + 1 = m + 1 := by omega
         have h := s2 i h1 hi
         rw [this] at h ⊢
         rw [t1]
         exact h
     · simp only [if_neg hi, if_neg (show ¬ i + 1 < m + 1 by omega)]
       exact t2 i (by omega) h2
   · simp only [if_neg (show ¬ ops.size < m + 1 by omega)]
     exact t3
   · have key : ∀ m', m ≤ m' → (if m' + 1 < m + 1 then s (m' + 1) else s' (m' + 1)) = s' (m' + 1) := fun m' h => if_neg (by omega)
     rcases List.mem_cons.1 hmem with he | hmem
     · cases he
       show rck P sp ops (if m + 1 < m + 1 then s (m + 1) else s' (m + 1)).1 (if m + 1 < m + 1 then s (m + 1) else s' (m + 1)).2 ks
       rw [key m (Nat.le_refl _), t1]
       exact s3
     · have : m + 1 ≤ m' := by
        have gen : ∀ (ms : Fls) (b : Nat), okMs ops.size b ms = true → (m', ks') ∈ ms → b ≤ m' := by
         intro ms
         induction ms with
         | nil => intro b _ h; cases h
         | cons x ms ih =>
           intro b hb h
           obtain ⟨x1, x2⟩ := x
           rw [okMs, Bool.and_eq_true, Bool.and_eq_true, decide_eq_true_eq, decide_eq_true_eq] at hb
           rcases List.mem_cons.1 h with h | h
           · cases h; exact hb.1.1
           · have := ih _ hb.2 h; omega
        exact gen ms _ m3 hmem
       show rck P sp ops (if m' + 1 < m + 1 then s (m' + 1) else s' (m' + 1)).1 (if m' + 1 < m + 1 then s (m' + 1) else s' (m' + 1)).2 ks'
       rw [key m' (by omega)]
       exact t4 m' ks' hmem
theorem z3z {o : Oper} {b : Bool} (hR : Rel w0 fp S0 I n E H a w) (h : Wn ops o E b) : Region.wanted o (yielded ops a.tmps) = b := by
 unfold Wn at h
 unfold Region.wanted
 split at h
 · rename_i hg; rw [hg, h]
 · rename_i j want hg
   obtain ⟨t, u, h1, h2, h3⟩ := h
   rw [hg]
   simp only
   unfold yielded
   rw [h1]
   simp only [Option.bind_some]
   cases hv : a.tmps[t]? with
   | none =>
     have hs := hR.size
     have : n ≤ t := by
      rw [← hs]
      simpa using hv
     rw [hR.out t this] at h2
     cases h2
   | some v =>
     have := hR.env t v hv
     rw [h2] at this
     rw [this.sc_inv, h3]
     cases u <;> rfl
theorem Wn.congr {o : Oper} {b : Bool} (h : Wn ops o E b) (he : ∀ t ∈ o.looksAt ops, E' t = E t) : Wn ops o E' b := by
 unfold Wn at *
 split at h
 · exact h
 · rename_i j want hg
   obtain ⟨t, u, h1, h2, h3⟩ := h
   refine ⟨t, u, h1, ?_, h3⟩
   rw [he t ?_]
   · exact h2
   · unfold Oper.looksAt
     simp [hg, h1]
theorem Rel.putF (h : Rel w0 fp S0 I n E H a w) {x : AV} {v : Value} (hm : Mem w0 fp S0 I' H' w') (hv : VR I' H' w' x v) (hk : ∀ y u, VR I H w y u → VR I' H' w' y u) (d : Option Tmp) (hE : ∀ t, E' t = if d = some t ∧ t < n then x else E t) :
 Rel w0 fp S0 I' n E' H' (a.put d v) w' := by
 cases d with
 | none =>
   have : E' = E := funext fun t => by rw [hE]; simp
   rw [this]
   exact ⟨hm, h.df, h.size, fun i u hu => hk _ _ (h.env i u hu), h.out⟩
 | some t =>
   refine ⟨hm, h.df, ?_, fun i u hu => ?_, fun i hi => ?_⟩
   · show (a.tmps.setIfInBounds t v).size = _
     rw [Array.size_setIfInBounds]
     exact h.size
   · have hu : (a.tmps.setIfInBounds t v)[i]? = some u := hu
     rw [Array.getElem?_setIfInBounds] at hu
     rw [hE]
     have hs := h.size
     by_cases hti : t = i
     · subst hti
       rw [if_pos rfl] at hu
       split at hu
       · rename_i hlt
         rw [if_pos ⟨rfl, hs ▸ hlt⟩]
         cases hu
         exact hv
       · cases hu
     · rw [if_neg hti] at hu
       rw [if_neg (fun h => hti (Option.some.inj h.1))]
       exact hk _ _ (h.env i u hu)
   · rw [hE, if_neg (fun h => by have := h.2; omega)]
     exact h.out i hi
theorem z90 (env : List AV) (d : Option Tmp) (x : AV) (t : Nat) : envE (putE env d x) t = if d = some t ∧ t < env.length then x else envE env t := by
 cases d with
 | none => simp [putE]
 | some s =>
   unfold putE envE
   simp only
   rw [List.getD_eq_getElem?_getD, List.getElem?_set, List.getD_eq_getElem?_getD]
   by_cases h : s = t
   · subst h
     by_cases h2 : s < env.length
     · simp [h2]
     · simp [h2]
   · simp [h]
theorem zf7 (hsp : SpecOk P sp w0 fp) {K : List AV → List Row → Prop} {Q : Exit → Act → World → Prop} (hQ : ∀ I' env' rows' a' w', K env' rows' → env'.length = n → RelS w0 fp S0 I' env' rows' a' w' → Q .normal a' w') : ∀ (l : List Oper) (env : List AV) (rows : List Row) (I : Itp) (a : Act) (w : World),
 opsW P sp ops l env rows K → env.length = n → RelS w0 fp S0 I env rows a w → wpList P ops Q l a w
 | [], env, rows, I, a, w, h, hn, hR => hQ I env rows a w h hn hR
 | o :: l, env, rows, I, a, w, h, hn, hR => by
   obtain ⟨env', rows', h1, h2⟩ := zd3 h
   refine wpList_step fun Kc hKc => ?_
   rcases h2 with ⟨a1, v, a2, rfl⟩ | ⟨a1, rfl, rfl⟩
   · rw [if_pos (z3z hR a1)]
     exact zq5 hsp a2 hR (fun I' u w' hR' => hKc _ _ (zf7 hsp hQ l _ _ I' _ w' h1 (by rw [z4i]; exact hn) hR'))
   · rw [if_neg (by rw [z3z hR a1]; simp)]
     exact hKc _ _ (zf7 hsp hQ l _ _ I _ w h1 (by rw [z4i]; exact hn) (hR.put hR.mem (.cl _ _ (.sc _)) (fun y u hu => hu) o.dst))
end
end Go.Proofs.YtncecbgpkoihpaaGreatDoor.Aw
namespace Go.Proofs.YtncecbgpkoihpaaGreatDoor.Aw
open Go.RowKit
def WrT (ops : Array Oper) (i : Nat) (t : Tmp) : Prop := ∃ o, ops[i]? = some o ∧ o.dst = some t
open Classical in
noncomputable def ES (ops : Array Oper) (s : Nat → StT) (p q : Nat) (L : Nat → Prop) (t : Nat) : AV :=
 if ∃ i, p ≤ i ∧ i < q ∧ L i ∧ WrT ops i t then envE (s q).1 t else envE (s p).1 t
open Classical in
noncomputable def HS (s : Nat → StT) (p q : Nat) (L : Nat → Prop) (K : Nat) : Row :=
 if K < (s p).2.length then z03 (s p).2 K else if ∃ i, p ≤ i ∧ i < q ∧ L i ∧ (s i).2.length ≤ K ∧ K < (s (i + 1)).2.length then z03 (s q).2 K else .dead
def QSeg (P : Program) (sp : Spec) (ops : Array Oper) (s : Nat → StT) (p q : Nat) : Prop :=
 ∀ i, p ≤ i → i < q → ∃ o, ops[i]? = some o ∧ ((Wn ops o (envE (s i).1) true ∧ ∃ v new, (qW P sp (s i).2.length (evA (envE (s i).1)) (z03 (s i).2) o fun v' new' => v' = v ∧ new' = new) ∧ (s (i + 1)).2 = (s i).2 ++ new ∧ (s (i + 1)).1 = putE (s i).1 o.dst v) ∨
   (Wn ops o (envE (s i).1) false ∧ s (i + 1) = (putE (s i).1 o.dst (.sc undef), (s i).2)))
section
variable {P : Program} {sp : Spec} {w0 w w' : World} {fp S0 : Nat → Prop} {I I' : Itp} {H H' : Heap} {n nx m p q : Nat} {E E' : Nat → AV} {a : Act} {env : List AV} {rows : List Row} {ops : Array Oper} {s : Nat → StT} {L : Nat → Prop}
theorem zil {i : Nat} {o : Oper} (ho : ops[i]? = some o) (hq : z1t o = true) {st st' : StT} (h : zf6 P sp ops i st st') :
 ((Wn ops o (envE st.1) true ∧ ∃ v new, (qW P sp st.2.length (evA (envE st.1)) (z03 st.2) o fun v' new' => v' = v ∧ new' = new) ∧ st'.2 = st.2 ++ new ∧ st'.1 = putE st.1 o.dst v) ∨ (Wn ops o (envE st.1) false ∧ st' = (putE st.1 o.dst (.sc undef), st.2))) := by
 obtain ⟨o', ho', h⟩ := h
 rw [ho] at ho'
 cases ho'
 rcases h with ⟨h1, v, h2, h3⟩ | h
 · refine .inl ⟨h1, ?_⟩
   have hqw : qW P sp st.2.length (evA (envE st.1)) (z03 st.2) o fun v' new => v' = v ∧ st.2 ++ new = st'.2 := by
    unfold opW at h2
    unfold z1t at hq
    split at h2
    · rename_i ho2; rw [ho2] at hq; cases hq
    · rename_i c ho2
      rw [ho2] at hq
      simp only at hq
      split at h2
      · rename_i hc; rw [hc] at hq; cases hq
      · exact h2
    · exact h2
   obtain ⟨x, new, ⟨rfl, h4⟩, h5⟩ := zjv hqw
   exact ⟨x, new, h5, h4.symm, h3⟩
 · exact .inr h
theorem zki (hs : QSeg P sp ops s p q) {t : Tmp} : ∀ (d i : Nat), p ≤ i → i + d ≤ q → (∀ k, i ≤ k → k < i + d → ¬ WrT ops k t) → envE (s (i + d)).1 t = envE (s i).1 t
 | 0, i, h1, h2, h3 => rfl
 | d + 1, i, h1, h2, h3 => by
   rw [← zki hs d i h1 (by omega) (fun k h4 h5 => h3 k h4 (by omega))]
   obtain ⟨o, ho, h⟩ := hs (i + d) (by omega) (by omega)
   have hne : ¬ o.dst = some t := fun e => h3 (i + d) (by omega) (by omega) ⟨o, ho, e⟩
   rw [show i + (d + 1) = i + d + 1 from rfl]
   rcases h with ⟨-, v, new, -, -, h⟩ | ⟨-, h⟩
   · rw [h, z90, if_neg (fun h => hne h.1)]
   · rw [h, z90, if_neg (fun h => hne h.1)]
theorem z2e (hs : QSeg P sp ops s p q) {t : Tmp} {i j : Nat} (h1 : p ≤ i) (h2 : i ≤ j) (h3 : j ≤ q) (h4 : ∀ k, i ≤ k → k < j → ¬ WrT ops k t) : envE (s j).1 t = envE (s i).1 t := by
 obtain ⟨d, rfl⟩ : ∃ d, j = i + d := ⟨j - i, by omega⟩
 exact zki hs d i h1 h3 h4
theorem zgv (hs : QSeg P sp ops s p q) : ∀ (d i : Nat), p ≤ i → i + d ≤ q → ∃ ext, (s (i + d)).2 = (s i).2 ++ ext
 | 0, i, h1, h2 => ⟨[], by simp⟩
 | d + 1, i, h1, h2 => by
   obtain ⟨ext, he⟩ := zgv hs d i h1 (by omega)
   obtain ⟨o, ho, h⟩ := hs (i + d) (by omega) (by omega)
   rw [show i + (d + 1) = i + d + 1 from rfl]
   rcases h with ⟨-, v, new, -, h, -⟩ | ⟨-, h⟩
   · exact ⟨ext ++ new, by rw [h, he, List.append_assoc]⟩
   · exact ⟨ext, by rw [h, he]⟩
theorem zd5 (hs : QSeg P sp ops s p q) {i j : Nat} (h1 : p ≤ i) (h2 : i ≤ j) (h3 : j ≤ q) : ∃ ext, (s j).2 = (s i).2 ++ ext := by
 obtain ⟨d, rfl⟩ : ∃ d, j = i + d := ⟨j - i, by omega⟩
 exact zgv hs d i h1 h3
theorem zo5 (hs : QSeg P sp ops s p q) {i j : Nat} (h1 : p ≤ i) (h2 : i ≤ j) (h3 : j ≤ q) : (s i).2.length ≤ (s j).2.length := by
 obtain ⟨ext, he⟩ := zd5 hs h1 h2 h3
 rw [he, List.length_append]
 omega
theorem zbx (hs : QSeg P sp ops s p q) {i j K : Nat} (h1 : p ≤ i) (h2 : i ≤ j) (h3 : j ≤ q) (hK : K < (s i).2.length) : z03 (s j).2 K = z03 (s i).2 K := by
 obtain ⟨ext, he⟩ := zd5 hs h1 h2 h3
 rw [he, z6x]
 unfold ins
 rw [if_neg (by omega)]
theorem zo6 (hs : QSeg P sp ops s p q) (hpq : p ≤ q) {K : Nat} (h1 : (s p).2.length ≤ K) (h2 : K < (s q).2.length) : ∃ i, p ≤ i ∧ i < q ∧ (s i).2.length ≤ K ∧ K < (s (i + 1)).2.length := by
 have key : ∀ d, p + d ≤ q → K < (s (p + d)).2.length → ∃ i, p ≤ i ∧ i < q ∧ (s i).2.length ≤ K ∧ K < (s (i + 1)).2.length := by
  intro d
  induction d with
  | zero => intro _ h; rw [Nat.add_zero] at h; omega
  | succ d ih =>
    intro hd h
    by_cases hlt : K < (s (p + d)).2.length
    · exact ih (by omega) hlt
    · exact ⟨p + d, by omega, by omega, by omega, h⟩
 exact key (q - p) (by omega) (by rw [show p + (q - p) = q from by omega]; exact h2)
theorem Bef.lt {ms : Fls} (hd : DrawOk ms ops) {i j : Nat} (hj : j < ops.size) (h : Bef ops i j) : i < j := by
 refine h.listed (L := (· < j)) (fun k o hk hkj e he hb => ?_) (Array.getElem?_eq_getElem hj) (fun e he hb => hd.edge j _ (Array.getElem?_eq_getElem hj) e he hb)
 have := hd.edge k o hk e he hb
 show e.on < j
 have hkj : k < j := hkj
 omega
theorem z9i {ms : Fls} (hd : DrawOk ms ops) (hs : QSeg P sp ops s p q) (hqn : q ≤ ops.size) (hL : z8i ops L) {i : Nat} {o : Oper} (ho : ops[i]? = some o) (hp : p ≤ i) (hq : i ≤ q) (hni : ¬ L i) (hdep : ∀ e ∈ o.after, Region.binds .any e = true → L e.on)
 {t : Tmp} (ht : t ∈ o.looksAt ops) : ES ops s p q L t = envE (s i).1 t := by
 have huniq : ∀ k k', WrT ops k t → WrT ops k' t → k = k' := fun k k' ⟨o1, h1, h2⟩ ⟨o2, h3, h4⟩ => by
  apply Decidable.byContradiction
  intro hne
  exact hd.uniq k k' o1 o2 t h1 h3 hne h4 h2
 unfold ES
 by_cases hw : ∃ k, p ≤ k ∧ k < q ∧ WrT ops k t
 · obtain ⟨k, hk1, hk2, hk⟩ := hw
   by_cases hki : k = i
   · subst hki
     rw [if_neg (fun ⟨k', h1, h2, h3, h4⟩ => hni (huniq k' k h4 hk ▸ h3))]
     exact (z2e hs (Nat.le_refl _) hp (by omega) (fun k' h1 h2 h3 => by have := huniq k' k h3 hk; omega)).symm
   · obtain ⟨ok, hok, hkd⟩ := hk
     rcases hd.look i k o ok t ho hok (fun e => hki e.symm) hkd ht with hb | hb
     · have hLk := hb.listed hL ho hdep
       have hlt := hb.lt hd (Array.getElem?_eq_some_iff.1 ho).1
       rw [if_pos ⟨k, hk1, hk2, hLk, ok, hok, hkd⟩]
       rw [z2e (j := q) hs (i := k + 1) (by omega) (by omega) (Nat.le_refl _) (fun k' h1 h2 h3 => by have := huniq k' k h3 ⟨ok, hok, hkd⟩; omega)]
       exact (z2e hs (i := k + 1) (by omega) (by omega) (by omega) (fun k' h1 h2 h3 => by have := huniq k' k h3 ⟨ok, hok, hkd⟩; omega)).symm
     · have hnk : ¬ L k := fun h => hni (hb.listed hL hok (fun e he hb => hL k ok hok h e he hb))
       have hlt := hb.lt hd (Array.getElem?_eq_some_iff.1 hok).1
       rw [if_neg (fun ⟨k', h1, h2, h3, h4⟩ => hnk (huniq k' k h4 ⟨ok, hok, hkd⟩ ▸ h3))]
       exact (z2e hs (Nat.le_refl _) hp (by omega) (fun k' h1 h2 h3 => by have := huniq k' k h3 ⟨ok, hok, hkd⟩; omega)).symm
 · rw [if_neg (fun ⟨k', h1, h2, h3, h4⟩ => hw ⟨k', h1, h2, h4⟩)]
   exact (z2e hs (Nat.le_refl _) hp (by omega) (fun k' h1 h2 h3 => hw ⟨k', h1, by omega, h3⟩)).symm
theorem z9j (hs : QSeg P sp ops s p q) {i : Nat} (hp : p ≤ i) (hq : i ≤ q) : z3b (z03 (s i).2) (HS s p q L) := by
 intro K h1 h2
 unfold HS at *
 by_cases hK : K < (s p).2.length
 · rw [if_pos hK]
   exact (zbx hs (Nat.le_refl _) hp hq hK).symm
 · rw [if_neg hK] at h2 ⊢
   split at h2
   · rename_i hex
     rw [if_pos hex]
     have : K < (s i).2.length := by
      apply Decidable.byContradiction
      intro hn
      exact h1 (z2j hn)
     exact zbx hs hp hq (Nat.le_refl _) this
   · exact absurd rfl h2
theorem zr8 (hs : QSeg P sp ops s p q) {i K : Nat} (hp : p ≤ i) (hq : i < q) (hni : ¬ L i) (h1 : (s i).2.length ≤ K) (h2 : K < (s (i + 1)).2.length) : HS s p q L K = .dead := by
 unfold HS
 have h3 := zo5 hs (Nat.le_refl _) hp (Nat.le_of_lt hq)
 rw [if_neg (by omega), if_neg]
 rintro ⟨k, hk1, hk2, hk3, hk4, hk5⟩
 rcases Nat.lt_trichotomy k i with h | h | h
 · have := zo5 hs (i := k + 1) (j := i) (by omega) (by omega) (by omega); omega
 · subst h; exact hni hk3
 · have := zo5 hs (i := i + 1) (j := k) (by omega) (by omega) (by omega); omega
theorem zkj {ms : Fls} (hd : DrawOk ms ops) (hs : QSeg P sp ops s p q) {i : Nat} {o : Oper} (ho : ops[i]? = some o) (hp : p ≤ i) (hq : i < q) (hni : ¬ L i) {x : AV} (hx : (s (i + 1)).1 = putE (s i).1 o.dst x) {L' : Nat → Prop} (hL' : ∀ k, L' k ↔ L k ∨ k = i) (hn : (s i).1.length = n) (t : Nat) :
 ES ops s p q L' t = if o.dst = some t ∧ t < n then x else ES ops s p q L t := by
 have huniq : ∀ k k', WrT ops k t → WrT ops k' t → k = k' := fun k k' ⟨o1, h1, h2⟩ ⟨o2, h3, h4⟩ => by
  apply Decidable.byContradiction
  intro hne
  exact hd.uniq k k' o1 o2 t h1 h3 hne h4 h2
 unfold ES
 by_cases hdt : o.dst = some t
 · have hw : WrT ops i t := ⟨o, ho, hdt⟩
   rw [if_pos ⟨i, hp, hq, (hL' i).2 (.inr rfl), hw⟩]
   rw [if_neg (show ¬ ∃ k, p ≤ k ∧ k < q ∧ L k ∧ WrT ops k t from fun ⟨k, h1, h2, h3, h4⟩ => hni (huniq k i h4 hw ▸ h3))]
   rw [z2e (j := q) hs (i := i + 1) (by omega) (by omega) (Nat.le_refl _) (fun k' h1 h2 h3 => by have := huniq k' i h3 hw; omega), hx, z90, hn]
   split
   · rfl
   · exact z2e hs (Nat.le_refl _) hp (by omega) (fun k' h1 h2 h3 => by have := huniq k' i h3 hw; omega)
 · refine Eq.trans ?_ (if_neg (fun h => hdt h.1)).symm
   have : (∃ k, p ≤ k ∧ k < q ∧ L' k ∧ WrT ops k t) ↔ ∃ k, p ≤ k ∧ k < q ∧ L k ∧ WrT ops k t := by
    constructor
    · rintro ⟨k, h1, h2, h3, h4⟩
      rcases (hL' k).1 h3 with h3 | rfl
      · exact ⟨k, h1, h2, h3, h4⟩
      · obtain ⟨o', ho', hd'⟩ := h4
        rw [ho] at ho'
        cases ho'
        exact absurd hd' hdt
    · rintro ⟨k, h1, h2, h3, h4⟩
      exact ⟨k, h1, h2, (hL' k).2 (.inl h3), h4⟩
   by_cases hex : ∃ k, p ≤ k ∧ k < q ∧ L k ∧ WrT ops k t
   · rw [if_pos hex, if_pos (this.2 hex)]
   · rw [if_neg hex, if_neg (fun h => hex (this.1 h))]
theorem zkk (hs : QSeg P sp ops s p q) {i : Nat} (hp : p ≤ i) (hq : i < q) {new : List Row} (hr : (s (i + 1)).2 = (s i).2 ++ new) {L' : Nat → Prop} (hL' : ∀ k, L' k ↔ L k ∨ k = i) :
 HS s p q L' = ins (HS s p q L) (s i).2.length new := by
 funext K
 have hc : (s (i + 1)).2.length = (s i).2.length + new.length := by rw [hr, List.length_append]
 have h3 := zo5 hs (Nat.le_refl _) hp (Nat.le_of_lt hq)
 by_cases hin : (s i).2.length ≤ K ∧ K < (s i).2.length + new.length
 · have h1 : ins (HS s p q L) (s i).2.length new K = z03 (s (i + 1)).2 K := by
    rw [hr, z6x]
    unfold ins
    rw [if_pos hin, if_pos hin]
   rw [h1]
   unfold HS
   rw [if_neg (by omega), if_pos ⟨i, hp, hq, (hL' i).2 (.inr rfl), hin.1, by omega⟩]
   exact zbx hs (i := i + 1) (by omega) (by omega) (Nat.le_refl _) (by omega)
 · have h1 : ins (HS s p q L) (s i).2.length new K = HS s p q L K := by unfold ins; rw [if_neg hin]
   rw [h1]
   unfold HS
   by_cases hK : K < (s p).2.length
   · rw [if_pos hK, if_pos hK]
   · rw [if_neg hK, if_neg hK]
     have : (∃ k, p ≤ k ∧ k < q ∧ L' k ∧ (s k).2.length ≤ K ∧ K < (s (k + 1)).2.length) ↔ ∃ k, p ≤ k ∧ k < q ∧ L k ∧ (s k).2.length ≤ K ∧ K < (s (k + 1)).2.length := by
      constructor
      · rintro ⟨k, h1, h2, h3, h4, h5⟩
        rcases (hL' k).1 h3 with h3 | rfl
        · exact ⟨k, h1, h2, h3, h4, h5⟩
        · exact absurd ⟨h4, by omega⟩ hin
      · rintro ⟨k, h1, h2, h3, h4, h5⟩
        exact ⟨k, h1, h2, (hL' k).2 (.inl h3), h4, h5⟩
     by_cases hex : ∃ k, p ≤ k ∧ k < q ∧ L k ∧ (s k).2.length ≤ K ∧ K < (s (k + 1)).2.length
     · rw [if_pos hex, if_pos (this.2 hex)]
     · rw [if_neg hex, if_neg (fun h => hex (this.1 h))]
theorem zr9 (hs : QSeg P sp ops s p q) (hpq : p ≤ q) (h : ∀ i, p ≤ i → i < q → L i) : ES ops s p q L = envE (s q).1 := by
 funext t
 unfold ES
 split
 · rfl
 · rename_i hn
   exact (z2e hs (Nat.le_refl _) hpq (Nat.le_refl _) (fun k h1 h2 h3 => hn ⟨k, h1, h2, h k h1 h2, h3⟩)).symm
theorem zra (hs : QSeg P sp ops s p q) (hpq : p ≤ q) (h : ∀ i, p ≤ i → i < q → L i) : HS s p q L = z03 (s q).2 := by
 funext K
 unfold HS
 split
 · rename_i hK; exact (zbx hs (Nat.le_refl _) hpq (Nat.le_refl _) hK).symm
 · rename_i hK
   split
   · rfl
   · rename_i hn
     by_cases hq : K < (s q).2.length
     · obtain ⟨i, h1, h2, h3, h4⟩ := zo6 hs hpq (by omega) hq
       exact absurd ⟨i, h1, h2, h i h1 h2, h3, h4⟩ hn
     · exact (z2j hq).symm
theorem zf8 (h : ∀ i, p ≤ i → i < q → ¬ L i) : ES ops s p q L = envE (s p).1 := by
 funext t
 unfold ES
 rw [if_neg (fun ⟨i, h1, h2, h3, _⟩ => h i h1 h2 h3)]
theorem zf9 (h : ∀ i, p ≤ i → i < q → ¬ L i) : HS s p q L = z03 (s p).2 := by
 funext K
 unfold HS
 split
 · rfl
 · rename_i hK
   rw [if_neg (fun ⟨i, h1, h2, h3, _⟩ => h i h1 h2 h3)]
   exact (z2j hK).symm
end
end Go.Proofs.YtncecbgpkoihpaaGreatDoor.Aw
namespace Go.Proofs.YtncecbgpkoihpaaGreatDoor.Aw
open Go.RowKit
abbrev LB (listed : Array Bool) : Nat → Prop := fun i => listed.getD i false = true
structure FlAt (P : Program) (sp : Spec) (ops : Array Oper) (s : Nat → StT) (q k : Nat) (r : Row) : Prop where
 lt : q < ops.size
 cut : CutB ops (q + 1)
 st : ∃ o t x y, ops[q]? = some o ∧ o.op = .store t x y ∧ o.dst = none ∧ o.guard = none ∧ z3h P (z03 (s q).2) t (evA (envE (s q).1) x) (evA (envE (s q).1) y) (fun k' r' => k' = k ∧ r' = r)
 lek : k < (s q).2.length
 nx : s (q + 1) = ((s q).1, setRow (s q).2 k r)
 fl : ∀ i, i < q → ¬ Bef ops i q → ∃ o, ops[i]? = some o ∧ z9h o = true ∧ o.guard = none ∧ (∀ t ∈ o.looksAt ops, ∀ j o', ops[j]? = some o' → o'.dst = some t → Bef ops j i) ∧ ∃ t, o.dst = some t ∧ valW P sp (z03 (s (q + 1)).2) (evA (envE (s (q + 1)).1)) o.op (fun v => v = envE (s (q + 1)).1 t)
def cntU (n : Nat) (listed : Array Bool) : Nat := ((List.range n).filter fun i => !listed.getD i true).length
section
variable {P : Program} {sp : Spec} {w0 w w' : World} {fp S0 : Nat → Prop} {I I' : Itp} {H H' : Heap} {n nx m p q : Nat} {E E' : Nat → AV} {a : Act} {env : List AV} {rows : List Row} {ops : Array Oper} {s : Nat → StT} {L : Nat → Prop} {Q : Exit → Act → World → Prop}
theorem z9k {p1 p2 : Nat → Bool} : ∀ (l : List Nat) (i : Nat), (∀ x ∈ l, p2 x = true → p1 x = true) → i ∈ l → p1 i = true → p2 i = false → (l.filter p2).length < (l.filter p1).length
 | [], i, h, hi, h1, h2 => by cases hi
 | x :: l, i, h, hi, h1, h2 => by
   have hle : (l.filter p2).length ≤ (l.filter p1).length := by
    have gen : ∀ l : List Nat, (∀ x ∈ l, p2 x = true → p1 x = true) → (l.filter p2).length ≤ (l.filter p1).length := by
     intro l
     induction l with
     | nil => intro _; exact Nat.le_refl _
     | cons y l ih =>
       intro hh
       have := ih (fun x hx => hh x (by simp [hx]))
       rw [List.filter_cons, List.filter_cons]
       by_cases h2 : p2 y = true
       · rw [if_pos h2, if_pos (hh y (by simp) h2)]; simp only [List.length_cons]; omega
       · rw [if_neg h2]
         split
         · simp only [List.length_cons]; omega
         · exact this
    exact gen l (fun x hx => h x (by simp [hx]))
   rw [List.filter_cons, List.filter_cons]
   rcases List.mem_cons.1 hi with rfl | hi
   · rw [if_neg (by simp [h2]), if_pos h1]
     simp only [List.length_cons]
     omega
   · have := z9k l i (fun x hx => h x (by simp [hx])) hi h1 h2
     by_cases h3 : p2 x = true
     · rw [if_pos h3, if_pos (h x (by simp) h3)]; simp only [List.length_cons]; omega
     · rw [if_neg h3]
       split
       · simp only [List.length_cons]; omega
       · exact this
theorem z3j {listed : Array Bool} {i : Nat} (hi : i < listed.size) : listed.getD i true = false ↔ ¬ LB listed i := by
 show _ ↔ ¬ listed.getD i false = true
 simp [hi]
theorem zd6 (hsp : SpecOk P sp w0 fp) {ms : Fls} (hd : DrawOk ms ops) (hs : QSeg P sp ops s p q) (hqn : q ≤ ops.size) (hlen : ∀ i, i ≤ ops.size → (s i).1.length = n) (hL : z8i ops L) {i : Nat} (hp : p ≤ i) (hq : i < q) (hni : ¬ L i) (hdep : ∀ o, ops[i]? = some o → ∀ e ∈ o.after, Region.binds .any e = true → L e.on)
 (hR : Rel w0 fp S0 I n (ES ops s p q L) (HS s p q L) a w) {L' : Nat → Prop} (hL' : ∀ k, L' k ↔ L k ∨ k = i) {K : Act → World → Prop} (hK : ∀ I' a' w', Rel w0 fp S0 I' n (ES ops s p q L') (HS s p q L') a' w' → K a' w') : wpOp P ops Q i K a w := by
 obtain ⟨o, ho, h⟩ := hs i hp hq
 have hlook : ∀ t ∈ o.looksAt ops, ES ops s p q L t = envE (s i).1 t := fun t ht => z9i hd hs hqn hL ho hp (Nat.le_of_lt hq) hni (hdep o ho) ht
 unfold wpOp
 rw [ho]
 simp only
 rcases h with ⟨hw, v, new, h1, h2, h3⟩ | ⟨hw, h1⟩
 · have hw' := z3z hR (hw.congr hlook)
   rw [if_pos hw']
   left
   have hops : ∀ x ∈ o.op.operands, evA (ES ops s p q L) x = evA (envE (s i).1) x := fun x hx => by
    cases x with
    | tmp t => exact hlook t (by unfold Oper.looksAt; exact List.mem_append_left _ (List.mem_filterMap.2 ⟨.tmp t, by simpa using hx, rfl⟩))
    | _ => rfl
   have hqw := zo4 (z9j (L := L) hs hp (Nat.le_of_lt hq)) hops (fun f x hx => z4j hR.mem f _ _ (z1s hR x)) h1
   have hc : (s (i + 1)).2.length = (s i).2.length + new.length := by rw [h2, List.length_append]
   refine q_ok hsp hqw S0 I n a w hR (fun k k1 k2 => zr8 hs hp hq hni k1 (by omega)) K Q (fun u w' I' hv hm hk => ?_)
   rw [← zkk hs hp hq h2 hL'] at hv hm hk
   exact hK I' _ w' (hR.putF hm hv hk o.dst (fun t => zkj hd hs ho hp hq hni h3 hL' (hlen i (by omega)) t))
 · have hw' := z3z hR (hw.congr hlook)
   rw [if_neg (by rw [hw']; simp)]
   have e1 : (s (i + 1)).1 = putE (s i).1 o.dst (.sc undef) := by rw [h1]
   have e2 : (s (i + 1)).2 = (s i).2 ++ [] := by rw [h1, List.append_nil]
   have hh : HS s p q L' = HS s p q L := by rw [zkk hs hp hq e2 hL', z9b]
   refine hK I _ w ?_
   rw [hh]
   exact hR.putF hR.mem (.cl _ _ (.sc _)) (fun y u hu => hu) o.dst (fun t => zkj hd hs ho hp hq hni e1 hL' (hlen i (by omega)) t)
theorem zo7 {L' : Nat → Prop} (h : ∀ k, p ≤ k → k < q → (L' k ↔ L k)) : ES ops s p q L' = ES ops s p q L := by
 have : ∀ t, (∃ k, p ≤ k ∧ k < q ∧ L' k ∧ WrT ops k t) ↔ ∃ k, p ≤ k ∧ k < q ∧ L k ∧ WrT ops k t := fun t => exists_congr fun k => ⟨fun ⟨c1, c2, c3, c4⟩ => ⟨c1, c2, (h k c1 c2).1 c3, c4⟩, fun ⟨c1, c2, c3, c4⟩ => ⟨c1, c2, (h k c1 c2).2 c3, c4⟩⟩
 funext t
 unfold ES
 by_cases hx : ∃ k, p ≤ k ∧ k < q ∧ L k ∧ WrT ops k t
 · rw [if_pos hx, if_pos ((this t).2 hx)]
 · rw [if_neg hx, if_neg (fun hy => hx ((this t).1 hy))]
theorem zo8 {L' : Nat → Prop} (h : ∀ k, p ≤ k → k < q → (L' k ↔ L k)) : HS s p q L' = HS s p q L := by
 have : ∀ K, (∃ k, p ≤ k ∧ k < q ∧ L' k ∧ (s k).2.length ≤ K ∧ K < (s (k + 1)).2.length) ↔ ∃ k, p ≤ k ∧ k < q ∧ L k ∧ (s k).2.length ≤ K ∧ K < (s (k + 1)).2.length := fun K => exists_congr fun k => ⟨fun ⟨c1, c2, c3, c4⟩ => ⟨c1, c2, (h k c1 c2).1 c3, c4⟩, fun ⟨c1, c2, c3, c4⟩ => ⟨c1, c2, (h k c1 c2).2 c3, c4⟩⟩
 funext K
 unfold HS
 by_cases hK : K < (s p).2.length
 · rw [if_pos hK, if_pos hK]
 · rw [if_neg hK, if_neg hK]
   by_cases hx : ∃ k, p ≤ k ∧ k < q ∧ L k ∧ (s k).2.length ≤ K ∧ K < (s (k + 1)).2.length
   · rw [if_pos hx, if_pos ((this K).2 hx)]
   · rw [if_neg hx, if_neg (fun hy => hx ((this K).1 hy))]
theorem zo9 {nx : Nat} {e : Operand → AV} {H : Heap} {o : Oper} {K : AV → List Row → Prop} (hp : z9h o = true) (h : qW P sp nx e H o K) : valW P sp H e o.op fun v => K v [] := by
 unfold z9h at hp
 unfold qW at h
 split at h
 all_goals (rename_i ho; try (rw [ho] at hp; cases hp))
 exact h
theorem zsk {nx : Nat} {e : Operand → AV} {H : Heap} {o : Oper} {K : AV → List Row → Prop} (hp : z9h o = true) (h : valW P sp H e o.op fun v => K v []) : qW P sp nx e H o K := by
 unfold z9h at hp
 unfold qW
 split
 all_goals (rename_i ho; try (rw [ho] at hp; cases hp))
 exact h
theorem zrb {ms : Fls} (hst : ∀ i, i < ops.size → zf6 P sp ops i (s i) (s (i + 1))) (hr : ∀ m ks, (m, ks) ∈ ms → rck P sp ops (s (m + 1)).1 (s (m + 1)).2 ks) {o : Oper} {ks : List Nat} (ho : ops[q]? = some o) (hf : Fl ms ops q o ks) (hc : CutB ops (q + 1)) : ∃ k r, FlAt P sp ops s q k r := by
 have hlt := (Array.getElem?_eq_some_iff.1 ho).1
 obtain ⟨o', ho', h⟩ := hst q hlt
 rw [ho] at ho'
 cases ho'
 obtain ⟨t, x, y, hop⟩ := hf.op
 rcases h with ⟨-, v, h2, h3⟩ | ⟨h1, -⟩
 · unfold opW at h2
   rw [hop] at h2
   simp only at h2
   obtain ⟨k, r, ⟨a1, a2, a3⟩, a4⟩ := z7s h2
   rw [hf.dst] at h3
   refine ⟨k, r, hlt, hc, ⟨o, t, x, y, ho, hop, hf.dst, hf.guard, a4⟩, a1, Prod.ext h3 a3.symm, fun i hi hb => ?_⟩
   obtain ⟨hk, ok, b1, b2, b3, b4⟩ := hf.fl i hi hb
   exact ⟨ok, b1, b2, b3, b4, zr7 (hr q ks hf.mem) hk b1⟩
 · unfold Wn at h1
   rw [hf.guard] at h1
   cases h1
theorem zoa {ms : Fls} (hd : DrawOk ms ops) (hs : QSeg P sp ops s p q) (hpq : p ≤ q) (hL : z8i ops L) {k : Nat} {r : Row} (hf : FlAt P sp ops s q k r) (hni : ¬ L q) (hdep : ∀ o, ops[q]? = some o → ∀ e ∈ o.after, Region.binds .any e = true → L e.on)
 (hR : Rel w0 fp S0 I n (ES ops s p q L) (HS s p q L) a w) {K : Act → World → Prop} (hK : ∀ I' a' w', Rel w0 fp S0 I' n (ES ops s p q L) (upd (HS s p q L) k r) a' w' → K a' w') : wpOp P ops Q q K a w := by
 obtain ⟨o, t, x, y, ho, hop, hds, hgu, hst⟩ := hf.st
 have hlook : ∀ t ∈ o.looksAt ops, ES ops s p q L t = envE (s q).1 t := fun t ht => z9i hd hs (Nat.le_of_lt hf.lt) hL ho hpq (Nat.le_refl _) hni (hdep o ho) ht
 have hops : ∀ z ∈ o.op.operands, evA (ES ops s p q L) z = evA (envE (s q).1) z := fun z hz => by
  cases z with
  | tmp t => exact hlook t (by unfold Oper.looksAt; exact List.mem_append_left _ (List.mem_filterMap.2 ⟨.tmp t, by simpa using hz, rfl⟩))
  | _ => rfl
 rw [hop] at hops
 simp only [Op.operands, Array.mem_def] at hops
 rw [← hops x (by simp), ← hops y (by simp)] at hst
 have hst2 := zd1 (z9j (L := L) hs hpq (Nat.le_refl _)) (z4j hR.mem 4 _ _ (z1s hR x)) (z4j hR.mem 4 _ _ (z1s hR y)) hst
 obtain ⟨w', h1, h2, h3⟩ := zcz hR.mem hst2 (z1s hR x) (z1s hR y)
 unfold wpOp
 rw [ho]
 simp only
 have hwant : Region.wanted o (yielded ops a.tmps) = true := by unfold Region.wanted; rw [hgu]
 rw [if_pos hwant]
 left
 have hR' : Rel w0 fp S0 I n (ES ops s p q L) (upd (HS s p q L) k r) a w' := ⟨h2, hR.df, hR.size, fun i u hu => h3 _ _ (hR.env i u hu), hR.out⟩
 unfold Oper.wp
 have hrun : (execOp a.eval o).run P w = .ok .skip w' := by
  simp only [execOp, hop, Sem.run_bind, h1, Result.andThen_ok]; rfl
 rw [hrun]
 have hput : a.put o.dst undef = a := by rw [hds]; rfl
 show K (a.put o.dst undef) w'
 rw [hput]
 exact hK I a w' hR'
theorem zob (hsp : SpecOk P sp w0 fp) {ms : Fls} (hd : DrawOk ms ops) (hs : QSeg P sp ops s p q) (hlen : ∀ i, i ≤ ops.size → (s i).1.length = n) (hL : z8i ops L) {k : Nat} {r : Row} (hf : FlAt P sp ops s q k r) (hq1 : L q) {i : Nat} (hp : p ≤ i) (hq : i < q) (hni : ¬ L i) (hdep : ∀ o, ops[i]? = some o → ∀ e ∈ o.after, Region.binds .any e = true → L e.on)
 (hR : Rel w0 fp S0 I n (ES ops s p q L) (upd (HS s p q L) k r) a w) {L' : Nat → Prop} (hL' : ∀ k, L' k ↔ L k ∨ k = i) {K : Act → World → Prop} (hK : ∀ I' a' w', Rel w0 fp S0 I' n (ES ops s p q L') (upd (HS s p q L') k r) a' w' → K a' w') : wpOp P ops Q i K a w := by
 have hqn := Nat.le_of_lt hf.lt
 have hnb : ¬ Bef ops i q := fun hb => hni (hb.listed hL (Array.getElem?_eq_getElem hf.lt) (fun e he hb => hL q _ (Array.getElem?_eq_getElem hf.lt) hq1 e he hb))
 obtain ⟨o, ho, hpu, hgu, hlk, t, hdt, hval⟩ := hf.fl i hq hnb
 have hin := (Array.getElem?_eq_some_iff.1 ho).1
 obtain ⟨o', ho', h⟩ := hs i hp hq
 rw [ho] at ho'
 cases ho'
 have e1 : (s (q + 1)).1 = (s q).1 := by rw [hf.nx]
 have e2 : (s (q + 1)).2 = setRow (s q).2 k r := by rw [hf.nx]
 have hbw : ∀ t ∈ o.looksAt ops, ∀ j, i ≤ j → ¬ WrT ops j t := fun t ht j hj ⟨oj, hoj, hdj⟩ => by
  have := (hlk t ht j oj hoj hdj).lt hd hin
  omega
 have hlook : ∀ t ∈ o.looksAt ops, ES ops s p q L t = envE (s (q + 1)).1 t := fun t ht => by
  rw [z9i hd hs hqn hL ho hp (Nat.le_of_lt hq) hni (hdep o ho) ht, e1]
  exact (z2e hs hp (Nat.le_of_lt hq) (Nat.le_refl _) (fun j h1 h2 => hbw t ht j h1)).symm
 have hops : ∀ z ∈ o.op.operands, evA (ES ops s p q L) z = evA (envE (s (q + 1)).1) z := fun z hz => by
  cases z with
  | tmp t => exact hlook t (by unfold Oper.looksAt; exact List.mem_append_left _ (List.mem_filterMap.2 ⟨.tmp t, by simpa using hz, rfl⟩))
  | _ => rfl
 have hcomp : z3b (z03 (s (q + 1)).2) (upd (HS s p q L) k r) := fun K a1 a2 => by
  rw [e2, z6y _ _ _ (Nat.le_of_lt hf.lek)] at a1 ⊢
  by_cases hK : K = k
  · subst hK; rw [z08, z08]
  · rw [z52 _ _ hK] at a1 a2 ⊢
    rw [z52 _ _ hK]
    exact z9j (L := L) hs (Nat.le_trans hp (Nat.le_of_lt hq)) (Nat.le_refl _) K a1 a2
 have hval2 := z7u hcomp hops (fun z hz => z4j hR.mem 4 _ _ (z1s hR z)) hval
 unfold wpOp
 rw [ho]
 simp only
 have hwant : Region.wanted o (yielded ops a.tmps) = true := by unfold Region.wanted; rw [hgu]
 rw [if_pos hwant]
 left
 rcases h with ⟨-, v, new, h1, h2, h3⟩ | ⟨hw, -⟩
 · have hnil := zo9 hpu h1
   obtain ⟨v', ⟨rfl, rfl⟩, -⟩ := z8w hnil
   have hq2 : qW P sp 0 (evA (ES ops s p q L)) (upd (HS s p q L) k r) o fun v new => v = envE (s (q + 1)).1 t ∧ new = [] := zsk hpu (by simpa using hval2)
   refine q_ok hsp hq2 S0 I n a w hR (fun k k1 k2 => by simp at k2) K Q (fun u w' I' hv hm hk => ?_)
   rw [z9b] at hv hm hk
   have hh : HS s p q L' = HS s p q L := by rw [zkk hs hp hq h2 hL', z9b]
   refine hK I' _ w' ?_
   rw [hh]
   refine hR.putF hm hv hk o.dst (fun t' => ?_)
   rw [zkj hd hs ho hp hq hni h3 hL' (hlen i (Nat.le_of_lt hin)) t']
   by_cases ht' : o.dst = some t' ∧ t' < n
   · rw [if_pos ht', if_pos ht']
     obtain ⟨g1, g2⟩ := ht'
     rw [hdt] at g1
     cases g1
     rw [e1, z2e (j := q) hs (i := i + 1) (by omega) (by omega) (Nat.le_refl _) (fun j j1 j2 ⟨oj, j3, j4⟩ => hd.uniq i j o oj t ho j3 (by omega) j4 hdt), h3, z90, if_pos ⟨hdt, by rw [hlen i (Nat.le_of_lt hin)]; exact g2⟩]
   · rw [if_neg ht', if_neg ht']
 · unfold Wn at hw
   rw [hgu] at hw
   cases hw
structure Inv (P : Program) (sp : Spec) (w0 : World) (fp S0 : Nat → Prop) (ops : Array Oper) (s : Nat → StT) (n : Nat) (listed : Array Bool) (a : Act) (w : World) : Prop where
 ex : ∃ p q I, p ≤ q ∧ q ≤ ops.size ∧ (∀ i, p ≤ i → i < q → ∃ o, ops[i]? = some o ∧ z1t o = true) ∧ (∀ i, i < p → LB listed i) ∧
  ((CutB ops q ∧ (∀ i, q ≤ i → ¬ LB listed i) ∧ Rel w0 fp S0 I n (ES ops s p q (LB listed)) (HS s p q (LB listed)) a w) ∨
   ∃ k r, FlAt P sp ops s q k r ∧ (∀ i, q + 1 ≤ i → ¬ LB listed i) ∧ ((¬ LB listed q ∧ Rel w0 fp S0 I n (ES ops s p q (LB listed)) (HS s p q (LB listed)) a w) ∨ (LB listed q ∧ Rel w0 fp S0 I n (ES ops s p q (LB listed)) (upd (HS s p q (LB listed)) k r) a w)))
 down : z8i ops (LB listed)
 size : listed.size = ops.size
theorem zsl {listed : Array Bool} {i : Nat} (hi : i < listed.size) (k : Nat) : LB (listed.setIfInBounds i true) k ↔ LB listed k ∨ k = i := by
 unfold LB
 by_cases h : k = i
 · subst h
   simp [hi]
 · rw [getD_set_ne false (fun e => h e.symm)]
   simp [h]
theorem zkl (hst : ∀ i, i < ops.size → zf6 P sp ops i (s i) (s (i + 1))) (hqn : q ≤ ops.size) (h : ∀ i, p ≤ i → i < q → ∃ o, ops[i]? = some o ∧ z1t o = true) : QSeg P sp ops s p q := fun i h1 h2 => by
 obtain ⟨o, ho, hq⟩ := h i h1 h2
 exact ⟨o, ho, zil ho hq (hst i (by omega))⟩
theorem zoc {ms : Fls} (hd : DrawOk ms ops) {b : Nat} (hb : b < ops.size) {o : Oper} (ho : ops[b]? = some o) (hq : z1t o = true) : ∃ c, b < c ∧ c ≤ ops.size ∧ (CutB ops c ∨ ∃ oc ks, ops[c]? = some oc ∧ Fl ms ops c oc ks ∧ CutB ops (c + 1)) ∧ ∀ i, b ≤ i → i < c → ∃ o, ops[i]? = some o ∧ z1t o = true := by
 have key : ∀ d c, c + d = ops.size → b < c → (∀ i, b ≤ i → i < c → ∃ o, ops[i]? = some o ∧ z1t o = true) → ∃ c, b < c ∧ c ≤ ops.size ∧ (CutB ops c ∨ ∃ oc ks, ops[c]? = some oc ∧ Fl ms ops c oc ks ∧ CutB ops (c + 1)) ∧ ∀ i, b ≤ i → i < c → ∃ o, ops[i]? = some o ∧ z1t o = true := by
  intro d
  induction d with
  | zero =>
    intro c hc hbc h
    exact ⟨c, hbc, by omega, .inl fun i j h1 h2 h3 => by omega, h⟩
  | succ d ih =>
    intro c hc hbc h
    have hcl : c < ops.size := by omega
    have hco := Array.getElem?_eq_getElem hcl
    by_cases hcq : z1t ops[c] = true
    · refine ih (c + 1) (by omega) (by omega) (fun i h1 h2 => ?_)
      by_cases hic : i = c
      · subst hic; exact ⟨_, hco, hcq⟩
      · exact h i h1 (by omega)
    · obtain ⟨h1, h2⟩ := hd.cut c _ hco (by simpa using hcq)
      exact ⟨c, hbc, by omega, h1.imp id (fun ⟨ks, h⟩ => ⟨_, ks, hco, h, h2⟩), h⟩
 refine key (ops.size - (b + 1)) (b + 1) (by omega) (by omega) (fun i h1 h2 => ?_)
 have : i = b := by omega
 subst this
 exact ⟨o, ho, hq⟩
theorem zgw {listed : Array Bool} (hst : ∀ i, i < ops.size → zf6 P sp ops i (s i) (s (i + 1))) {I : Itp} (h1 : p ≤ q) (h2 : q ≤ ops.size) (h3 : ∀ i, p ≤ i → i < q → ∃ o, ops[i]? = some o ∧ z1t o = true) (h4 : ∀ i, i < q → LB listed i)
 (h5 : (CutB ops q ∧ (∀ i, q ≤ i → ¬ LB listed i) ∧ Rel w0 fp S0 I n (ES ops s p q (LB listed)) (HS s p q (LB listed)) a w) ∨
  ∃ k r, FlAt P sp ops s q k r ∧ (∀ i, q + 1 ≤ i → ¬ LB listed i) ∧ LB listed q ∧ Rel w0 fp S0 I n (ES ops s p q (LB listed)) (upd (HS s p q (LB listed)) k r) a w) :
 ∃ e, e ≤ ops.size ∧ CutB ops e ∧ (∀ i, i < e → LB listed i) ∧ (∀ i, e ≤ i → ¬ LB listed i) ∧ Rel w0 fp S0 I n (envE (s e).1) (z03 (s e).2) a w := by
 have hqs := zkl hst h2 h3
 have hfull : ∀ i, p ≤ i → i < q → LB listed i := fun i _ h => h4 i h
 rw [zr9 hqs h1 hfull, zra hqs h1 hfull] at h5
 rcases h5 with ⟨a1, a2, a3⟩ | ⟨k, r, a1, a2, a3, a4⟩
 · exact ⟨q, h2, a1, h4, a2, a3⟩
 · refine ⟨q + 1, a1.lt, a1.cut, fun i hi => ?_, a2, ?_⟩
   · by_cases hiq : i = q
     · exact hiq ▸ a3
     · exact h4 i (by omega)
   · rw [a1.nx, z6y _ _ _ (Nat.le_of_lt a1.lek)]
     exact a4
theorem zrc (hsp : SpecOk P sp w0 fp) {ms : Fls} (hd : DrawOk ms ops) (hst : ∀ i, i < ops.size → zf6 P sp ops i (s i) (s (i + 1))) (hr : ∀ m ks, (m, ks) ∈ ms → rck P sp ops (s (m + 1)).1 (s (m + 1)).2 ks) (hlen : ∀ i, i ≤ ops.size → (s i).1.length = n)
 (hQ : ∀ I' a' w', Rel w0 fp S0 I' n (envE (s ops.size).1) (z03 (s ops.size).2) a' w' → Q .normal a' w') : ∀ (fuel : Nat) (listed : Array Bool) (a : Act) (w : World), Inv P sp w0 fp S0 ops s n listed a w → cntU ops.size listed ≤ fuel → wpAny P .any ops Q fuel listed a w := by
 have fin : ∀ (listed : Array Bool) (a : Act) (w : World), Inv P sp w0 fp S0 ops s n listed a w → (∀ i, i < ops.size → LB listed i) → Q .normal a w := fun listed a w hI hall => by
  obtain ⟨p, q, I, h1, h2, h3, h4, h5⟩ := hI.ex
  obtain ⟨e, e1, -, -, e4, e5⟩ := zgw hst h1 h2 h3 (fun i hi => hall i (by omega)) (h5.imp id fun ⟨k, r, a1, a2, a3⟩ => ⟨k, r, a1, a2, a3.elim (fun h => absurd (hall q a1.lt) h.1) id⟩)
  have : e = ops.size := by
   apply Decidable.byContradiction
   intro hne
   exact e4 e (Nat.le_refl _) (hall e (by omega))
  subst this
  exact hQ I a w e5
 have allOf : ∀ (listed : Array Bool) (a : Act) (w : World), Inv P sp w0 fp S0 ops s n listed a w → Region.ready .any ops listed = [] → ∀ i, i < ops.size → LB listed i := fun listed a w hI hr => by
  intro i
  induction i using Nat.strongRecOn with
  | _ i ih =>
    intro hi
    apply Decidable.byContradiction
    intro hn
    have : i ∈ Region.ready .any ops listed := by
     rw [mem_ready]
     exact ⟨(z3j (by rw [hI.size]; exact hi)).2 hn, ops[i], Array.getElem?_eq_getElem hi, fun e he hb => by
      have := hd.edge i _ (Array.getElem?_eq_getElem hi) e he hb
      exact ih e.on this (by omega)⟩
    rw [hr] at this
    cases this
 intro fuel
 induction fuel with
 | zero =>
   intro listed a w hI hc
   have hall : ∀ i, i < ops.size → LB listed i := fun i hi => by
    apply Decidable.byContradiction
    intro hn
    have h1 := (z3j (by rw [hI.size]; exact hi)).2 hn
    unfold cntU at hc
    have : i ∈ (List.range ops.size).filter fun i => !listed.getD i true := List.mem_filter.2 ⟨List.mem_range.2 hi, by rw [h1]; rfl⟩
    have := List.length_pos_iff_exists_mem.2 ⟨i, this⟩
    omega
   refine ⟨?_, fin listed a w hI hall⟩
   cases hr : Region.ready .any ops listed with
   | nil => rfl
   | cons j r =>
     have : j ∈ Region.ready .any ops listed := by rw [hr]; simp
     rw [mem_ready] at this
     obtain ⟨h1, o, ho, -⟩ := this
     have hj := (Array.getElem?_eq_some_iff.1 ho).1
     exact absurd (hall j hj) ((z3j (by rw [hI.size]; exact hj)).1 h1)
 | succ fuel ih =>
   intro listed a w hI hc
   refine ⟨fun hr => fin listed a w hI (allOf listed a w hI hr), fun i hi => ?_⟩
   rw [mem_ready] at hi
   obtain ⟨hi1, o, ho, hdep⟩ := hi
   have hin := (Array.getElem?_eq_some_iff.1 ho).1
   have hisz : i < listed.size := by rw [hI.size]; exact hin
   have hni := (z3j hisz).1 hi1
   have hdep' : ∀ o', ops[i]? = some o' → ∀ e ∈ o'.after, Region.binds .any e = true → LB listed e.on := fun o' ho' e he hb => by
    rw [ho] at ho'
    cases ho'
    exact hdep e he hb
   have hcnt : cntU ops.size (listed.setIfInBounds i true) ≤ fuel := by
    have : cntU ops.size (listed.setIfInBounds i true) < cntU ops.size listed := by
     unfold cntU
     refine z9k _ i (fun x hx h => ?_) (List.mem_range.2 hin) (by rw [hi1]; rfl) (by simp [hisz])
     by_cases hxi : x = i
     · subst hxi; simp [hisz] at h
     · rw [getD_set_ne true (fun e => hxi e.symm)] at h; exact h
    omega
   have hset := fun k => zsl hisz k
   have hdown' : z8i ops (LB (listed.setIfInBounds i true)) := fun j oj hoj hj e he hb => by
    rw [hset] at hj ⊢
    rcases hj with hj | rfl
    · exact .inl (hI.down j oj hoj hj e he hb)
    · exact .inl (hdep' oj hoj e he hb)
   have hsize' : (listed.setIfInBounds i true).size = ops.size := by rw [Array.size_setIfInBounds]; exact hI.size
   have hset' : ∀ k, k ≠ i → (LB (listed.setIfInBounds i true) k ↔ LB listed k) := fun k hk => by rw [hset]; exact ⟨fun h => h.elim id (fun e => absurd e hk), .inl⟩
   -- a step within a piece
   have inner : ∀ p q I, p ≤ q → q ≤ ops.size → (∀ i, p ≤ i → i < q → ∃ o, ops[i]? = some o ∧ z1t o = true) → (∀ i, i < p → LB listed i) →
    ((CutB ops q ∧ (∀ i, q ≤ i → ¬ LB listed i) ∧ i < q ∧ Rel w0 fp S0 I n (ES ops s p q (LB listed)) (HS s p q (LB listed)) a w) ∨
      ∃ k r, FlAt P sp ops s q k r ∧ (∀ i, q + 1 ≤ i → ¬ LB listed i) ∧ i ≤ q ∧ ((¬ LB listed q ∧ Rel w0 fp S0 I n (ES ops s p q (LB listed)) (HS s p q (LB listed)) a w) ∨ (LB listed q ∧ Rel w0 fp S0 I n (ES ops s p q (LB listed)) (upd (HS s p q (LB listed)) k r) a w))) →
    p ≤ i → wpOp P ops Q i (wpAny P .any ops Q fuel (listed.setIfInBounds i true)) a w := fun p q I h1 h2 h4 h5 h6 hp => by
    have hqs := zkl hst h2 h4
    have hbel : ∀ k, k < p → LB (listed.setIfInBounds i true) k := fun k hk => (hset k).2 (.inl (h5 k hk))
    rcases h6 with ⟨g1, g2, g3, g4⟩ | ⟨k, r, g1, g2, g3, g4⟩
    · refine zd6 hsp hd hqs h2 hlen hI.down hp g3 hni hdep' g4 hset (fun I' a' w' hR' => ih _ a' w' ⟨⟨p, q, I', h1, h2, h4, hbel, .inl ⟨g1, fun k hk hl => ?_, hR'⟩⟩, hdown', hsize'⟩ hcnt)
      exact g2 k hk ((hset' k (by omega)).1 hl)
    · have hab : ∀ k, q + 1 ≤ k → ¬ LB (listed.setIfInBounds i true) k := fun k hk hl => g2 k hk ((hset' k (by omega)).1 hl)
      rcases g4 with ⟨b1, b2⟩ | ⟨b1, b2⟩
      · by_cases hiq : i = q
        · subst hiq
          have hsame : ES ops s p i (LB (listed.setIfInBounds i true)) = ES ops s p i (LB listed) ∧ HS s p i (LB (listed.setIfInBounds i true)) = HS s p i (LB listed) := ⟨zo7 fun k c1 c2 => hset' k (by omega), zo8 fun k c1 c2 => hset' k (by omega)⟩
          refine zoa hd hqs h1 hI.down g1 hni hdep' b2 (fun I' a' w' hR' => ih _ a' w' ⟨⟨p, i, I', h1, h2, h4, hbel, .inr ⟨k, r, g1, hab, .inr ⟨(hset i).2 (.inr rfl), ?_⟩⟩⟩, hdown', hsize'⟩ hcnt)
          rw [hsame.1, hsame.2]
          exact hR'
        · exact zd6 hsp hd hqs h2 hlen hI.down hp (by omega) hni hdep' b2 hset (fun I' a' w' hR' => ih _ a' w' ⟨⟨p, q, I', h1, h2, h4, hbel, .inr ⟨k, r, g1, hab, .inl ⟨fun hl => b1 ((hset' q (by omega)).1 hl), hR'⟩⟩⟩, hdown', hsize'⟩ hcnt)
      · have hiq : i ≠ q := fun e => hni (e ▸ b1)
        exact zob hsp hd hqs hlen hI.down g1 b1 hp (by omega) hni hdep' b2 hset (fun I' a' w' hR' => ih _ a' w' ⟨⟨p, q, I', h1, h2, h4, hbel, .inr ⟨k, r, g1, hab, .inr ⟨(hset q).2 (.inl b1), hR'⟩⟩⟩, hdown', hsize'⟩ hcnt)
   obtain ⟨p, q, I, h1, h2, h4, h5, h6⟩ := hI.ex
   have hge : ∀ k, ¬ LB listed k → p ≤ k := fun k hk => by
    apply Decidable.byContradiction
    intro hn
    exact hk (h5 k (by omega))
   have part : (∀ e, (∃ k, p ≤ k ∧ k < e ∧ ¬ LB listed k) → CutB ops e → i < e) := fun e ⟨k, k1, k2, k3⟩ hc => by
    apply Decidable.byContradiction
    intro hn
    exact k3 ((hc k i k2 (by omega) hin).listed hI.down ho (hdep' o ho))
   by_cases hpart : (∃ k, p ≤ k ∧ k < q ∧ ¬ LB listed k) ∨ ∃ k r, FlAt P sp ops s q k r ∧ ¬ LB listed q
   · refine inner p q I h1 h2 h4 h5 ?_ (hge i hni)
     rcases h6 with ⟨g1, g2, g3⟩ | ⟨k, r, g1, g2, g3⟩
     · rcases hpart with hpart | ⟨k, r, hf, -⟩
       · exact .inl ⟨g1, g2, part q hpart g1, g3⟩
       · have hc := hf.cut
         by_cases hlt : i < q
         · exact .inl ⟨g1, g2, hlt, g3⟩
         · have : i = q := by
            have := part (q + 1) ⟨q, h1, by omega, g2 q (Nat.le_refl _)⟩ hc
            omega
           exact .inr ⟨k, r, hf, fun k hk => g2 k (by omega), by omega, .inl ⟨g2 q (Nat.le_refl _), g3⟩⟩
     · refine .inr ⟨k, r, g1, g2, ?_, g3⟩
       have : i < q + 1 := part (q + 1) (hpart.elim (fun ⟨k, k1, k2, k3⟩ => ⟨k, k1, by omega, k3⟩) (fun ⟨_, _, _, h⟩ => ⟨q, h1, by omega, h⟩)) g1.cut
       omega
   · have hbelow : ∀ k, k < q → LB listed k := fun k hk => by
      by_cases hkp : k < p
      · exact h5 k hkp
      · exact Decidable.byContradiction fun hn => hpart (.inl ⟨k, by omega, hk, hn⟩)
     obtain ⟨e, e1, e2, e3, e4, e5⟩ := zgw hst h1 h2 h4 hbelow (h6.imp id fun ⟨k, r, a1, a2, a3⟩ => ⟨k, r, a1, a2, a3.elim (fun h => absurd (.inr ⟨k, r, a1, h.1⟩) hpart) id⟩)
     have hie : e ≤ i := by
      apply Decidable.byContradiction
      intro hn
      exact hni (e3 i (by omega))
     have helt : e < ops.size := by omega
     have heo := Array.getElem?_eq_getElem helt
     have hnone : ∀ c, ∀ k, e ≤ k → k < c → ¬ LB listed k := fun c k a1 _ => e4 k a1
     have lt_of : ∀ c, e < c → CutB ops c → i < c := fun c hc hcut => by
      apply Decidable.byContradiction
      intro hn
      exact e4 e (Nat.le_refl _) ((hcut e i hc (by omega) hin).listed hI.down ho (hdep' o ho))
     by_cases hquiet : z1t ops[e] = true
     · obtain ⟨c, c1, c2, c3, c4⟩ := zoc hd helt heo hquiet
       refine inner e c I (by omega) c2 c4 e3 ?_ hie
       rw [zf8 (hnone c), zf9 (hnone c)]
       rcases c3 with c3 | ⟨oc, ks, d1, d2, d3⟩
       · exact .inl ⟨c3, fun k hk => e4 k (by omega), lt_of c c1 c3, e5⟩
       · obtain ⟨k, r, hf⟩ := zrb hst hr d1 d2 d3
         have := lt_of (c + 1) (by omega) d3
         exact .inr ⟨k, r, hf, fun k hk => e4 k (by omega), by omega, .inl ⟨e4 c (by omega), e5⟩⟩
     · have hcut := (hd.cut e _ heo (by simpa using hquiet)).2
       have hieq : i = e := by
        have := lt_of (e + 1) (by omega) hcut
        omega
       subst hieq
       have hnext : ∀ k, i + 1 ≤ k → k < i + 1 → ¬ LB (listed.setIfInBounds i true) k := fun k a1 a2 => by omega
       have done : ∀ I' a' w', Rel w0 fp S0 I' n (envE (s (i + 1)).1) (z03 (s (i + 1)).2) a' w' → wpAny P .any ops Q fuel (listed.setIfInBounds i true) a' w' := fun I' a' w' hR' => by
        refine ih _ a' w' ⟨⟨i + 1, i + 1, I', Nat.le_refl _, by omega, fun k a1 a2 => by omega, fun k hk => ?_, .inl ⟨hcut, fun k hk hl => e4 k (by omega) ((hset' k (by omega)).1 hl), ?_⟩⟩, hdown', hsize'⟩ hcnt
        · rw [hset]
          by_cases hki : k = i
          · exact .inr hki
          · exact .inl (e3 k (by omega))
        · rw [zf8 hnext, zf9 hnext]
          exact hR'
       obtain ⟨o', ho', hstep⟩ := hst i hin
       have hli := hlen i (Nat.le_of_lt hin)
       have h7' : RelS w0 fp S0 I (s i).1 (s i).2 a w := by unfold RelS; rw [hli]; exact e5
       unfold wpOp
       rw [ho']
       simp only
       rcases hstep with ⟨a1, v, a2, a3⟩ | ⟨a1, a2⟩
       · rw [if_pos (z3z e5 a1)]
         left
         refine zq5 hsp a2 h7' (fun I' u w' hR' => done I' _ w' ?_)
         unfold RelS at hR'
         rw [z4i, hli, ← a3] at hR'
         exact hR'
       · rw [if_neg (by rw [z3z e5 a1]; simp)]
         have hR' := h7'.put h7'.mem (.cl _ _ (.sc undef)) (fun y u hu => hu) o'.dst
         refine done I _ w ?_
         rw [a2]
         unfold RelS at hR'
         rw [z4i, hli] at hR'
         exact hR'
end
end Go.Proofs.YtncecbgpkoihpaaGreatDoor.Aw
namespace Go.Proofs.YtncecbgpkoihpaaGreatDoor.Aw
open Go.RowKit
abbrev QT := Exit → List AV → List Row → Prop
def okA (H H' : Heap) : Nat → AV → Prop
 | _, .sc _ | _, .ro _ | _, .rp _ | _, .dead => True
 | _, .ptr K _ => (match H K, H' K with | .var _ _, .var _ _ => True | _, _ => False)
 | _, .sl K _ | _, .lp K _ _ _ => H' K = H K
 | f + 1, .agg l | f + 1, .tup l | f + 1, .fn _ l => ∀ x ∈ l, okA H H' f x
 | _, _ => False
def zal (H H' : Heap) (x y : AV) : Prop := y = .dead ∨ (y = x ∧ okA H H' 3 x)
def z8u (H H' : Heap) : List AV → List AV → Prop
 | [], [] => True
 | x :: l, y :: m => zal H H' x y ∧ z8u H H' l m
 | _, _ => False
def zam (H H' : Heap) : List Row → List Row → Prop
 | _, [] => True
 | r :: l, r' :: m => (match r' with
   | .dead => True
   | .var cs' e' => (match r with
     | .var cs e => e' = e ∧ z8u H H' cs cs'
     | _ => False)
   | r' => r' = r) ∧ zam H H' l m
 | [], _ => False
def Weak (env : List AV) (rows : List Row) (env' : List AV) (rows' : List Row) : Prop := z8u (z03 rows) (z03 rows') env env' ∧ zam (z03 rows) (z03 rows') rows rows'
def flOf : List (Nat × Fls) → Nat → Fls
 | [], _ => []
 | (i, ms) :: l, id => if i = id then ms else flOf l id
def aw (P : Program) (sp : Spec) (fl : List (Nat × Fls)) : Code → QT → List AV → List Row → Prop
 | .skip, Q, env, rows => Q .normal env rows
 | .region id ops draw, Q, env, rows => (draw = true → zav (flOf fl id) ops = true) ∧ opsS P sp ops (if draw = true then flOf fl id else []) 0 env rows (Q .normal)
 | .seq x y, Q, env, rows => aw P sp fl x (fun e env rows => match e with
   | .normal => aw P sp fl y Q env rows
   | e => Q e env rows) env rows
 | .cond c x y, Q, env, rows => match evA (envE env) c with
   | .sc (.bool b) => (b = true → aw P sp fl x Q env rows) ∧ (b = false → aw P sp fl y Q env rows)
   | _ => False
 | .block id c, Q, env, rows => aw P sp fl c (fun e env rows => match e with
   | .exit id' => if id' = id then Q .normal env rows else Q (.exit id') env rows
   | e => Q e env rows) env rows
 | .loop c, Q, env, rows => ∃ (J : Nat → List AV → List Row → Prop) (k : Nat) (env0 : List AV) (rows0 : List Row), Weak env rows env0 rows0 ∧ J k env0 rows0 ∧ ∀ k env rows, J k env rows → aw P sp fl c (fun e env' rows' => match e with
   | .normal => ∃ k2 env2 rows2, Weak env' rows' env2 rows2 ∧ J k2 env2 rows2 ∧ k2 < k
   | e => Q e env' rows') env rows
 | .exit id, Q, env, rows => Q (.exit id) env rows
 | .label _, Q, env, rows => Q .normal env rows
 | .ret, Q, env, rows => Q .ret env rows
 | _, _, _, _ => False
section
variable {P : Program} {sp : Spec} {w0 w w' : World} {fp S0 : Nat → Prop} {I I' : Itp} {H H' : Heap} {n nx m p q : Nat} {E E' : Nat → AV} {a : Act} {env env' : List AV} {rows rows' : List Row} {ops : Array Oper}
theorem zgx : ∀ (f : Nat) (x : AV) (v : Value), okA H H' f x → VR I H w x v → VR I H' w x v
 | f, .sc u, v, h, hv => .cl _ _ (by rw [hv.sc_inv]; exact .sc _)
 | f, .ro u, v, h, hv => .cl _ _ hv.ro_inv
 | f, .rp u, v, h, hv => .cl _ _ hv.rp_inv
 | f, .dead, v, h, hv => .dead v
 | f, .ptr K off, v, h, hv => by
   obtain ⟨rfl, cs, e, hK⟩ := hv.ptr_inv
   have h : (match H K, H' K with | .var _ _, .var _ _ => True | _, _ => False) := by cases f <;> exact h
   rw [hK] at h
   cases hK' : H' K with
   | var cs' e' => exact .ptr K off cs' e' hK'
   | _ => rw [hK'] at h; exact h.elim
 | f, .sl K k, v, h, hv => by
   have h : H' K = H K := by cases f <;> exact h
   obtain ⟨m, q1, q2, q3⟩ := hv.sl_inv
   exact .sl K k m v (by rw [h]; exact q1) q2 q3
 | f, .lp K k i j, v, h, hv => by
   have h : H' K = H K := by cases f <;> exact h
   obtain ⟨m, q1, q2, q3⟩ := hv.lp_inv
   exact .lp K k i j m v (by rw [h]; exact q1) q2 (by rw [h]; exact q3)
 | 0, .agg l, v, h, hv => h.elim
 | 0, .tup l, v, h, hv => h.elim
 | 0, .fn g l, v, h, hv => h.elim
 | f + 1, .agg l, v, h, hv => by
   obtain ⟨vs, rfl, g1, g2, g3⟩ := hv.agg_inv
   exact .agg l vs g1 g2 (fun i x v h1 h2 => zgx f x v (h x (List.mem_of_getElem? h1)) (g3 i x v h1 h2))
 | f + 1, .tup l, v, h, hv => by
   obtain ⟨vs, rfl, g1, g3⟩ := hv.tup_inv
   exact .tup l vs g1 (fun i x v h1 h2 => zgx f x v (h x (List.mem_of_getElem? h1)) (g3 i x v h1 h2))
 | f + 1, .fn g l, v, h, hv => by
   obtain ⟨vs, rfl, g1, g3⟩ := hv.fn_inv
   exact .fn g l vs g1 (fun i x v h1 h2 => zgx f x v (h x (List.mem_of_getElem? h1)) (g3 i x v h1 h2))
theorem z6z : ∀ {l l' : List AV}, z8u H H' l l' → l'.length = l.length ∧ ∀ i : Nat, zal H H' (l.getD i .dead) (l'.getD i .dead)
 | [], [], _ => ⟨rfl, fun i => .inl rfl⟩
 | [], _ :: _, h => h.elim
 | _ :: _, [], h => h.elim
 | x :: l, y :: m, h => by
   obtain ⟨h1, h2⟩ := z6z h.2
   refine ⟨by simp [h1], fun i => ?_⟩
   cases i with
   | zero => exact h.1
   | succ i => exact h2 i
theorem zd7 : ∀ {l l' : List Row}, zam H H' l l' → ∀ K : Nat, (match l'.getD K .dead with
 | .dead => True
 | .var cs' e' => (match l.getD K .dead with
   | .var cs e => e' = e ∧ z8u H H' cs cs'
   | _ => False)
 | r' => r' = l.getD K .dead)
 | _, [], _, K => trivial
 | [], _ :: _, h, K => h.elim
 | r :: l, r' :: m, h, K => by
   cases K with
   | zero => exact h.1
   | succ K => exact zd7 h.2 K
theorem zgy {x y : AV} {v : Value} (h : zal H H' x y) (hv : VR I H w x v) : VR I H' w y v := by
 rcases h with rfl | ⟨rfl, h⟩
 · exact .dead v
 · exact zgx 3 _ v h hv
theorem Weak.ok (hw : Weak env rows env' rows') (hR : RelS w0 fp S0 I env rows a w) : RelS w0 fp S0 I env' rows' a w := by
 obtain ⟨h1, h2⟩ := hw
 obtain ⟨h3, h4⟩ := z6z h1
 have h5 := zd7 h2
 have hown : ∀ K k, Owns I (z03 rows') K k → Owns I (z03 rows) K k := fun K k hk => by
  have h6 := h5 K
  unfold Owns at hk ⊢
  unfold z03 at hk ⊢
  split at hk
  · rename_i cs e he
    rw [he] at h6
    simp only at h6
    split at h6 <;> try exact h6.elim
    rename_i he2
    rw [he2]
    exact hk
  · rename_i sz l e he
    rw [he] at h6
    simp only at h6
    rw [← h6]
    exact hk
  · exact hk.elim
 refine ⟨⟨hR.mem.fr, fun K => ?_, fun K k hk => hR.mem.own K k (hown K k hk), fun K K' k a1 a2 => hR.mem.sep K K' k (hown K k a1) (hown K' k a2), hR.mem.slt, hR.mem.s0, hR.mem.snew⟩, hR.df, by rw [h3]; exact hR.size, fun i v hv => ?_, fun i hi => ?_⟩
 · have h6 := h5 K
   have hr := hR.mem.rows K
   unfold z03 at hr ⊢
   cases he : rows'.getD K .dead with
   | dead => trivial
   | var cs' e' =>
     rw [he] at h6
     simp only at h6
     split at h6 <;> try exact h6.elim
     rename_i cs e he2
     rw [he2] at hr
     obtain ⟨rfl, hc⟩ := h6
     obtain ⟨vs, g1, g2, g3, g4⟩ := hr
     obtain ⟨c1, c2⟩ := z6z hc
     refine ⟨vs, g1, by rw [c1]; exact g2, g3, fun i x v a1 a2 => ?_⟩
     have := c2 i
     have hlt : i < cs.length := by rw [← c1]; exact (List.getElem?_eq_some_iff.1 a1).1
     rw [List.getD_eq_getElem?_getD, List.getD_eq_getElem?_getD, a1, List.getElem?_eq_getElem hlt] at this
     exact zgy this (g4 i _ v (List.getElem?_eq_getElem hlt) a2)
   | lst sz l e =>
     rw [he] at h6
     simp only at h6
     rw [← h6] at hr
     exact hr
   | fro l =>
     rw [he] at h6
     simp only at h6
     rw [← h6] at hr
     exact hr
 · exact zgy (h4 i) (hR.env i v hv)
 · unfold envE
   rw [List.getD_eq_getElem?_getD, List.getElem?_eq_none hi]
   rfl
def Ends (w0 : World) (fp S0 : Nat → Prop) (n : Nat) (Q : QT) (e : Exit) (a : Act) (w : World) : Prop := ∃ I env rows, Q e env rows ∧ env.length = n ∧ RelS w0 fp S0 I env rows a w
theorem zkm (hsp : SpecOk P sp w0 fp) (hmix : P.follows .mixedOrders = true) {id : Nat} {draw : Bool} {Q : QT} {ms : Fls} (hd : draw = true → zav ms ops = true) (h : opsS P sp ops (if draw = true then ms else []) 0 env rows (Q .normal)) (hn : env.length = n) (hR : RelS w0 fp S0 I env rows a w) :
 (Code.region id ops draw).wp P (Ends w0 fp S0 n Q) a w := by
 cases draw with
 | false =>
   have h : opsW P sp ops ops.toList env rows (Q .normal) := h
   refine wp_region_list (zf7 (n := n) hsp (fun I' env' rows' a' w' hK hl hR' => ⟨I', env', rows', hK, hl, hR'⟩) ops.toList env rows I a w h hn hR)
 | true =>
   have hD := zkh (hd rfl)
   obtain ⟨s, s1, s2, s3, s4⟩ := zd4 ms 0 env rows (Nat.zero_le _) hD.okms h
   have hlen : ∀ i, i ≤ ops.size → (s i).1.length = n := by
    intro i
    induction i with
    | zero => intro _; rw [s1]; exact hn
    | succ i ih =>
      intro hi
      obtain ⟨o, ho, h1⟩ := s2 i (Nat.zero_le _) (by omega)
      rcases h1 with ⟨-, v, -, h1⟩ | ⟨-, h1⟩
      · rw [h1, z4i]; exact ih (by omega)
      · rw [h1, z4i]; exact ih (by omega)
   refine wp_region_any hmix ?_
   have hemp : ∀ i, ¬ LB (Array.replicate ops.size false) i := fun i h => by
    unfold LB at h
    by_cases hi : i < ops.size <;> simp [hi] at h
   have hR' : Rel w0 fp S0 I n (envE (s 0).1) (z03 (s 0).2) a { w with drawn := w.drawn + 1 } := by
    have hm := hR.mem.quiet (w' := w.drew) ((Fr.refl _ w).drew)
    rw [s1]
    refine ⟨hm.1, hR.df, by rw [← hn]; exact hR.size, fun i v hv => hm.2 (hR.env i v hv), fun i hi => hR.out i (by rw [hn]; exact hi)⟩
   refine zrc (s := s) (n := n) (w0 := w0) (fp := fp) (S0 := S0) hsp hD (fun i hi => s2 i (Nat.zero_le _) hi) s4 hlen (fun I' a' w' hR2 => ⟨I', _, _, s3, hlen _ (Nat.le_refl _), ?_⟩) ops.size _ a _ ⟨⟨0, 0, I, Nat.le_refl _, Nat.zero_le _, fun i h1 h2 => by omega, fun i h => by omega, .inl ⟨fun i j h => by omega, fun i _ => hemp i, ?_⟩⟩, fun j o ho h => absurd h (hemp j), by simp⟩ ?_
   · rw [zf8 (fun i _ _ => hemp i), zf9 (fun i _ _ => hemp i)]
     exact hR'
   · unfold cntU
     exact Nat.le_trans (List.length_filter_le ..) (by simp)
   · unfold RelS
     rw [hlen _ (Nat.le_refl _)]
     exact hR2
theorem ztf {fl : List (Nat × Fls)} (hsp : SpecOk P sp w0 fp) (hmix : P.follows .mixedOrders = true) : ∀ (c : Code) (Q : QT) (env : List AV) (rows : List Row) (I : Itp) (a : Act) (w : World), aw P sp fl c Q env rows → env.length = n → RelS w0 fp S0 I env rows a w → c.wp P (Ends w0 fp S0 n Q) a w := by
 intro c
 induction c with
 | skip => intro Q env rows I a w h hn hR; exact wp_skip ⟨I, env, rows, h, hn, hR⟩
 | region id ops draw => intro Q env rows I a w h hn hR; exact zkm hsp hmix h.1 h.2 hn hR
 | seq x y ihx ihy =>
   intro Q env rows I a w h hn hR
   refine wp_seq (wp_mono (ihx _ env rows I a w h hn hR) fun e a' w' hh => ?_)
   obtain ⟨I', env', rows', h1, h2, h3⟩ := hh
   cases e with
   | normal => exact ihy Q env' rows' I' a' w' h1 h2 h3
   | _ => exact ⟨I', env', rows', h1, h2, h3⟩
 | cond c x y ihx ihy =>
   intro Q env rows I a w h hn hR
   unfold aw at h
   split at h <;> try exact h.elim
   rename_i b hb
   have hc : a.eval c = .bool b := by
    have := z1s hR c
    rw [hb] at this
    exact this.sc_inv
   cases b with
   | true => exact wp_cond_true hc (ihx Q env rows I a w (h.1 rfl) hn hR)
   | false => exact wp_cond_false hc (ihy Q env rows I a w (h.2 rfl) hn hR)
 | block id c ih =>
   intro Q env rows I a w h hn hR
   refine wp_block (wp_mono (ih _ env rows I a w h hn hR) fun e a' w' hh => ?_)
   obtain ⟨I', env', rows', h1, h2, h3⟩ := hh
   cases e with
   | exit id' =>
     simp only at h1
     unfold Exit.inBlock
     simp only
     split at h1
     · rename_i he; rw [if_pos he]; exact ⟨I', env', rows', h1, h2, h3⟩
     · rename_i he; rw [if_neg he]; exact ⟨I', env', rows', h1, h2, h3⟩
   | _ => exact ⟨I', env', rows', h1, h2, h3⟩
 | loop c ih =>
   intro Q env rows I a w h hn hR
   obtain ⟨J, k0, env0, rows0, hw0, h0, hround⟩ := h
   have hl0 : ∀ {env env' : List AV} {rows rows' : List Row}, Weak env rows env' rows' → env'.length = env.length := fun hw => (z6z hw.1).1
   refine wp_loop_ghost (fun k a' w' => ∃ I env rows, J k env rows ∧ env.length = n ∧ RelS w0 fp S0 I env rows a' w') k0 ⟨I, env0, rows0, h0, by rw [hl0 hw0]; exact hn, hw0.ok hR⟩ (fun k a1 w1 hh => ?_)
   obtain ⟨I1, env1, rows1, h1, h2, h3⟩ := hh
   refine wp_mono (ih _ env1 rows1 I1 a1 w1 (hround k env1 rows1 h1) h2 h3) fun e a' w' hh => ?_
   obtain ⟨I', env', rows', h4, h5, h6⟩ := hh
   cases e with
   | normal =>
     obtain ⟨k2, env2, rows2, q1, q2, q3⟩ := h4
     exact ⟨k2, q3, I', env2, rows2, q2, by rw [hl0 q1]; exact h5, q1.ok h6⟩
   | _ => exact ⟨I', env', rows', h4, h5, h6⟩
 | exit id => intro Q env rows I a w h hn hR; exact wp_exit ⟨I, env, rows, h, hn, hR⟩
 | label l => intro Q env rows I a w h hn hR; exact wp_label ⟨I, env, rows, h, hn, hR⟩
 | ret => intro Q env rows I a w h hn hR; exact wp_ret ⟨I, env, rows, h, hn, hR⟩
 | _ => intro Q env rows I a w h hn hR; exact h.elim
end
end Go.Proofs.YtncecbgpkoihpaaGreatDoor.Aw
namespace Go.Proofs.YtncecbgpkoihpaaGreatDoor.Aw
open Go.RowKit
def z2u (P : Program) (env : List AV) (rows : List Row) (r : ResultVar) (K : AV → Prop) : Prop :=
 match r with
 | .tmp t => K (envE env t)
 | .cell p t => placeW (z03 rows) (envE env p) fun cs => z5b P t cs K
def resW (P : Program) (env : List AV) (rows : List Row) (rs : List ResultVar) (K : AV → Prop) : Prop :=
 match rs with
 | [] => K (.sc undef)
 | [r] => z2u P env rows r K
 | [r, r2] => z2u P env rows r fun x => z2u P env rows r2 fun y => K (.tup [x, y])
 | [r, r2, r3] => z2u P env rows r fun x => z2u P env rows r2 fun y => z2u P env rows r3 fun z => K (.tup [x, y, z])
 | _ => False
def zkn (tmps : Array Value) : ResultVar → Sem Value
 | .tmp t => pure (tmps.getD t undef)
 | .cell a t => do loadVar t (← asAddr (tmps.getD a undef))
def frzA (H : Heap) : Nat → AV → Option AV
 | _, .sc u => some (.sc u)
 | _, .ro l => some (.ro l)
 | _, .rp l => some (.rp l)
 | _, .sl K n => match H K with
   | .lst _ l _ => if l.length = n then some (.ro l) else none
   | .fro l => if l.length = n then some (.ro l) else none
   | _ => none
 | f + 1, .agg l => (mapO (frzA H f) l).map .agg
 | f + 1, .tup l => (mapO (frzA H f) l).map .tup
 | _, _ => none
def retV (P : Program) (rs : List ResultVar) (r : AV) : QT := fun e env rows =>
 match e with
 | .ret | .normal => resW P env rows rs fun x => frzA (z03 rows) 3 x = some r
 | _ => False
section
variable {P : Program} {sp : Spec} {w0 w w' : World} {fp S0 : Nat → Prop} {I I' : Itp} {H H' : Heap} {n nx m p q : Nat} {E E' : Nat → AV} {a : Act} {env env' : List AV} {rows rows' : List Row}
theorem zfa (hm : Mem w0 fp S0 I H w) : ∀ (f : Nat) (x y : AV) (v : Value), frzA H f x = some y → VR I H w x v → VR { I with S := seen I H } (fun _ => .dead) w y v
 | f, .sc u, y, v, h, hv => by
   have : y = .sc u := by cases f <;> cases h <;> rfl
   subst this
   rw [hv.sc_inv]
   exact .cl _ _ (.sc _)
 | f, .ro l, y, v, h, hv => by
   have : y = .ro l := by cases f <;> cases h <;> rfl
   subst this
   exact .cl _ _ hv.ro_inv.seen
 | f, .rp l, y, v, h, hv => by
   have : y = .rp l := by cases f <;> cases h <;> rfl
   subst this
   exact .cl _ _ hv.rp_inv.seen
 | f, .sl K n, y, v, h, hv => by
   have h : (match H K with
    | .lst _ l _ => if l.length = n then some (AV.ro l) else none
    | .fro l => if l.length = n then some (.ro l) else none
    | _ => none) = some y := by cases f <;> exact h
   split at h <;> try (cases h; done)
   · rename_i sz l e hK
     split at h <;> cases h
     rename_i hl
     exact .cl _ _ (zbp hm (.inl ⟨sz, e, hK⟩) hl hv)
   · rename_i l hK
     split at h <;> cases h
     rename_i hl
     exact .cl _ _ (zbp hm (.inr hK) hl hv)
 | 0, .agg l, y, v, h, hv => by cases h
 | f + 1, .agg l, y, v, h, hv => by
   simp only [frzA, Option.map_eq_some_iff] at h
   obtain ⟨m, hm', rfl⟩ := h
   obtain ⟨vs, rfl, g1, g2, g3⟩ := hv.agg_inv
   obtain ⟨k1, k2⟩ := z3p (R := fun x v => VR I H w x v) (R' := fun y v => VR { I with S := seen I H } (fun _ => .dead) w y v) (fun x y v h hv => zfa hm f x y v h hv) hm' g1 g3
   exact .agg m vs k1 g2 k2
 | 0, .tup l, y, v, h, hv => by cases h
 | f + 1, .tup l, y, v, h, hv => by
   simp only [frzA, Option.map_eq_some_iff] at h
   obtain ⟨m, hm', rfl⟩ := h
   obtain ⟨vs, rfl, g1, g3⟩ := hv.tup_inv
   obtain ⟨k1, k2⟩ := z3p (R := fun x v => VR I H w x v) (R' := fun y v => VR { I with S := seen I H } (fun _ => .dead) w y v) (fun x y v h hv => zfa hm f x y v h hv) hm' g1 g3
   exact .tup m vs k1 k2
 | f, .fn g l, y, v, h, hv => by cases f <;> cases h
 | f, .ptr K o, y, v, h, hv => by cases f <;> cases h
 | f, .lp K n i j, y, v, h, hv => by cases f <;> cases h
 | f, .dead, y, v, h, hv => by cases f <;> cases h
theorem z40 (hR : RelS w0 fp S0 I env rows a w) {r : ResultVar} {K : AV → Prop} (h : z2u P env rows r K) : ∃ x v, K x ∧ VR I (z03 rows) w x v ∧ (zkn a.tmps r).run P w = .ok v w := by
 unfold z2u at h
 cases r with
 | tmp t => exact ⟨_, _, h, z1s hR (.tmp t), rfl⟩
 | cell p t =>
   obtain ⟨cs, g, o, vs, k1, k2, k3, k4, k5, k6⟩ := zcw hR.mem h (z1s hR (.tmp p))
   obtain ⟨x, v, q1, q2, q3⟩ := zgo (P := P) k1 k3 k4 k5 k6
   refine ⟨x, v, q1, q3, ?_⟩
   have k2 : a.tmps.getD p undef = .pointer (some ⟨g, o, none⟩) := k2
   unfold zkn
   simp only [k2, asAddr, Sem.run_bind, Sem.run_pure, Result.andThen_ok]
   simpa [Instr.loadAt, Instr.sureAddr, Sem.run_bind] using q2
theorem zrd (hR : RelS w0 fp S0 I env rows a w) {fn : Func} {K : AV → Prop} (h : resW P env rows fn.results.toList K) : ∃ x v, K x ∧ VR I (z03 rows) w x v ∧ (results fn a.tmps).run P w = .ok v w := by
 have hr : fn.results = fn.results.toList.toArray := by simp
 have hdef : results fn a.tmps = (do let vs ← fn.results.mapM (zkn a.tmps); pure (if h : vs.size = 1 then vs[0] else .tuple vs) : Sem Value) := by
  unfold results
  congr 1
 rw [hdef]
 generalize fn.results.toList = l at *
 unfold resW at h
 split at h <;> try exact h.elim
 · exact ⟨_, _, h, .cl _ _ (.sc _), by simp [hr]; rfl⟩
 · rename_i r
   obtain ⟨x, v, h1, h2, h3⟩ := z40 hR h
   refine ⟨x, v, h1, h2, ?_⟩
   simp [hr, Sem.run_bind, h3]
 · rename_i r r2
   obtain ⟨x, v, h, h2, h3⟩ := z40 hR h
   obtain ⟨x2, v2, h, h4, h5⟩ := z40 hR h
   refine ⟨_, .tuple [v, v2].toArray, h, .tup _ _ rfl (fun i y u a b => ?_), ?_⟩
   · match i with
     | 0 => simp at a b; subst a; subst b; exact h2
     | 1 => simp at a b; subst a; subst b; exact h4
     | i + 2 => simp at a
   · simp [hr, Sem.run_bind, h3, h5]
 · rename_i r r2 r3
   obtain ⟨x, v, h, h2, h3⟩ := z40 hR h
   obtain ⟨x2, v2, h, h4, h5⟩ := z40 hR h
   obtain ⟨x3, v3, h, h6, h7⟩ := z40 hR h
   refine ⟨_, .tuple [v, v2, v3].toArray, h, .tup _ _ rfl (fun i y u a b => ?_), ?_⟩
   · match i with
     | 0 => simp at a b; subst a; subst b; exact h2
     | 1 => simp at a b; subst a; subst b; exact h4
     | 2 => simp at a b; subst a; subst b; exact h6
     | i + 3 => simp at a
   · simp [hr, Sem.run_bind, h3, h5, h7]
theorem zko {S : Nat → Prop} (hS : ∀ k, S k → k < w.heap.size) {args : List AV} {vs : List Value} (hl : args.length = vs.length) (hv : ∀ (i : Nat) x v, args[i]? = some x → vs[i]? = some v → VC S w x v) (nt : Nat) :
 RelS w (fun _ => False) S ⟨fun _ => 0, fun _ => undef, fun _ => none, S⟩ (args ++ List.replicate (nt - args.length) (.sc undef)) [] { tmps := vs.toArray ++ Array.replicate (nt - vs.toArray.size) undef, defers := [] } w := by
 have hd : ∀ K, z03 [] K = .dead := fun K => rfl
 refine ⟨⟨Fr.refl _ _, fun K => by rw [hd]; trivial, fun K k hk => ?_, fun K K' k hk => ?_, hS, fun k hk => hk, fun k hk => .inl hk⟩, rfl, by simp [hl], fun i v h => ?_, fun i hi => ?_⟩
 · unfold Owns at hk; rw [hd] at hk; exact hk.elim
 · unfold Owns at hk; rw [hd] at hk; exact hk.elim
 · refine .cl _ _ ?_
   unfold envE
   rw [List.getD_eq_getElem?_getD]
   by_cases hi : i < args.length
   · rw [List.getElem?_append_left hi]
     have h2 : vs[i]? = some v := by
      rw [Array.getElem?_append_left (by simp; omega)] at h
      simpa using h
     rw [List.getElem?_eq_getElem hi]
     exact hv i _ v (List.getElem?_eq_getElem hi) h2
   · rw [List.getElem?_append_right (by omega)]
     rw [Array.getElem?_append_right (by simp; omega)] at h
     simp only [List.size_toArray] at h
     rw [Array.getElem?_replicate] at h
     split at h
     · rename_i hlt
       cases h
       rw [List.getElem?_replicate, if_pos (by omega)]
       exact .sc _
     · cases h
 · unfold envE
   rw [List.getD_eq_getElem?_getD, List.getElem?_eq_none hi]
   rfl
def zkp : Nat → AV → Prop
 | 0, _ => True
 | f + 1, .agg l | f + 1, .rp l => ∀ x ∈ l, zkp f x
 | f + 1, .ro l => l.length ≤ 9223372036854775807 ∧ ∀ e ∈ l, ∀ x ∈ e, zkp f x
 | _ + 1, _ => True
theorem zsm {α : Type} {C : Cod α} {S : Nat → Prop} {v : Value} {l : List α} (h : Rd C w S v l) : l.length ≤ 9223372036854775807 := by
 obtain ⟨A, cap, -, h1, h2, -⟩ := h
 simp only [maxLen] at h2
 omega
theorem zgz {S : Nat → Prop} : ∀ (f : Nat) (x : AV) (v : Value), VC S w x v → zkp f x
 | 0, _, _, _ => trivial
 | f + 1, x, v, h => by
   cases h with
   | sc u => trivial
   | fn => trivial
   | agg l vs hl h1 h2 =>
     intro x hx
     obtain ⟨i, hi, rfl⟩ := List.getElem_of_mem hx
     exact zgz f _ _ (h2 i _ _ (List.getElem?_eq_getElem hi) (List.getElem?_eq_getElem (by omega)))
   | rp l g o vs hg hc hl h1 h2 =>
     intro x hx
     obtain ⟨i, hi, rfl⟩ := List.getElem_of_mem hx
     exact zgz f _ _ (h2 i _ _ (List.getElem?_eq_getElem hi) (List.getElem?_eq_getElem (by omega)))
   | ro l sz hz cs u hr hl hn h2 =>
     refine ⟨by rw [hl]; exact zsm hr, fun e he x hx => ?_⟩
     obtain ⟨i, hi, rfl⟩ := List.getElem_of_mem he
     obtain ⟨j, hj, rfl⟩ := List.getElem_of_mem hx
     have hw := hn i _ (List.getElem?_eq_getElem hi)
     have hic : i < cs.length := by omega
     exact zgz f _ _ (h2 i j _ (cs[i]) _ _ (List.getElem?_eq_getElem hi) (List.getElem?_eq_getElem hic) (List.getElem?_eq_getElem hj) (List.getElem?_eq_getElem (by rw [(cs[i]).2.1]; omega)))
theorem zd8 (fl : List (Nat × Fls)) {Φ : World → Prop} (hsp : ∀ w, Φ w → SpecOk P sp w (fun _ => False)) (hmix : P.follows .mixedOrders = true) {f : FuncId} {fn : Func} {c : Code} (hf : P.funcs[f]? = some fn) (hb : fn.body = some c) {args : List AV} {r : AV}
 (h : (∀ x ∈ args, zkp 6 x) → aw P sp fl c (retV P fn.results.toList r) (args ++ List.replicate (fn.ntmps - args.length) (.sc undef)) [])   : Con P Φ f args r [] := by
 intro w hΦ S vs hS hl hv
 have h := h (fun x hx => by
  obtain ⟨i, hi, rfl⟩ := List.getElem_of_mem hx
  exact zgz 6 _ _ (hv i _ _ (List.getElem?_eq_getElem hi) (List.getElem?_eq_getElem (by omega))))
 refine calls_of_wp hf hb (wp_mono (ztf (hsp w hΦ) hmix c _ _ _ _ _ _ h rfl (zko hS hl hv fn.ntmps)) fun e a' w' hh => ?_)
 obtain ⟨I, env, rows, h1, h2, h3⟩ := hh
 have fin : resW P env rows fn.results.toList (fun x => frzA (z03 rows) 3 x = some r) → a'.defers = [] ∧ ∃ v, (results fn a'.tmps).run P w' = .ok v w' ∧ ∃ v_1 I', Ending.returned v = .returned v_1 ∧ Mem w (fun _ => False) S I' (z03 []) w' ∧ VR I' (z03 []) w' r v_1 := fun h1 => by
  obtain ⟨x, v, k1, k2, k3⟩ := zrd h3 h1
  refine ⟨h3.df, v, k3, v, _, rfl, ?_, zfa h3.mem 3 x r v k1 k2⟩
  have hd : ∀ K, z03 [] K = .dead := fun K => rfl
  refine ⟨h3.mem.fr, fun K => by rw [hd]; trivial, fun K k hk => ?_, fun K K' k hk => ?_, fun k hk => ?_, fun k hk => .inl (h3.mem.s0 k hk), fun k hk => ?_⟩
  · unfold Owns at hk; rw [hd] at hk; exact hk.elim
  · unfold Owns at hk; rw [hd] at hk; exact hk.elim
  · rcases hk with hk | ⟨K, hk⟩
    · exact h3.mem.slt k hk
    · exact (h3.mem.own K k hk).1
  · rcases hk with hk | ⟨K, hk⟩
    · exact h3.mem.snew k hk
    · exact .inr ((h3.mem.own K k hk).2.2.resolve_left (fun h => h))
 cases e with
 | normal => exact fin h1
 | ret => exact fin h1
 | exit id => exact h1.elim
 | goto l => exact h1.elim
 | panic ch => exact h1.elim
 | outgrown => exact h1.elim
end
end Go.Proofs.YtncecbgpkoihpaaGreatDoor.Aw
