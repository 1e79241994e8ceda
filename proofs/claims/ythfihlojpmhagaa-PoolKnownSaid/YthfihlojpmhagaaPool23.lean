/- PoolOnce's plain law: what is so while numbered events are put, deferred, told. -/
import Derived.Test.YthfihlojpmhagaaPool20
namespace Go.Proofs.Ythfihlojpmhagaa

def num (e : Ev) : Int := e.at_ + e.arg
def dEv (n : Nat) : Ev := ⟨1, ⟨#[]⟩, 0, n⟩
def tEv (n : Nat) : Ev := ⟨3, ⟨#[]⟩, 0, n⟩
def cEv (n : Nat) : Ev := ⟨2, ⟨#[97]⟩, n, 0⟩
theorem num_d (n : Nat) : num (dEv n) = n := by simp [num, dEv]
theorem num_t (n : Nat) : num (tEv n) = n := by simp [num, tEv]
theorem num_c (n : Nat) : num (cEv n) = n := by simp [num, cEv]
def PSt.all (s : PSt) : List Ev := s.L 0 ++ s.L 1 ++ s.L 2

structure Once (i : Nat) (s : PSt) (T : List Int) (dn ot : Int) (df : Bool) : Prop where
  room : s.room ≤ 256
  pos : 1 ≤ s.room
  fits : (s.tot : Int) ≤ s.room
  sh0 : ∀ e ∈ s.L 0, ∃ n, e = dEv n
  sh1 : ∀ e ∈ s.L 1, ∃ n, e = tEv n ∨ e = cEv n
  sh2 : ∀ e ∈ s.L 2, ∃ n, e = cEv n
  rng : ∀ e ∈ s.all, 0 ≤ num e ∧ num e < i
  told : ∀ e ∈ s.all, T[(num e).toNat]? = some 0
  nodup : (s.all.map num).Nodup
  later : ∀ n, i ≤ n → n < T.length → T[n]? = some 0
  dn0 : -1 ≤ dn ∧ dn < i
  ot0 : -1 ≤ ot ∧ ot < i
  inc0 : ((s.L 0).map num).Pairwise (· < ·)
  gt0 : ∀ e ∈ s.L 0, dn < num e
  nodef : df = false → s.L 2 = [] ∧ ((s.L 1).map num).Pairwise (· < ·) ∧ ∀ e ∈ s.L 1, ot < num e

theorem Once.tot {i : Nat} {s : PSt} {T : List Int} {dn ot : Int} {df : Bool} (h : Once i s T dn ot df) : s.tot ≤ 1000000 := by
  have := h.room
  have := h.fits
  omega
theorem Once.start (room : Int) (n : Nat) : Once 0 ⟨newRoom room, fun _ => []⟩ (List.replicate n 0) (-1) (-1) false := by
  have hr := newRoom_le room
  refine ⟨hr.2, hr.1, by simp [PSt.tot]; omega, by simp, by simp, by simp, by simp [PSt.all], by simp [PSt.all], by simp [PSt.all], ?_, by omega, by omega, by simp, by simp, fun _ => by simp⟩
  intro k _ hk
  simp at hk
  simp [hk]

section
variable {i : Nat} {s : PSt} {T : List Int} {dn ot : Int} {df : Bool}
theorem Once.mono (h : Once i s T dn ot df) : Once (i + 1) s T dn ot df :=
  { h with
    rng := fun e he => by have := h.rng e he; omega
    later := fun n hn hl => h.later n (by omega) hl
    dn0 := by have := h.dn0; omega
    ot0 := by have := h.ot0; omega }

theorem push_tot (s : PSt) {r : Nat} (hr : r < 3) (e : Ev) : (s.push r e).tot = s.tot + 1 := by
  unfold PSt.tot PSt.push
  rcases r with _ | _ | _ | r
  · simp [upd]; omega
  · simp [upd]; omega
  · simp [upd]; omega
  · omega
theorem push_perm (s : PSt) {r : Nat} (hr : r < 3) (e : Ev) : ((s.push r e).all).Perm (e :: s.all) := by
  unfold PSt.all PSt.push
  rcases r with _ | _ | _ | r
  · show (s.L 0 ++ [e] ++ s.L 1 ++ s.L 2).Perm _
    simp only [List.append_assoc, List.singleton_append]
    exact List.perm_middle
  · show (s.L 0 ++ (s.L 1 ++ [e]) ++ s.L 2).Perm _
    have : s.L 0 ++ (s.L 1 ++ [e]) ++ s.L 2 = (s.L 0 ++ s.L 1) ++ e :: s.L 2 := by simp
    rw [this]
    exact List.perm_middle
  · show (s.L 0 ++ s.L 1 ++ (s.L 2 ++ [e])).Perm _
    have : s.L 0 ++ s.L 1 ++ (s.L 2 ++ [e]) = (s.L 0 ++ s.L 1 ++ s.L 2) ++ e :: [] := by simp
    rw [this]
    have h := List.perm_middle (a := e) (l₁ := s.L 0 ++ s.L 1 ++ s.L 2) (l₂ := [])
    rwa [List.append_nil] at h
  · omega

/-- one more, of number i -/
theorem Once.push_any (h : Once i s T dn ot df) (hi : i < T.length) {r : Nat} (hr : r < 3) {e : Ev} (hn : num e = i) (hfit : (s.tot : Int) < s.room)
    (sh0 : r = 0 → ∃ n, e = dEv n) (sh1 : r = 1 → ∃ n, e = tEv n ∨ e = cEv n) (sh2 : r = 2 → ∃ n, e = cEv n) (df' : Bool) (hdf : df' = false → df = false ∧ r ≠ 2) : Once (i + 1) (s.push r e) T dn ot df' := by
  have hp := push_perm s hr e
  have hmem : ∀ x, x ∈ (s.push r e).all → x = e ∨ x ∈ s.all := fun x hx => by simpa using hp.mem_iff.1 hx
  have hL : ∀ j x, x ∈ (s.push r e).L j → (j = r ∧ x = e) ∨ x ∈ s.L j := by
    intro j x hx
    by_cases hj : j = r
    · subst hj
      simp only [PSt.push, upd_same, List.mem_append, List.mem_singleton] at hx
      rcases hx with hx | hx
      · exact .inr hx
      · exact .inl ⟨rfl, hx⟩
    · simp only [PSt.push, upd_other _ _ hj] at hx
      exact .inr hx
  have hall : ∀ j, j < 3 → ∀ x ∈ s.L j, x ∈ s.all := by
    intro j hj x hx
    unfold PSt.all
    rcases j with _ | _ | _ | j <;> first | omega | simp [hx]
  have hpw : ∀ l : List Ev, (l.map num).Pairwise (· < ·) → (∀ x ∈ l, num x < i) → ((l ++ [e]).map num).Pairwise (· < ·) := by
    intro l h1 h2
    rw [List.map_append, List.pairwise_append]
    refine ⟨h1, by simp, ?_⟩
    intro a ha b hb
    simp only [List.map_cons, List.map_nil, List.mem_singleton] at hb
    obtain ⟨x, hx, rfl⟩ := List.mem_map.1 ha
    have := h2 x hx
    omega
  refine ⟨h.room, h.pos, by rw [push_tot s hr e]; show ((s.tot + 1 : Nat) : Int) ≤ s.room; omega, ?_, ?_, ?_, ?_, ?_, ?_, fun n hn hl => h.later n (by omega) hl, by have := h.dn0; omega, by have := h.ot0; omega, ?_, ?_, ?_⟩
  · intro x hx
    rcases hL 0 x hx with ⟨h0, rfl⟩ | h1
    · exact sh0 h0.symm
    · exact h.sh0 x h1
  · intro x hx
    rcases hL 1 x hx with ⟨h0, rfl⟩ | h1
    · exact sh1 h0.symm
    · exact h.sh1 x h1
  · intro x hx
    rcases hL 2 x hx with ⟨h0, rfl⟩ | h1
    · exact sh2 h0.symm
    · exact h.sh2 x h1
  · intro x hx
    rcases hmem x hx with rfl | h1
    · rw [hn]; omega
    · have := h.rng x h1; omega
  · intro x hx
    rcases hmem x hx with rfl | h1
    · rw [hn]; exact h.later i (Nat.le_refl _) hi
    · exact h.told x h1
  · rw [(hp.map num).nodup_iff, List.map_cons, List.nodup_cons]
    refine ⟨fun hc => ?_, h.nodup⟩
    obtain ⟨x, hx, hxe⟩ := List.mem_map.1 hc
    have := (h.rng x hx).2
    omega
  · by_cases h0 : r = 0
    · subst h0
      simp only [PSt.push, upd_same]
      exact hpw _ h.inc0 (fun x hx => (h.rng x (hall 0 (by omega) x hx)).2)
    · simp only [PSt.push, upd_other _ _ (Ne.symm h0)]
      exact h.inc0
  · intro x hx
    rcases hL 0 x hx with ⟨-, rfl⟩ | h1
    · rw [hn]; exact h.dn0.2
    · exact h.gt0 x h1
  · intro hf
    obtain ⟨hd, hr2⟩ := hdf hf
    obtain ⟨n1, n2, n3⟩ := h.nodef hd
    refine ⟨by simp only [PSt.push, upd_other _ _ (Ne.symm hr2)]; exact n1, ?_, ?_⟩
    · by_cases h1 : r = 1
      · subst h1
        simp only [PSt.push, upd_same]
        exact hpw _ n2 (fun x hx => (h.rng x (hall 1 (by omega) x hx)).2)
      · simp only [PSt.push, upd_other _ _ (Ne.symm h1)]
        exact n2
    · intro x hx
      rcases hL 1 x hx with ⟨-, rfl⟩ | h1
      · rw [hn]; exact h.ot0.2
      · exact n3 x h1

theorem Once.put (h : Once i s T dn ot df) (hi : i < T.length) : Once (i + 1) (putS s (dEv i)).2 T dn ot df ∧ Once (i + 1) (putS s (tEv i)).2 T dn ot df := by
  have hd : mayB (dEv i) = true := by simp [mayB, dEv]
  have ht : mayB (tEv i) = true := by simp [mayB, tEv]
  unfold putS addS
  rw [hd, ht]
  simp only [Bool.true_eq_false, if_false]
  by_cases hf : s.room ≤ s.tot
  · rw [if_pos hf, if_pos hf]; exact ⟨h.mono, h.mono⟩
  · rw [if_neg hf, if_neg hf, if_pos (by rfl), if_neg (by simp [tEv])]
    exact ⟨h.push_any hi (by omega) (num_d i) (by omega) (fun _ => ⟨i, rfl⟩) (fun h => by omega) (fun h => by omega) df (fun h => ⟨h, by omega⟩),
      h.push_any hi (by omega) (num_t i) (by omega) (fun h => by omega) (fun _ => ⟨i, .inl rfl⟩) (fun h => by omega) df (fun h => ⟨h, by omega⟩)⟩
theorem Once.defer (h : Once i s T dn ot df) (hi : i < T.length) : Once (i + 1) (deferS s (cEv i)).2 T dn ot true := by
  have hd : mayB (cEv i) = true := by simp [mayB, cEv]
  unfold deferS addS
  rw [hd]
  simp only [cEv, decide_true, Bool.and_true, Bool.true_eq_false, if_false]
  by_cases hf : s.room ≤ s.tot
  · rw [if_pos hf]; exact { h.mono with nodef := fun h => by cases h }
  · rw [if_neg hf]
    exact h.push_any hi (by omega) (num_c i) (by omega) (fun h => by omega) (fun h => by omega) (fun _ => ⟨i, rfl⟩) true (fun h => by cases h)
theorem Once.recall (h : Once i s T dn ot df) : Once (i + 1) s.recall T dn ot df := by
  have hp : s.recall.all.Perm s.all := by
    show (s.L 0 ++ (s.L 2 ++ s.L 1) ++ []).Perm (s.L 0 ++ s.L 1 ++ s.L 2)
    rw [List.append_nil, List.append_assoc]
    exact List.Perm.append_left _ List.perm_append_comm
  have e0 : s.recall.L 0 = s.L 0 := rfl
  have e1 : s.recall.L 1 = s.L 2 ++ s.L 1 := rfl
  have e2 : s.recall.L 2 = [] := rfl
  refine ⟨h.room, h.pos, ?_, h.sh0, ?_, by rw [e2]; simp, fun e he => ?_, fun e he => h.told e (hp.mem_iff.1 he), (hp.map num).nodup_iff.2 h.nodup, fun n hn hl => h.later n (by omega) hl, by have := h.dn0; omega, by have := h.ot0; omega, h.inc0, h.gt0, fun hf => ?_⟩
  · have := h.fits
    unfold PSt.tot at *
    rw [e0, e1, e2]
    show _ ≤ s.room
    simp
    omega
  · intro e he
    rw [e1] at he
    rcases List.mem_append.1 he with h1 | h1
    · obtain ⟨n, hn⟩ := h.sh2 e h1
      exact ⟨n, .inr hn⟩
    · exact h.sh1 e h1
  · have := h.rng e (hp.mem_iff.1 he); omega
  · obtain ⟨n1, n2, n3⟩ := h.nodef hf
    rw [e1, e2, n1]
    exact ⟨rfl, n2, n3⟩

/-- the first done one is told -/
theorem Once.next0 (h : Once i s T dn ot df) {n : Nat} {l : List Ev} (hl : s.L 0 = dEv n :: l) : (n < i ∧ n < T.length ∧ T[n]? = some 0 ∧ dn < n) ∧ Once (i + 1) ⟨s.room, upd s.L 0 l⟩ (T.set n 1) n ot df := by
  have hall : s.all = dEv n :: (l ++ s.L 1 ++ s.L 2) := by unfold PSt.all; rw [hl]; simp
  have hall' : (⟨s.room, upd s.L 0 l⟩ : PSt).all = l ++ s.L 1 ++ s.L 2 := rfl
  have hm : dEv n ∈ s.all := by rw [hall]; simp
  have hr := h.rng _ hm
  have ht := h.told _ hm
  have hg := h.gt0 (dEv n) (by rw [hl]; simp)
  rw [num_d] at hr ht hg
  simp only [Int.toNat_natCast] at ht
  have hnl : n < T.length := (List.getElem?_eq_some_iff.1 ht).1
  have hnd := h.nodup
  rw [hall, List.map_cons, List.nodup_cons, num_d] at hnd
  have hinc := h.inc0
  rw [hl, List.map_cons, List.pairwise_cons, num_d] at hinc
  have hsub : ∀ x ∈ l ++ s.L 1 ++ s.L 2, x ∈ s.all := fun x hx => by rw [hall]; exact List.mem_cons_of_mem _ hx
  refine ⟨⟨by omega, hnl, ht, hg⟩, h.room, h.pos, ?_, fun e he => h.sh0 e (by rw [hl]; exact List.mem_cons_of_mem _ he), h.sh1, h.sh2, fun e he => ?_, fun e he => ?_, hnd.2, fun k hk hkl => ?_, by omega, by have := h.ot0; omega, hinc.2, fun e he => hinc.1 _ (List.mem_map_of_mem he), h.nodef⟩
  · have := h.fits
    unfold PSt.tot at *
    rw [hl] at this
    simp [upd] at *
    omega
  · have := h.rng e (hsub e (by rw [← hall']; exact he)); omega
  · rw [hall'] at he
    have h1 := h.told e (hsub e he)
    have h2 := h.rng e (hsub e he)
    have hne : n ≠ (num e).toNat := fun hc => hnd.1 (List.mem_map.2 ⟨e, he, by omega⟩)
    rw [List.getElem?_set_ne hne]
    exact h1
  · rw [List.length_set] at hkl
    rw [List.getElem?_set_ne (by omega)]
    exact h.later k (by omega) hkl
/-- the first other one is told -/
theorem Once.next1 (h : Once i s T dn ot df) {e : Ev} {n : Nat} {l : List Ev} (hn : num e = n) (h0 : s.L 0 = []) (hl : s.L 1 = e :: l) : (n < i ∧ n < T.length ∧ T[n]? = some 0 ∧ (df = false → ot < n)) ∧ Once (i + 1) ⟨s.room, upd s.L 1 l⟩ (T.set n 1) dn n df := by
  have hall : s.all = e :: (l ++ s.L 2) := by unfold PSt.all; rw [h0, hl]; simp
  have hall' : (⟨s.room, upd s.L 1 l⟩ : PSt).all = l ++ s.L 2 := by
    show upd s.L 1 l 0 ++ upd s.L 1 l 1 ++ upd s.L 1 l 2 = _
    rw [upd_same, upd_other _ _ (by omega), upd_other _ _ (by omega), h0]
    rfl
  have hm : e ∈ s.all := by rw [hall]; simp
  have hr := h.rng _ hm
  have ht := h.told _ hm
  rw [hn] at hr ht
  simp only [Int.toNat_natCast] at ht
  have hnl : n < T.length := (List.getElem?_eq_some_iff.1 ht).1
  have hnd := h.nodup
  rw [hall, List.map_cons, List.nodup_cons, hn] at hnd
  have hsub : ∀ x ∈ l ++ s.L 2, x ∈ s.all := fun x hx => by rw [hall]; exact List.mem_cons_of_mem _ hx
  refine ⟨⟨by omega, hnl, ht, fun hf => ?_⟩, h.room, h.pos, ?_, h.sh0, fun x hx => ?_, h.sh2, fun x hx => ?_, fun x hx => ?_, by rw [hall']; exact hnd.2, fun k hk hkl => ?_, by have := h.dn0; omega, by omega, h.inc0, h.gt0, fun hf => ?_⟩
  · have := (h.nodef hf).2.2 e (by rw [hl]; simp)
    omega
  · have := h.fits
    unfold PSt.tot at *
    rw [hl] at this
    simp [upd] at *
    omega
  · replace hx : x ∈ l := by simpa [upd] using hx
    exact h.sh1 x (by rw [hl]; exact List.mem_cons_of_mem _ hx)
  · have := h.rng x (hsub x (by rw [← hall']; exact hx)); omega
  · rw [hall'] at hx
    have h1 := h.told x (hsub x hx)
    have h2 := h.rng x (hsub x hx)
    have hne : n ≠ (num x).toNat := fun hc => hnd.1 (List.mem_map.2 ⟨x, hx, by omega⟩)
    rw [List.getElem?_set_ne hne]
    exact h1
  · rw [List.length_set] at hkl
    rw [List.getElem?_set_ne (by omega)]
    exact h.later k (by omega) hkl
  · obtain ⟨n1, n2, n3⟩ := h.nodef hf
    rw [hl, List.map_cons, List.pairwise_cons, hn] at n2
    refine ⟨n1, by simpa [upd] using n2.2, fun x hx => ?_⟩
    replace hx : x ∈ l := by simpa [upd] using hx
    exact n2.1 _ (List.mem_map_of_mem hx)
end
end Go.Proofs.Ythfihlojpmhagaa
